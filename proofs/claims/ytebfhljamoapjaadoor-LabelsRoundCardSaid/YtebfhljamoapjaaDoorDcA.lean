
/- Contracts of intervalmonref01.Around. labels.Name and labels.Value at any string. The reference's Name and Value at any string. labels.Valid at label sets. The reference's New, Same, Valid at label sets. -/
import Derived.Test.YtebfhljamoapjaaDoorProg
import Derived.Test.YtebfhljamoapjaaDoorMem
import Derived.WalkKit
import Derived.Lib.Hide
import Derived.Deep.QuietTactic
import Derived.BigQuiet
import Derived.Outline
import Derived.Handy
import Derived.WalkLawsBesides
import Derived.Laws.RangeString
import Derived.Laws.RangeAny
import Derived.Deep.CutBlock
import Derived.Deep.DeepCutAuto
import Derived.Deep.RegionHeld3
namespace Go.Proofs.YtebfhljamoapjaaDoor
open Go.RowKit

/-- What Around returns: n modulo m, never negative. -/
def arnd (n m : Int) : Int := (if n < 0 then -(n + 1) else n) % m
theorem arnd_nn (n m : Int) (h : 1 ≤ m) : 0 ≤ arnd n m := Int.emod_nonneg _ (by omega)
theorem arnd_lt (n m : Int) (h : 1 ≤ m) : arnd n m < m := Int.emod_lt_of_pos _ (by omega)

theorem around_any (n m : Int) (w : World) (hn : I64 n) (hm : 1 ≤ m) (hm2 : m ≤ 9223372036854775807) :
    Calls Tryd.prog 12 #[.int .i64 n, .int .i64 m] w fun e w' => e = .returned (.int .i64 (arnd n m)) ∧ w' = w := by
  obtain ⟨h0, h1⟩ := hn
  by_cases h : n < 0
  · have e : arnd n m = -(n + 1).tmod m := by
      rw [← Int.neg_tmod, Int.tmod_eq_emod_of_nonneg (by omega)]
      simp [arnd, h]
    have E := Lib.hid e
    clear e
    go_enter Tryd.func12, Tryd.ntmps12
    go_wp2
    go_ret
    rw [E.out]
    exact ⟨rfl, rfl⟩
  · have e : arnd n m = n % m := by simp [arnd, h]
    have E := Lib.hid e
    clear e
    go_enter Tryd.func12, Tryd.ntmps12
    go_wp2
    go_ret
    rw [E.out]
    exact ⟨rfl, rfl⟩
end Go.Proofs.YtebfhljamoapjaaDoor
namespace Go.Proofs.YtebfhljamoapjaaDoor
open Go.RowKit
set_option linter.unusedVariables false
set_option linter.unusedSimpArgs false

/-- A call that answers v and makes at most new blocks. -/
def Ans (w : World) (v : Value) (e : Ending) (w' : World) : Prop := e = .returned v ∧ Below w.heap.size w w'

/-- A byte of a name, at place i. -/
def chOk (i c : Nat) : Prop := (97 ≤ c ∧ c ≤ 122) ∨ (i ≠ 0 ∧ (c = 95 ∨ (48 ≤ c ∧ c ≤ 57)))
instance (i c : Nat) : Decidable (chOk i c) := by unfold chOk; infer_instance
/-- A name. -/
def nameB (s : ByteArray) : Bool := decide (1 ≤ s.size ∧ s.size ≤ 16 ∧ ∀ i, (h : i < s.size) → chOk i s[i].toNat)

theorem decode_high (s : ByteArray) (pos : Nat) (h : pos < s.size) (hc : 128 ≤ s[pos].toNat) : 128 ≤ (Utf8.decode s pos).1 := by
  have e : s.get! (pos + 0) = s[pos]'h := by
    show s.get! pos = _
    simp [ByteArray.get!, getElem!_pos, h]
    rfl
  have hb : ∀ k, (s.get! (pos + k)).toNat < 256 := fun k => (s.get! (pos + k)).toNat_lt
  have h1 := hb 1; have h2 := hb 2; have h3 := hb 3
  rw [← e] at hc
  simp only [Utf8.decode]
  repeat' split
  all_goals simp_all [Utf8.runeError]
  all_goals omega

theorem below_iter (w : World) (s : ByteArray) (k : Nat) : Below w.heap.size w (w.iter s k) := (Below.refl _ _).alloc (Nat.le_refl _) _

set_option maxHeartbeats 1000000 in
theorem name_any (s : ByteArray) (w : World) (hs : s.size ≤ 9223372036854775807) : Calls Tryd.prog 22 #[.string s] w (Ans w (.bool (nameB s))) := by
  by_cases h1 : s.size < 1
  · have hn : nameB s = false := by simp [nameB]; omega
    rw [hn]
    go_enter Tryd.func22, Tryd.ntmps22
    go_wp2
    go_ret
    exact ⟨rfl, Below.refl _ _⟩
  by_cases h2 : 16 < s.size
  · have hn : nameB s = false := by simp [nameB]; omega
    rw [hn]
    go_enter Tryd.func22, Tryd.ntmps22
    go_wp2
    go_ret
    exact ⟨rfl, Below.refl _ _⟩
  have hN : Hid (nameB s = true ↔ ∀ i, (h : i < s.size) → chOk i s[i].toNat) := Lib.hid (by
    unfold nameB
    rw [decide_eq_true_iff]
    exact ⟨fun h => h.2.2, fun h => ⟨by omega, by omega, h⟩⟩)
  generalize nameB s = B at *
  go_enter Tryd.func22, Tryd.ntmps22
  go_wp2
  go_loopw [2] (fun _ wr => ∃ k : Nat, k ≤ s.size ∧ wr = w.iter s k ∧ Hid (∀ i, (h : i < s.size) → i < k → chOk i s[i].toNat)) (fun _ wr => s.size - wr.iterPos w.heap.size)
  case atStart => exact ⟨0, Nat.zero_le _, rfl, Lib.hid (fun i _ h => absurd h (by omega))⟩
  case round =>
    obtain ⟨k, hk, rfl, hok⟩ := hrel
    by_cases hlt : k < s.size
    · by_cases ha : s[k].toNat < 128
      · have hnx := fun ty => run_next_ascii (P := Tryd.prog) w s k ty hlt ha
        have hstep : chOk k s[k].toNat → ∀ i, (h : i < s.size) → i < k + 1 → chOk i s[i].toNat := fun hc i hi hik => by
          by_cases he : i = k
          · subst he; exact hc
          · exact hok.out i hi (by omega)
        have Hstep := Lib.hid hstep
        have hbad : ¬ chOk k s[k].toNat → B = false := fun hc => by
          cases hB : B with
          | false => rfl
          | true => exact absurd (hN.out.1 hB k hlt) hc
        have Hbad := Lib.hid hbad
        clear hstep hbad
        obtain ⟨c, hc⟩ : ∃ c, s[k].toNat = c := ⟨_, rfl⟩
        simp only [hc] at hnx ha Hstep Hbad
        clear hc
        have hkk : k < 16 := by omega
        rcases (show (97 ≤ c ∧ c ≤ 122) ∨ (c < 97 ∧ k = 0) ∨ (122 < c ∧ k = 0) ∨ (k ≠ 0 ∧ c = 95) ∨ (k ≠ 0 ∧ 48 ≤ c ∧ c ≤ 57) ∨ (k ≠ 0 ∧ c < 48) ∨ (k ≠ 0 ∧ 57 < c ∧ c < 97 ∧ c ≠ 95) ∨ (k ≠ 0 ∧ 122 < c) by omega) with h | h | h | h | h | h | h | h
        · obtain ⟨h3, h4⟩ := h
          go_wp2
          go_roundw
          case rel => exact ⟨k + 1, by omega, rfl, Lib.hid (Hstep.out (.inl ⟨h3, h4⟩))⟩
          case measure => simp; omega
        · obtain ⟨h3, rfl⟩ := h
          obtain rfl := Hbad.out (by unfold chOk; omega)
          go_wp2
          go_ret
          exact ⟨rfl, below_iter _ _ _⟩
        · obtain ⟨h3, rfl⟩ := h
          obtain rfl := Hbad.out (by unfold chOk; omega)
          have hd : decide ((c : Int) ≤ 122) = false := decide_eq_false (by omega)
          go_wp2
          go_ret
          exact ⟨rfl, below_iter _ _ _⟩
        · obtain ⟨h3, rfl⟩ := h
          have h5 : ((k : Int) == 0) = false := beq_eq_false_iff_ne.2 (by omega)
          go_wp2
          go_roundw
          case rel => exact ⟨k + 1, by omega, rfl, Lib.hid (Hstep.out (.inr ⟨h3, .inl rfl⟩))⟩
          case measure => simp; omega
        · obtain ⟨h3, h4, h6⟩ := h
          have h5 : ((k : Int) == 0) = false := beq_eq_false_iff_ne.2 (by omega)
          have h7 : ((c : Int) != 95) = true := by rw [bne_iff_ne]; omega
          go_wp2
          go_roundw
          case rel => exact ⟨k + 1, by omega, rfl, Lib.hid (Hstep.out (.inr ⟨h3, .inr ⟨h4, h6⟩⟩))⟩
          case measure => simp; omega
        · obtain ⟨h3, h4⟩ := h
          have h5 : ((k : Int) == 0) = false := beq_eq_false_iff_ne.2 (by omega)
          have h7 : ((c : Int) != 95) = true := by rw [bne_iff_ne]; omega
          obtain rfl := Hbad.out (by unfold chOk; omega)
          go_wp2
          go_ret
          exact ⟨rfl, below_iter _ _ _⟩
        · obtain ⟨h3, h4, h6, h8⟩ := h
          have h5 : ((k : Int) == 0) = false := beq_eq_false_iff_ne.2 (by omega)
          have h7 : ((c : Int) != 95) = true := by rw [bne_iff_ne]; omega
          obtain rfl := Hbad.out (by unfold chOk; omega)
          go_wp2
          go_ret
          exact ⟨rfl, below_iter _ _ _⟩
        · obtain ⟨h3, h4⟩ := h
          have h5 : ((k : Int) == 0) = false := beq_eq_false_iff_ne.2 (by omega)
          have h7 : ((c : Int) != 95) = true := by rw [bne_iff_ne]; omega
          obtain rfl := Hbad.out (by unfold chOk; omega)
          have hd : decide ((c : Int) ≤ 122) = false := decide_eq_false (by omega)
          go_wp2
          go_ret
          exact ⟨rfl, below_iter _ _ _⟩
      · have hnx := fun ty => run_next_any (P := Tryd.prog) w s k ty hlt
        have hhi := decode_high s k hlt (by omega)
        have hle := decode_le s k
        have hB : B = false := by
          cases hB : B with
          | false => rfl
          | true =>
            have := hN.out.1 hB k hlt
            unfold chOk at this
            omega
        subst hB
        generalize (Utf8.decode s k).1 = c at *
        generalize (Utf8.decode s k).2 = m at *
        by_cases hk0 : k = 0
        · subst hk0
          have hd : decide ((c : Int) ≤ 122) = false := decide_eq_false (by omega)
          go_wp2
          go_ret
          exact ⟨rfl, below_iter _ _ _⟩
        · have h5 : ((k : Int) == 0) = false := beq_eq_false_iff_ne.2 (by omega)
          have h7 : ((c : Int) != 95) = true := by rw [bne_iff_ne]; omega
          have hd : decide ((c : Int) ≤ 122) = false := decide_eq_false (by omega)
          go_wp2
          go_ret
          exact ⟨rfl, below_iter _ _ _⟩
    · have hend := fun ty => run_next_end (P := Tryd.prog) w s k ty hlt
      have hB : B = true := hN.out.2 (fun i hi => hok.out i hi (by omega))
      subst hB
      go_wp2
      go_ret
      exact ⟨rfl, below_iter _ _ _⟩

/-- A byte of a label value. -/
def vOk (c : Nat) : Prop := 33 ≤ c ∧ c ≤ 126 ∧ c ≠ 34 ∧ c ≠ 92 ∧ c ≠ 44 ∧ c ≠ 123 ∧ c ≠ 125
instance (c : Nat) : Decidable (vOk c) := by unfold vOk; infer_instance
/-- A label value. -/
def valueB (s : ByteArray) : Bool := decide (s.size ≤ 16 ∧ ∀ i, (h : i < s.size) → vOk s[i].toNat)

set_option maxHeartbeats 1000000 in
theorem value_any (s : ByteArray) (w : World) (hs : s.size ≤ 9223372036854775807) : Calls Tryd.prog 23 #[.string s] w (Ans w (.bool (valueB s))) := by
  by_cases h2 : 16 < s.size
  · have hn : valueB s = false := by simp [valueB]; omega
    rw [hn]
    go_enter Tryd.func23, Tryd.ntmps23
    go_wp2
    go_ret
    exact ⟨rfl, Below.refl _ _⟩
  have hN : Hid (valueB s = true ↔ ∀ i, (h : i < s.size) → vOk s[i].toNat) := Lib.hid (by
    unfold valueB
    rw [decide_eq_true_iff]
    exact ⟨fun h => h.2, fun h => ⟨by omega, h⟩⟩)
  generalize valueB s = B at *
  go_enter Tryd.func23, Tryd.ntmps23
  go_wp2
  go_loopw [2] (fun _ wr => ∃ k : Nat, k ≤ s.size ∧ wr = w.iter s k ∧ Hid (∀ i, (h : i < s.size) → i < k → vOk s[i].toNat)) (fun _ wr => s.size - wr.iterPos w.heap.size)
  case atStart => exact ⟨0, Nat.zero_le _, rfl, Lib.hid (fun i _ h => absurd h (by omega))⟩
  case round =>
    obtain ⟨k, hk, rfl, hok⟩ := hrel
    by_cases hlt : k < s.size
    · by_cases ha : s[k].toNat < 128
      · have hnx := fun ty => run_next_ascii (P := Tryd.prog) w s k ty hlt ha
        have hstep : vOk s[k].toNat → ∀ i, (h : i < s.size) → i < k + 1 → vOk s[i].toNat := fun hc i hi hik => by
          by_cases he : i = k
          · subst he; exact hc
          · exact hok.out i hi (by omega)
        have Hstep := Lib.hid hstep
        have hbad : ¬ vOk s[k].toNat → B = false := fun hc => by
          cases hB : B with
          | false => rfl
          | true => exact absurd (hN.out.1 hB k hlt) hc
        have Hbad := Lib.hid hbad
        clear hstep hbad
        obtain ⟨c, hc⟩ : ∃ c, s[k].toNat = c := ⟨_, rfl⟩
        simp only [hc] at hnx ha Hstep Hbad
        clear hc
        rcases (show c < 33 ∨ 126 < c ∨ c = 34 ∨ c = 92 ∨ c = 44 ∨ c = 123 ∨ c = 125 ∨ (33 ≤ c ∧ c ≤ 126 ∧ c ≠ 34 ∧ c ≠ 92 ∧ c ≠ 44 ∧ c ≠ 123 ∧ c ≠ 125) by omega) with h | h | rfl | rfl | rfl | rfl | rfl | h
        iterate 2
          · obtain rfl := Hbad.out (by unfold vOk; omega)
            go_wp2
            go_ret
            exact ⟨rfl, below_iter _ _ _⟩
        iterate 5
          · obtain rfl := Hbad.out (by unfold vOk; omega)
            go_wp2
            go_ret
            exact ⟨rfl, below_iter _ _ _⟩
        · obtain ⟨h3, h4, h5, h6, h7, h8, h9⟩ := h
          have q34 : ((c : Int) == 34) = false := beq_eq_false_iff_ne.2 (by omega)
          have q92 : ((c : Int) == 92) = false := beq_eq_false_iff_ne.2 (by omega)
          have q44 : ((c : Int) == 44) = false := beq_eq_false_iff_ne.2 (by omega)
          have q123 : ((c : Int) == 123) = false := beq_eq_false_iff_ne.2 (by omega)
          have q125 : ((c : Int) == 125) = false := beq_eq_false_iff_ne.2 (by omega)
          go_wp2
          go_roundw
          case rel => exact ⟨k + 1, by omega, rfl, Lib.hid (Hstep.out ⟨h3, h4, h5, h6, h7, h8, h9⟩)⟩
          case measure => simp; omega
      · have hnx := fun ty => run_next_any (P := Tryd.prog) w s k ty hlt
        have hhi := decode_high s k hlt (by omega)
        have hle := decode_le s k
        have hB : B = false := by
          cases hB : B with
          | false => rfl
          | true =>
            have := hN.out.1 hB k hlt
            unfold vOk at this
            omega
        subst hB
        generalize (Utf8.decode s k).1 = c at *
        generalize (Utf8.decode s k).2 = m at *
        go_wp2
        go_ret
        exact ⟨rfl, below_iter _ _ _⟩
    · have hend := fun ty => run_next_end (P := Tryd.prog) w s k ty hlt
      have hB : B = true := hN.out.2 (fun i hi => hok.out i hi (by omega))
      subst hB
      go_wp2
      go_ret
      exact ⟨rfl, below_iter _ _ _⟩
end Go.Proofs.YtebfhljamoapjaaDoor
namespace Go.Proofs.YtebfhljamoapjaaDoor
open Go.RowKit
set_option linter.unusedVariables false
set_option linter.unusedSimpArgs false

theorem letter_any (c : Int) (w : World) : Calls Tryd.prog 81 #[.int .u8 c] w fun e w' => e = .returned (.bool (decide (97 ≤ c) && decide (c ≤ 122))) ∧ w = w' := by
  by_cases h : 97 ≤ c
  · have hd : decide (97 ≤ c) = true := decide_eq_true h
    rw [hd, Bool.true_and]
    go_enter Tryd.func81, Tryd.ntmps81
    go_wp2
    go_ret
    exact ⟨rfl, rfl⟩
  · have hd : decide (97 ≤ c) = false := decide_eq_false h
    rw [hd, Bool.false_and]
    go_enter Tryd.func81, Tryd.ntmps81
    go_wp2
    go_ret
    exact ⟨rfl, rfl⟩

theorem letter_yes (c : Int) (w : World) (h : 97 ≤ c ∧ c ≤ 122) : Calls Tryd.prog 81 #[.int .u8 c] w fun e w' => e = .returned (.bool true) ∧ w = w' := by
  have := letter_any c w
  rwa [decide_eq_true h.1, decide_eq_true h.2] at this
theorem letter_no (c : Int) (w : World) (h : c < 97 ∨ 122 < c) : Calls Tryd.prog 81 #[.int .u8 c] w fun e w' => e = .returned (.bool false) ∧ w = w' := by
  have := letter_any c w
  have e : (decide (97 ≤ c) && decide (c ≤ 122)) = false := by
    rcases h with h | h
    · rw [decide_eq_false (by omega), Bool.false_and]
    · rw [decide_eq_false (p := c ≤ 122) (by omega), Bool.and_false]
  rwa [e] at this

set_option maxHeartbeats 1000000 in
theorem ref_name_any (s : ByteArray) (w : World) (hs : s.size ≤ 9223372036854775807) : Calls Tryd.prog 67 #[.string s] w fun e w' => e = .returned (.bool (nameB s)) ∧ w = w' := by
  by_cases h1 : s.size < 1
  · have hn : nameB s = false := by simp [nameB]; omega
    rw [hn]
    go_enter Tryd.func67, Tryd.ntmps67
    go_wp2
    go_ret
    exact ⟨rfl, rfl⟩
  by_cases h2 : 16 < s.size
  · have hn : nameB s = false := by simp [nameB]; omega
    rw [hn]
    go_enter Tryd.func67, Tryd.ntmps67
    go_wp2
    go_ret
    exact ⟨rfl, rfl⟩
  have hN : Hid (nameB s = true ↔ ∀ i, (h : i < s.size) → chOk i s[i].toNat) := Lib.hid (by
    unfold nameB
    rw [decide_eq_true_iff]
    exact ⟨fun h => h.2.2, fun h => ⟨by omega, by omega, h⟩⟩)
  generalize nameB s = B at *
  go_enter Tryd.func67, Tryd.ntmps67
  go_wp2
  go_loop [3] (fun i => ∃ k : Nat, k ≤ s.size ∧ i = .int .i64 k ∧ Hid (∀ i, (h : i < s.size) → i < k → chOk i s[i].toNat)) (fun i => s.size - (intOf i).toNat)
  case atStart => exact ⟨0, Nat.zero_le _, rfl, Lib.hid (fun i _ h => absurd h (by omega))⟩
  case round =>
    obtain ⟨k, hk, rfl, hok⟩ := hrel
    by_cases hlt : k < s.size
    · have hstep : chOk k s[k].toNat → ∀ i, (h : i < s.size) → i < k + 1 → chOk i s[i].toNat := fun hc i hi hik => by
        by_cases he : i = k
        · subst he; exact hc
        · exact hok.out i hi (by omega)
      have Hstep := Lib.hid hstep
      have hbad : ¬ chOk k s[k].toNat → B = false := fun hc => by
        cases hB : B with
        | false => rfl
        | true => exact absurd (hN.out.1 hB k hlt) hc
      have Hbad := Lib.hid hbad
      clear hstep hbad
      have h256 : s[k].toNat < 256 := s[k].toNat_lt
      rcases (show (97 ≤ s[k].toNat ∧ s[k].toNat ≤ 122) ∨ (s[k].toNat < 97 ∧ k = 0) ∨ (122 < s[k].toNat ∧ k = 0) ∨ (k ≠ 0 ∧ s[k].toNat = 95) ∨ (k ≠ 0 ∧ 48 ≤ s[k].toNat ∧ s[k].toNat ≤ 57) ∨ (k ≠ 0 ∧ s[k].toNat < 48) ∨ (k ≠ 0 ∧ 57 < s[k].toNat ∧ s[k].toNat < 97 ∧ s[k].toNat ≠ 95) ∨ (k ≠ 0 ∧ 122 < s[k].toNat) by omega) with h | h | h | h | h | h | h | h
      · obtain ⟨h3, h4⟩ := h
        have hd57 : decide ((s[k].toNat : Int) ≤ 57) = false := decide_eq_false (by omega)
        have q95 : ((s[k].toNat : Int) == 95) = false := beq_eq_false_iff_ne.2 (by omega)
        go_wp2_with (go_at_call 81; refine (letter_yes _ _ (by omega)).mono ?_; rintro e w' ⟨rfl, rfl⟩)
        go_round
        case rel => exact ⟨k + 1, by omega, by go_num, Lib.hid (Hstep.out (.inl ⟨h3, h4⟩))⟩
        case measure => simp [intOf]; omega
      · obtain ⟨h3, rfl⟩ := h
        obtain rfl := Hbad.out (by unfold chOk; omega)
        go_wp2_with (go_at_call 81; refine (letter_no _ _ (by omega)).mono ?_; rintro e w' ⟨rfl, rfl⟩)
        all_goals
          go_ret
          exact ⟨rfl, rfl⟩
      · obtain ⟨h3, hk0⟩ := h
        obtain rfl := Hbad.out (by unfold chOk; omega)
        have hd57 : decide ((s[k].toNat : Int) ≤ 57) = false := decide_eq_false (by omega)
        have q95 : ((s[k].toNat : Int) == 95) = false := beq_eq_false_iff_ne.2 (by omega)
        subst hk0
        go_wp2_with (go_at_call 81; refine (letter_no _ _ (by omega)).mono ?_; rintro e w' ⟨rfl, rfl⟩)
        all_goals
          go_ret
          exact ⟨rfl, rfl⟩
      · obtain ⟨h3, h4⟩ := h
        have h5 : ((k : Int) == 0) = false := beq_eq_false_iff_ne.2 (by omega)
        have hd57 : decide ((s[k].toNat : Int) ≤ 57) = false := decide_eq_false (by omega)
        have q95 : ((s[k].toNat : Int) == 95) = true := beq_iff_eq.2 (by omega)
        go_wp2_with (go_at_call 81; refine (letter_no _ _ (by omega)).mono ?_; rintro e w' ⟨rfl, rfl⟩)
        go_round
        case rel => exact ⟨k + 1, by omega, by go_num, Lib.hid (Hstep.out (.inr ⟨h3, .inl h4⟩))⟩
        case measure => simp [intOf]; omega
      · obtain ⟨h3, h4, h6⟩ := h
        have h5 : ((k : Int) == 0) = false := beq_eq_false_iff_ne.2 (by omega)
        have hd57 : decide ((s[k].toNat : Int) ≤ 57) = true := decide_eq_true (by omega)
        go_wp2_with (go_at_call 81; refine (letter_no _ _ (by omega)).mono ?_; rintro e w' ⟨rfl, rfl⟩)
        go_round
        case rel => exact ⟨k + 1, by omega, by go_num, Lib.hid (Hstep.out (.inr ⟨h3, .inr ⟨h4, h6⟩⟩))⟩
        case measure => simp [intOf]; omega
      · obtain ⟨h3, h4⟩ := h
        obtain rfl := Hbad.out (by unfold chOk; omega)
        have h5 : ((k : Int) == 0) = false := beq_eq_false_iff_ne.2 (by omega)
        have q95 : ((s[k].toNat : Int) == 95) = false := beq_eq_false_iff_ne.2 (by omega)
        go_wp2_with (go_at_call 81; refine (letter_no _ _ (by omega)).mono ?_; rintro e w' ⟨rfl, rfl⟩)
        all_goals
          go_ret
          exact ⟨rfl, rfl⟩
      · obtain ⟨h3, h4, h6, h7⟩ := h
        obtain rfl := Hbad.out (by unfold chOk; omega)
        have h5 : ((k : Int) == 0) = false := beq_eq_false_iff_ne.2 (by omega)
        have hd57 : decide ((s[k].toNat : Int) ≤ 57) = false := decide_eq_false (by omega)
        have q95 : ((s[k].toNat : Int) == 95) = false := beq_eq_false_iff_ne.2 (by omega)
        go_wp2_with (go_at_call 81; refine (letter_no _ _ (by omega)).mono ?_; rintro e w' ⟨rfl, rfl⟩)
        all_goals
          go_ret
          exact ⟨rfl, rfl⟩
      · obtain ⟨h3, h4⟩ := h
        obtain rfl := Hbad.out (by unfold chOk; omega)
        have h5 : ((k : Int) == 0) = false := beq_eq_false_iff_ne.2 (by omega)
        have hd57 : decide ((s[k].toNat : Int) ≤ 57) = false := decide_eq_false (by omega)
        have q95 : ((s[k].toNat : Int) == 95) = false := beq_eq_false_iff_ne.2 (by omega)
        go_wp2_with (go_at_call 81; refine (letter_no _ _ (by omega)).mono ?_; rintro e w' ⟨rfl, rfl⟩)
        all_goals
          go_ret
          exact ⟨rfl, rfl⟩
    · have hB : B = true := hN.out.2 (fun i hi => hok.out i hi (by omega))
      subst hB
      go_wp2
      go_ret
      exact ⟨rfl, rfl⟩

set_option maxHeartbeats 1000000 in
theorem ref_value_any (s : ByteArray) (w : World) (hs : s.size ≤ 9223372036854775807) : Calls Tryd.prog 68 #[.string s] w fun e w' => e = .returned (.bool (valueB s)) ∧ w = w' := by
  by_cases h2 : 16 < s.size
  · have hn : valueB s = false := by simp [valueB]; omega
    rw [hn]
    go_enter Tryd.func68, Tryd.ntmps68
    go_wp2
    go_ret
    exact ⟨rfl, rfl⟩
  have hN : Hid (valueB s = true ↔ ∀ i, (h : i < s.size) → vOk s[i].toNat) := Lib.hid (by
    unfold valueB
    rw [decide_eq_true_iff]
    exact ⟨fun h => h.2, fun h => ⟨by omega, h⟩⟩)
  generalize valueB s = B at *
  go_enter Tryd.func68, Tryd.ntmps68
  go_wp2
  go_loop [3] (fun i => ∃ k : Nat, k ≤ s.size ∧ i = .int .i64 k ∧ Hid (∀ i, (h : i < s.size) → i < k → vOk s[i].toNat)) (fun i => s.size - (intOf i).toNat)
  case atStart => exact ⟨0, Nat.zero_le _, rfl, Lib.hid (fun i _ h => absurd h (by omega))⟩
  case round =>
    obtain ⟨k, hk, rfl, hok⟩ := hrel
    by_cases hlt : k < s.size
    · have hstep : vOk s[k].toNat → ∀ i, (h : i < s.size) → i < k + 1 → vOk s[i].toNat := fun hc i hi hik => by
        by_cases he : i = k
        · subst he; exact hc
        · exact hok.out i hi (by omega)
      have Hstep := Lib.hid hstep
      have hbad : ¬ vOk s[k].toNat → B = false := fun hc => by
        cases hB : B with
        | false => rfl
        | true => exact absurd (hN.out.1 hB k hlt) hc
      have Hbad := Lib.hid hbad
      clear hstep hbad
      have h256 : s[k].toNat < 256 := s[k].toNat_lt
      rcases (show s[k].toNat < 33 ∨ 126 < s[k].toNat ∨ s[k].toNat = 34 ∨ s[k].toNat = 92 ∨ s[k].toNat = 44 ∨ s[k].toNat = 123 ∨ s[k].toNat = 125 ∨ (33 ≤ s[k].toNat ∧ s[k].toNat ≤ 126 ∧ s[k].toNat ≠ 34 ∧ s[k].toNat ≠ 92 ∧ s[k].toNat ≠ 44 ∧ s[k].toNat ≠ 123 ∧ s[k].toNat ≠ 125) by omega) with h | h | h | h | h | h | h | h
      · obtain rfl := Hbad.out (by unfold vOk; omega)
        go_wp2
        all_goals
          go_ret
          exact ⟨rfl, rfl⟩
      · obtain rfl := Hbad.out (by unfold vOk; omega)
        go_wp2
        all_goals
          go_ret
          exact ⟨rfl, rfl⟩
      · obtain rfl := Hbad.out (by unfold vOk; omega)
        have q34 : ((s[k].toNat : Int) == 34) = true := beq_iff_eq.2 (by omega)
        go_wp2
        all_goals
          go_ret
          exact ⟨rfl, rfl⟩
      · obtain rfl := Hbad.out (by unfold vOk; omega)
        have q34 : ((s[k].toNat : Int) == 34) = false := beq_eq_false_iff_ne.2 (by omega)
        have q92 : ((s[k].toNat : Int) == 92) = true := beq_iff_eq.2 (by omega)
        go_wp2
        all_goals
          go_ret
          exact ⟨rfl, rfl⟩
      · obtain rfl := Hbad.out (by unfold vOk; omega)
        have q34 : ((s[k].toNat : Int) == 34) = false := beq_eq_false_iff_ne.2 (by omega)
        have q92 : ((s[k].toNat : Int) == 92) = false := beq_eq_false_iff_ne.2 (by omega)
        have q44 : ((s[k].toNat : Int) == 44) = true := beq_iff_eq.2 (by omega)
        go_wp2
        all_goals
          go_ret
          exact ⟨rfl, rfl⟩
      · obtain rfl := Hbad.out (by unfold vOk; omega)
        have q34 : ((s[k].toNat : Int) == 34) = false := beq_eq_false_iff_ne.2 (by omega)
        have q92 : ((s[k].toNat : Int) == 92) = false := beq_eq_false_iff_ne.2 (by omega)
        have q44 : ((s[k].toNat : Int) == 44) = false := beq_eq_false_iff_ne.2 (by omega)
        have q123 : ((s[k].toNat : Int) == 123) = true := beq_iff_eq.2 (by omega)
        go_wp2
        all_goals
          go_ret
          exact ⟨rfl, rfl⟩
      · obtain rfl := Hbad.out (by unfold vOk; omega)
        have q34 : ((s[k].toNat : Int) == 34) = false := beq_eq_false_iff_ne.2 (by omega)
        have q92 : ((s[k].toNat : Int) == 92) = false := beq_eq_false_iff_ne.2 (by omega)
        have q44 : ((s[k].toNat : Int) == 44) = false := beq_eq_false_iff_ne.2 (by omega)
        have q123 : ((s[k].toNat : Int) == 123) = false := beq_eq_false_iff_ne.2 (by omega)
        have q125 : ((s[k].toNat : Int) == 125) = true := beq_iff_eq.2 (by omega)
        go_wp2
        all_goals
          go_ret
          exact ⟨rfl, rfl⟩
      · obtain ⟨h3, h4, h5, h6, h7, h8, h9⟩ := h
        have q34 : ((s[k].toNat : Int) == 34) = false := beq_eq_false_iff_ne.2 (by omega)
        have q92 : ((s[k].toNat : Int) == 92) = false := beq_eq_false_iff_ne.2 (by omega)
        have q44 : ((s[k].toNat : Int) == 44) = false := beq_eq_false_iff_ne.2 (by omega)
        have q123 : ((s[k].toNat : Int) == 123) = false := beq_eq_false_iff_ne.2 (by omega)
        have q125 : ((s[k].toNat : Int) == 125) = false := beq_eq_false_iff_ne.2 (by omega)
        have hd : decide (126 < (s[k].toNat : Int)) = false := decide_eq_false (by omega)
        go_wp2
        go_round
        case rel => exact ⟨k + 1, by omega, by go_num, Lib.hid (Hstep.out (⟨h3, h4, h5, h6, h7, h8, h9⟩))⟩
        case measure => simp [intOf]; omega
    · have hB : B = true := hN.out.2 (fun i hi => hok.out i hi (by omega))
      subst hB
      go_wp2
      go_ret
      exact ⟨rfl, rfl⟩
end Go.Proofs.YtebfhljamoapjaaDoor
namespace Go.Proofs.YtebfhljamoapjaaDoor
open Go.RowKit
set_option linter.unusedVariables false
set_option linter.unusedSimpArgs false

def labCells (l : List (ByteArray × ByteArray)) : List Value := l.flatMap fun e => [.string e.1, .string e.2]
theorem labCells_len (l : List (ByteArray × ByteArray)) : (labCells l).length = l.length * 2 := by
  induction l with
  | nil => rfl
  | cons e r ih => simp [labCells] at ih ⊢; omega
theorem labCells_one (l : List (ByteArray × ByteArray)) : ∀ u ∈ labCells l, u.oneCell' = true := by
  intro u hu
  simp only [labCells, List.mem_flatMap] at hu
  obtain ⟨e, _, he⟩ := hu
  simp at he
  rcases he with rfl | rfl <;> rfl
theorem labCells_at (l : List (ByteArray × ByteArray)) (k : Nat) (h : k < l.length) : (labCells l)[k * 2]? = some (.string l[k].1) ∧ (labCells l)[k * 2 + 1]? = some (.string l[k].2) := by
  induction l generalizing k with
  | nil => simp at h
  | cons e r ih =>
    cases k with
    | zero => simp [labCells]
    | succ k =>
      have := ih k (by simpa using h)
      have e1 : (k + 1) * 2 = k * 2 + 2 := by omega
      rw [e1]
      simpa [labCells] using this

/-- A label set: names and values that are allowed, the names increasing. -/
structure LabSet (l : List (ByteArray × ByteArray)) : Prop where
  few : l.length ≤ 8
  name : ∀ i, (h : i < l.length) → nameB l[i].1 = true
  value : ∀ i, (h : i < l.length) → valueB l[i].2 = true
  full : ∀ i, (h : i < l.length) → l[i].2.toList ≠ []
  up : ∀ i j, (hij : i < j) → (h : j < l.length) → Op.bytesLess l[i].1.toList l[j].1.toList = true

theorem nameB_size {s : ByteArray} (h : nameB s = true) : 1 ≤ s.size ∧ s.size ≤ 16 := by
  unfold nameB at h
  rw [decide_eq_true_iff] at h
  exact ⟨h.1, h.2.1⟩
theorem valueB_size {s : ByteArray} (h : valueB s = true) : s.size ≤ 16 := by
  unfold valueB at h
  rw [decide_eq_true_iff] at h
  exact h.1

set_option maxHeartbeats 1000000 in
theorem labels_valid (v : Value) (l : List (ByteArray × ByteArray)) (w : World) (hS : Sl w 2 v l.length (labCells l)) (hl : LabSet l) : Calls Tryd.prog 31 #[v] w (Ans w (.bool true)) := by
  obtain ⟨A, c, rfl, -, -, -, h4⟩ := hS
  have hf := hl.few
  have H4 := Lib.hid h4
  have HL := Lib.hid hl
  clear h4 hl
  go_enter Tryd.func31, Tryd.ntmps31
  go_wp2
  go_loopw [10] (fun i wr => ∃ k : Nat, k ≤ l.length ∧ i = .int .i64 k ∧ Below w.heap.size w wr) (fun i _ => l.length - (intOf i).toNat)
  case atStart => exact ⟨0, Nat.zero_le _, rfl, Below.refl _ _⟩
  case round =>
    obtain ⟨k, hk, rfl, hb⟩ := hrel
    by_cases hlt : k < l.length
    · obtain ⟨b, off, rfl, hbb, hc⟩ := H4.out (by omega)
      have c0 := (hb.cell (p := ⟨b, off + k * 2, none⟩) hbb).trans (hc _ _ (labCells_at l k hlt).1)
      have c1 := (hb.cell (p := ⟨b, off + (k * 2 + 1), none⟩) hbb).trans (hc _ _ (labCells_at l k hlt).2)
      rw [← Nat.add_assoc] at c1
      have hn := HL.out.name k hlt
      have hv := HL.out.value k hlt
      have hne := HL.out.full k hlt
      have hns := nameB_size hn
      have hvs := valueB_size hv
      have hcp : ∀ (h0 : 0 < k), w.cell? ⟨b, off + (k - 1) * 2, none⟩ = some (.string l[k - 1].1) := fun h0 => hc _ _ (labCells_at l (k - 1) (by omega)).1
      have hup : ∀ (h0 : 0 < k), Op.bytesLess l[k - 1].1.toList l[k].1.toList = true := fun h0 => by
        exact HL.out.up (k - 1) k (by omega) hlt
      have Hcp := Lib.hid hcp
      have Hup := Lib.hid hup
      clear hc hcp hup
      generalize hnm : l[k].1 = nm at *
      generalize hvl : l[k].2 = vl at *
      have hne2 : vl.toList.isEmpty = false := by simpa using hne
      have hsz := hb.size
      clear hnm hvl
      go_wp2_with fail
      refine (name_any nm _ (by omega)).mono ?_
      rintro e w1 ⟨rfl, hb1⟩
      rw [hn]
      have x1 : Blk w1 wr.heap.size 42 #[.string nm, .string vl] := (Blk.new wr _ _).below hb1 (by simp)
      have x10 : w1.cell? ⟨wr.heap.size, 0, none⟩ = some (.string nm) := (x1.cell 0).trans rfl
      have x11 : w1.cell? ⟨wr.heap.size, 1, none⟩ = some (.string vl) := (x1.cell 1).trans rfl
      go_wp2_with fail
      refine (value_any vl _ (by omega)).mono ?_
      rintro e w2 ⟨rfl, hb2⟩
      rw [hv]
      have x2 : Blk w2 wr.heap.size 42 #[.string nm, .string vl] := x1.below hb2 x1.lt
      have x20 : w2.cell? ⟨wr.heap.size, 0, none⟩ = some (.string nm) := (x2.cell 0).trans rfl
      have hbw : Below w.heap.size w w2 := ((hb.alloc hsz _).trans (hb1.mono (by simp; omega))).trans (hb2.mono (by have := hb1.size; simp at this; omega))
      clear hb1 hb2 x1 x10 x11 x2
      by_cases hk0 : k = 0
      · subst hk0
        go_wp2
        go_quiet (fail)
        go_wp2
        go_roundw
        case rel => exact ⟨1, by omega, by go_num, ⟨hbw.os, hbw.tape, hbw.output, hbw.size, hbw.block⟩⟩
        case measure => simp [intOf]; omega
      · have y0 := (hbw.cell (p := ⟨b, off + (k - 1) * 2, none⟩) hbb).trans (Hcp.out (by omega))
        have y1 := Hup.out (by omega)
        generalize l[k - 1].1 = pn at *
        have r1 : IntKind.i64.wrap ((k : Int) - 1) = (k : Int) - 1 := IntWalk.i64_in _ (by omega)
        have r2 : (0 : Int) ≤ (k : Int) - 1 := by omega
        have r3 : ((k : Int) - 1).toNat = k - 1 := by omega
        have r4 : (k : Int) - 1 < (l.length : Int) := by omega
        have r6 : decide ((0 : Int) < (k : Int)) = true := decide_eq_true (by omega)
        have r7 : 0 < k := by omega
        go_upto_region 8 with (fail)
        go_quiet (fail)
        clear r1 r2 r3 r4
        go_wp2
        go_roundw
        case rel => exact ⟨k + 1, by omega, by go_num, ⟨hbw.os, hbw.tape, hbw.output, hbw.size, hbw.block⟩⟩
        case measure => simp [intOf]; omega
    · go_wp2
      go_ret
      exact ⟨rfl, hb⟩
end Go.Proofs.YtebfhljamoapjaaDoor
namespace Go.Proofs.YtebfhljamoapjaaDoor
open Go.RowKit
set_option linter.unusedVariables false
set_option linter.unusedSimpArgs false

theorem below_dn {B : Nat} {a w : World} (h : Below B a w) (n : Nat) : Below B a (w.drewN n) := ⟨h.os, h.tape, h.output, h.size, h.block⟩

theorem Tryd.infoLab : (Tryd.prog.info? 42).map (fun i => (i.zero, i.size, i.bytes)) = some (some (.agg #[.string ByteArray.empty, .string ByteArray.empty]), 2, 32) := by kernel_rfl

theorem labCells_snoc (l : List (ByteArray × ByteArray)) (k : Nat) (h : k < l.length) : labCells (l.take k) ++ [.string l[k].1, .string l[k].2] = labCells (l.take (k + 1)) := by
  rw [List.take_succ_eq_append_getElem h]
  simp only [labCells, List.flatMap_append, List.flatMap_cons, List.flatMap_nil, List.append_nil]

/-- A slice of labels of the call's own. -/
def LabOwn (w : World) (wr : World) (v : Value) (l : List (ByteArray × ByteArray)) (k : Nat) : Prop := wr.ownsRow w.heap.size 42 2 v k (labCells (l.take k))

def NewOk (w : World) (l : List (ByteArray × ByteArray)) (e : Ending) (w' : World) : Prop :=
  ∃ A c, e = .returned (.tuple #[.slice A l.length c, .int .i64 0]) ∧ Sl w' 2 (.slice A l.length c) l.length (labCells l) ∧ Below w.heap.size w w'

/-- At the head of New's inner loop. -/
def NewIn (w : World) (l : List (ByteArray × ByteArray)) (k : Nat) (out : Value) (nx j : Value) (wr : World) : Prop :=
  ∃ (m : Nat) (N : Option Addr) (dn : Nat), m ≤ k ∧ j = .int .i64 m ∧ nx = .slice N m dn ∧ wr.ownsRow w.heap.size 42 2 (.slice N m dn) m (labCells (l.take m)) ∧ wr.ownsRow w.heap.size 42 2 out k (labCells (l.take k)) ∧
    (∀ i, (Value.slice N m dn).ownBlock = some i → out.ownBlock ≠ some i) ∧ Below w.heap.size w wr

theorem own_cap {w : World} {base : Nat} {e : TypeId} {size n d : Nat} {A : Option Addr} {xs : List Value} (h : w.ownsRow base e size (.slice A n d) n xs) : n ≤ d ∧ d ≤ maxLen := by
  rcases h.2 with ⟨hv, rfl⟩ | ⟨g, cap, cur, hv, _, _, h1, h2, _⟩
  · simp at hv
    obtain ⟨_, rfl⟩ := hv
    exact ⟨Nat.le_refl _, Nat.zero_le _⟩
  · simp at hv
    obtain ⟨_, rfl⟩ := hv
    exact ⟨h1, h2⟩
theorem sl_zero (w : World) (size : Nat) (A : Option Addr) (c : Nat) (h : c ≤ maxLen) : Sl w size (.slice A 0 c) 0 [] := ⟨A, c, rfl, Nat.zero_le _, h, by simp, fun h => absurd h (by omega)⟩

theorem new_bel {w wr W4 W5 : World} {l : List (ByteArray × ByteArray)} {m nq : Nat} {N A4 : Option Addr} {dn d4 : Nat} {o : Obj} (hb : Below w.heap.size w wr)
    (hnx : wr.ownsRow w.heap.size 42 2 (.slice N m dn) m (labCells (l.take m))) (h4 : W4.ownsRow w.heap.size 42 2 (.slice A4 (m + 1) d4) (m + 1) (labCells (l.take (m + 1))))
    (hg : ((wr.drewN nq).alloc o).grownBy W4 (Value.slice N m dn).ownBlock) (hg5 : W4.grownBy W5 (Value.slice A4 (m + 1) d4).ownBlock) : Below w.heap.size w W5 := by
  have hs := hb.size
  have hb4 : Below w.heap.size w W4 := ((below_dn hb nq).alloc hs o).grown hg (by simp; omega) (fun i hi => (hnx.lt i hi).1)
  exact hb4.grown hg5 hb4.size (fun i hi => (h4.lt i hi).1)

theorem new_in_step {w wr W4 : World} {l : List (ByteArray × ByteArray)} {k m nq : Nat} {out : Value} {N A4 : Option Addr} {dn d4 : Nat} {o : Obj} (hm : m + 1 ≤ k)
    (hnx : wr.ownsRow w.heap.size 42 2 (.slice N m dn) m (labCells (l.take m))) (hout : wr.ownsRow w.heap.size 42 2 out k (labCells (l.take k)))
    (hap : ∀ i, (Value.slice N m dn).ownBlock = some i → out.ownBlock ≠ some i) (hb : Below w.heap.size w wr)
    (h4 : W4.ownsRow w.heap.size 42 2 (.slice A4 (m + 1) d4) (m + 1) (labCells (l.take (m + 1)))) (hg : ((wr.drewN nq).alloc o).grownBy W4 (Value.slice N m dn).ownBlock)
    (hat : ∀ i, (Value.slice A4 (m + 1) d4).ownBlock = some i → (Value.slice N m dn).ownBlock = some i ∨ i = ((wr.drewN nq).alloc o).heap.size) :
    NewIn w l k out (.slice A4 (m + 1) d4) (.int .i64 ((m : Int) + 1)) W4 := by
  have hs := hb.size
  refine ⟨m + 1, A4, d4, hm, by simp, rfl, h4, ?_, ?_, ?_⟩
  · refine World.ownsRow.kept (w := (wr.drewN nq).alloc o) (World.ownsRow.alloc (w := wr.drewN nq) hout o) hg ?_
    cases ho : out.ownBlock with
    | none => exact .inl rfl
    | some i => exact .inr (fun e => hap i e.symm ho)
  · intro i hi hoi
    rcases hat i hi with h | h
    · exact hap i h hoi
    · have := (hout.lt i hoi).2
      simp at h
      omega
  · exact ((below_dn hb nq).alloc hs o).grown hg (by simp; omega) (fun i hi => (hnx.lt i hi).1)

set_option maxRecDepth 100000 in
set_option maxHeartbeats 2000000 in
theorem ref_new (v : Value) (l : List (ByteArray × ByteArray)) (w : World) (hS : Sl w 2 v l.length (labCells l)) (hl : LabSet l) : Calls Tryd.prog 49 #[v] w (NewOk w l) := by
  obtain ⟨A, c, rfl, -, -, -, h4⟩ := hS
  have hf := hl.few
  have H4 := Lib.hid h4
  have HL := Lib.hid hl
  clear h4 hl
  obtain ⟨i0, hi, hz0, hz1, hz2⟩ := info_parts Tryd.infoLab
  have Hi := Lib.hid hi
  have Hz0 := Lib.hid hz0
  have Hz1 := Lib.hid hz1
  have Hz2 := Lib.hid hz2
  clear hi hz0 hz1 hz2
  go_enter Tryd.func49, Tryd.ntmps49
  go_wp2
  go_loopw [4, 5] (fun o i wr => ∃ (k : Nat) (B : Option Addr) (d : Nat), k ≤ l.length ∧ i = .int .i64 k ∧ o = .slice B k d ∧ LabOwn w wr (.slice B k d) l k ∧ Below w.heap.size w wr) (fun _ i _ => l.length - (intOf i).toNat)
  case atStart => exact ⟨0, none, 0, Nat.zero_le _, rfl, rfl, World.ownsRow_nil _ _ _ _, Below.refl _ _⟩
  case round =>
    obtain ⟨k, B, d, hk, rfl, rfl, hown, hb⟩ := hrel
    by_cases hlt : k < l.length
    · obtain ⟨b, off, rfl, hbb, hc⟩ := H4.out (by omega)
      have w0 := hc _ _ (labCells_at l k hlt).1
      have w1 := hc _ _ (labCells_at l k hlt).2
      rw [← Nat.add_assoc] at w1
      have c0 := (hb.cell (p := ⟨b, off + k * 2, none⟩) hbb).trans w0
      have c1 := (hb.cell (p := ⟨b, off + k * 2 + 1, none⟩) hbb).trans w1
      have hn := HL.out.name k hlt
      have hv := HL.out.value k hlt
      have hne := HL.out.full k hlt
      have hns := nameB_size hn
      have hvs := valueB_size hv
      have Hup : Hid (∀ i, (h : i < k) → Op.bytesLess l[i].1.toList l[k].1.toList = true) := Lib.hid (fun i h => HL.out.up i k h hlt)
      have Hsn := Lib.hid (labCells_snoc l k hlt)
      generalize hnm : l[k].1 = nm at *
      generalize hvl : l[k].2 = vl at *
      have hne2 : vl.toList.isEmpty = false := by simpa using hne
      have hsz := hb.size
      clear hc hnm hvl
      go_wp2_with fail
      refine (ref_name_any nm _ (by omega)).mono ?_
      rintro e wx ⟨rfl, rfl⟩
      rw [hn]
      go_wp2_with fail
      refine (ref_value_any vl _ (by omega)).mono ?_
      rintro e wx ⟨rfl, rfl⟩
      rw [hv]
      go_wp2_with fail
      obtain ⟨wo, rfl⟩ : ∃ wo : World, wo = wr := ⟨_, rfl⟩
      have Hown := Lib.hid hown
      clear hown
      go_loopw [6, 7] (fun nx j wr => NewIn w l k (.slice B k d) nx j wr) (fun _ j _ => k - (intOf j).toNat)
      case atStart => exact ⟨0, none, 0, Nat.zero_le _, rfl, rfl, World.ownsRow_nil _ _ _ _, Hown.out, by simp [Value.ownBlock], hb⟩
      case round =>
        obtain ⟨m, N, dn, hm, rfl, rfl, hnx, hout, hap, hbi⟩ := hrel
        have ci0 := (hbi.cell (p := ⟨b, off + k * 2, none⟩) hbb).trans w0
        have ci1 := (hbi.cell (p := ⟨b, off + k * 2 + 1, none⟩) hbb).trans w1
        have hszi := hbi.size
        by_cases hmk : m < k
        · obtain ⟨g, cap, hv2, hgb, hgl⟩ := hout.form (by omega)
          simp only [Value.slice.injEq, true_and] at hv2
          obtain ⟨rfl, rfl⟩ := hv2
          have hml : m < (l.take k).length := by rw [List.length_take]; omega
          have y0 : wr.cell? ⟨g, m * 2, none⟩ = some (.string l[m].1) := by
            rw [hout.cellAt (m * 2) (by omega), (labCells_at (l.take k) m hml).1]
            simp
          have y1 : wr.cell? ⟨g, m * 2 + 1, none⟩ = some (.string l[m].2) := by
            rw [hout.cellAt (m * 2 + 1) (by omega), (labCells_at (l.take k) m hml).2]
            simp
          have y2 := Hup.out m hmk
          have hsn := labCells_snoc l m (by omega)
          have Hsnm := Lib.hid hsn
          have Hnx := Lib.hid hnx
          have Hout := Lib.hid hout
          have Hap := Lib.hid hap
          clear hsn hnx hout hap
          generalize l[m].1 = pn at *
          generalize l[m].2 = pv at *
          have r5 : (m : Int) < (k : Int) := by omega
          have r6 : (k : Int) < (l.length : Int) := by omega
          go_wp2
          go_quiet (fail)
          go_wp2_with (at_builtin; refine wpList_append_sl _ rfl (.tmp 56) (.tmp 61) 25 rfl w.heap.size 42 i0 _ 2 32 Tryd.underlying25 Hi.out Hz0.out Hz1.out Hz2.out rfl (by omega) (.slice N m dn) m (labCells (l.take m)) rfl (World.ownsRow.alloc (w := wr.drewN nq) Hnx.out _) (.slice (some ⟨wr.heap.size, 0, none⟩) 1 1) 1 [.string pn, .string pv] rfl (Sl.lit (wr.drewN nq) 42 2 1 [.string pn, .string pv] (by simp [maxLen]) rfl) (by simp [Value.oneCell']) (m + 1) (labCells (l.take (m + 1))) rfl Hsnm.out (by simp only [maxLen]; omega) (by omega) (by simp; omega) ?_; intro A4 d4 W4 hown4 hgr4 hat4; have hat4' := Lib.hid hat4; clear hat4)
          exact ⟨new_in_step (by omega) Hnx.out Hout.out Hap.out hbi hown4 hgr4 hat4'.out, by simp [intOf]; omega⟩
        · obtain rfl : m = k := by omega
          have r1 : decide ((m : Int) < (m : Int)) = false := decide_eq_false (by omega)
          have Hnx := Lib.hid hnx
          have Hout := Lib.hid hout
          have Hap := Lib.hid hap
          clear hnx hout hap hm hmk
          go_upto_region 13 with (fail)
          go_quiet (fail)
          go_upto_region 16 with (fail)
          go_quiet (fail)
          have hdl : m ≤ d ∧ d ≤ maxLen := own_cap Hout.out
          obtain ⟨hdl1, hdl2⟩ := hdl
          have Hdl2 := Lib.hid hdl2
          clear hdl2
          by_cases hdm : d = m
          · subst hdm
            go_wp2_with (first
              | (at_builtin; refine wpList_append_sl _ rfl (.tmp 82) (.tmp 87) 25 rfl w.heap.size 42 i0 _ 2 32 Tryd.underlying25 Hi.out Hz0.out Hz1.out Hz2.out rfl (by omega) (.slice N d dn) d (labCells (l.take d)) rfl (World.ownsRow.alloc (w := wr.drewN _) Hnx.out _) (.slice (some ⟨wr.heap.size, 0, none⟩) 1 1) 1 [.string nm, .string vl] rfl (Sl.lit (wr.drewN _) 42 2 1 [.string nm, .string vl] (by simp [maxLen]) rfl) (by simp [Value.oneCell']) (d + 1) (labCells (l.take (d + 1))) rfl Hsn.out (by simp only [maxLen]; omega) (by omega) (by simp; omega) ?_; intro A4 d4 W4 hown4 hgr4 hat4; have hat4' := Lib.hid hat4; clear hat4; have hsz4 := hgr4.size)
              | (at_builtin; refine wpList_append_sl _ rfl (.tmp 89) (.tmp 92) 25 rfl w.heap.size 42 i0 _ 2 32 Tryd.underlying25 Hi.out Hz0.out Hz1.out Hz2.out rfl (by omega) (.slice A4 (d + 1) d4) (d + 1) (labCells (l.take (d + 1))) rfl hown4 (.slice _ 0 _) 0 [] rfl (sl_zero _ _ _ _ (by first | exact Nat.zero_le _ | exact Nat.le_trans (Nat.sub_le _ _) Hdl2.out)) (by simp) (d + 1) (labCells (l.take (d + 1))) (by omega) (by simp) (by simp only [maxLen]; omega) (by omega) (by simp at hsz4; omega) ?_; intro A5 d5 W5 hown5 hgr5 hat5; have hat5' := Lib.hid hat5; clear hat5))
            exact ⟨⟨d + 1, A5, d5, by omega, by go_num, rfl, hown5, new_bel hbi Hnx.out hown4 hgr4 hgr5⟩, by simp [intOf]; omega⟩
          · go_wp2_with (first
              | (at_builtin; refine wpList_append_sl _ rfl (.tmp 82) (.tmp 87) 25 rfl w.heap.size 42 i0 _ 2 32 Tryd.underlying25 Hi.out Hz0.out Hz1.out Hz2.out rfl (by omega) (.slice N m dn) m (labCells (l.take m)) rfl (World.ownsRow.alloc (w := wr.drewN _) Hnx.out _) (.slice (some ⟨wr.heap.size, 0, none⟩) 1 1) 1 [.string nm, .string vl] rfl (Sl.lit (wr.drewN _) 42 2 1 [.string nm, .string vl] (by simp [maxLen]) rfl) (by simp [Value.oneCell']) (m + 1) (labCells (l.take (m + 1))) rfl Hsn.out (by simp only [maxLen]; omega) (by omega) (by simp; omega) ?_; intro A4 d4 W4 hown4 hgr4 hat4; have hat4' := Lib.hid hat4; clear hat4; have hsz4 := hgr4.size)
              | (at_builtin; refine wpList_append_sl _ rfl (.tmp 89) (.tmp 92) 25 rfl w.heap.size 42 i0 _ 2 32 Tryd.underlying25 Hi.out Hz0.out Hz1.out Hz2.out rfl (by omega) (.slice A4 (m + 1) d4) (m + 1) (labCells (l.take (m + 1))) rfl hown4 (.slice _ 0 _) 0 [] rfl (sl_zero _ _ _ _ (by first | exact Nat.zero_le _ | exact Nat.le_trans (Nat.sub_le _ _) Hdl2.out)) (by simp) (m + 1) (labCells (l.take (m + 1))) (by omega) (by simp) (by simp only [maxLen]; omega) (by omega) (by simp at hsz4; omega) ?_; intro A5 d5 W5 hown5 hgr5 hat5; have hat5' := Lib.hid hat5; clear hat5))
            exact ⟨⟨m + 1, A5, d5, by omega, by go_num, rfl, hown5, new_bel hbi Hnx.out hown4 hgr4 hgr5⟩, by simp [intOf]; omega⟩
    · go_wp2
      go_ret2
      have hkl : k = l.length := by omega
      subst hkl
      refine ⟨B, d, rfl, ?_, hb⟩
      have := Sl.of_own hown
      rwa [List.take_length] at this

theorem ref_same_lab (va vb : Value) (l : List (ByteArray × ByteArray)) (w : World) (ha : Sl w 2 va l.length (labCells l)) (hb : Sl w 2 vb l.length (labCells l)) (hl : l.length ≤ 1000) :
    Calls Tryd.prog 16 #[va, vb] w fun e w' => e = .returned (.bool true) ∧ ∃ n, w' = w.drewN n := by
  obtain ⟨A, c, rfl, -, -, -, ha4⟩ := ha
  obtain ⟨B, d, rfl, -, -, -, hb4⟩ := hb
  have Ha := Lib.hid ha4
  have Hb := Lib.hid hb4
  clear ha4 hb4
  go_enter Tryd.func16, Tryd.ntmps16
  go_wp2
  go_loopw [5] (fun i wr => ∃ (k n : Nat), k ≤ l.length ∧ i = .int .i64 k ∧ wr = w.drewN n) (fun i _ => l.length - (intOf i).toNat)
  case atStart => exact ⟨0, 0, Nat.zero_le _, rfl, rfl⟩
  case round =>
    obtain ⟨k, n, hk, rfl, rfl⟩ := hrel
    by_cases hlt : k < l.length
    · obtain ⟨b1, o1, rfl, hb1, hc1⟩ := Ha.out (by omega)
      obtain ⟨b2, o2, rfl, hb2, hc2⟩ := Hb.out (by omega)
      have e0 := hc1 _ _ (labCells_at l k hlt).1
      have e1 := hc1 _ _ (labCells_at l k hlt).2
      have f0 := hc2 _ _ (labCells_at l k hlt).1
      have f1 := hc2 _ _ (labCells_at l k hlt).2
      rw [← Nat.add_assoc] at e1 f1
      clear hc1 hc2
      generalize l[k].1 = st at *
      generalize l[k].2 = co at *
      have r5 : (k : Int) < (l.length : Int) := by omega
      go_wp2
      go_quiet (fail)
      go_wp2
      go_roundw
      case rel => exact ⟨k + 1, n + nq, by omega, by go_num, by first | rfl | simp⟩
      case measure => simp [intOf]; omega
    · go_wp2
      go_ret
      exact ⟨rfl, n, rfl⟩

theorem ref_labels_valid (v : Value) (l : List (ByteArray × ByteArray)) (w : World) (hS : Sl w 2 v l.length (labCells l)) (hl : LabSet l) : Calls Tryd.prog 38 #[v] w (Ans w (.bool true)) := by
  go_enter Tryd.func38, Tryd.ntmps38
  go_wp2_with fail
  refine (ref_new v l w hS hl).mono ?_
  rintro e w1 ⟨A, c, rfl, hS1, hb1⟩
  go_wp2_with fail
  refine (ref_same_lab _ _ l _ hS1 (hS.below hb1) (by have := hl.few; omega)).mono ?_
  rintro e w2 ⟨rfl, n, rfl⟩
  go_wp2_with fail
  go_ret
  exact ⟨rfl, below_dn hb1 n⟩
end Go.Proofs.YtebfhljamoapjaaDoor
