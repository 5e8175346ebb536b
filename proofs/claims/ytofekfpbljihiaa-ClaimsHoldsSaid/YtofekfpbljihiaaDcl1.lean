/- labels.Name and labels.Value at any string. -/
import Derived.Test.YtofekfpbljihiaaRef1
import Derived.Handy
import Derived.WalkLawsBesides
import Derived.Laws.RangeString
import Derived.Laws.RangeAny
import Derived.Deep.CutBlock
import Derived.Deep.DeepCutAuto
import Derived.Deep.RegionHeld3
namespace Go.Proofs.Ytofekfpbljihiaa
open Go.RowKit
set_option linter.unusedVariables false

/-- A call that answers v and makes at most new blocks. -/
def Ans (w : World) (v : Value) (e : Ending) (w' : World) : Prop := e = .returned v ∧ Below w.heap.size w w'

/-- A byte of a name, at place i. -/
def chOk (i c : Nat) : Prop := (97 ≤ c ∧ c ≤ 122) ∨ (i ≠ 0 ∧ (c = 95 ∨ (48 ≤ c ∧ c ≤ 57)))
instance (i c : Nat) : Decidable (chOk i c) := by unfold chOk; infer_instance
/-- A name. -/
def nameB (s : ByteArray) : Bool := decide (1 ≤ s.size ∧ s.size ≤ 16 ∧ ∀ i, (h : i < s.size) → chOk i s[i].toNat)

theorem decode_high (s : ByteArray) (pos : Nat) (h : pos < s.size) (hc : 128 ≤ s[pos].toNat) : 128 ≤ (Utf8.decode s pos).1 := by
  have e : s.get! (pos + 0) = s[pos]'h := by
    show s.get! pos = _
    simp [ByteArray.get!, getElem!_pos, h]
    rfl
  have hb : ∀ k, (s.get! (pos + k)).toNat < 256 := fun k => (s.get! (pos + k)).toNat_lt
  have h1 := hb 1; have h2 := hb 2; have h3 := hb 3
  rw [← e] at hc
  simp only [Utf8.decode]
  repeat' split
  all_goals simp_all [Utf8.runeError]
  all_goals omega

theorem below_iter (w : World) (s : ByteArray) (k : Nat) : Below w.heap.size w (w.iter s k) := (Below.refl _ _).alloc (Nat.le_refl _) _

set_option maxHeartbeats 1000000 in
theorem name_any (s : ByteArray) (w : World) (hs : s.size ≤ 9223372036854775807) : Calls Try.prog 80 #[.string s] w (Ans w (.bool (nameB s))) := by
  by_cases h1 : s.size < 1
  · have hn : nameB s = false := by simp [nameB]; omega
    rw [hn]
    go_enter Try.func80, Try.ntmps80
    go_wp2
    go_ret
    exact ⟨rfl, Below.refl _ _⟩
  by_cases h2 : 16 < s.size
  · have hn : nameB s = false := by simp [nameB]; omega
    rw [hn]
    go_enter Try.func80, Try.ntmps80
    go_wp2
    go_ret
    exact ⟨rfl, Below.refl _ _⟩
  have hN : Hid (nameB s = true ↔ ∀ i, (h : i < s.size) → chOk i s[i].toNat) := Lib.hid (by
    unfold nameB
    rw [decide_eq_true_iff]
    exact ⟨fun h => h.2.2, fun h => ⟨by omega, by omega, h⟩⟩)
  generalize nameB s = B at *
  go_enter Try.func80, Try.ntmps80
  go_wp2
  go_loopw [2] (fun _ wr => ∃ k : Nat, k ≤ s.size ∧ wr = w.iter s k ∧ Hid (∀ i, (h : i < s.size) → i < k → chOk i s[i].toNat)) (fun _ wr => s.size - wr.iterPos w.heap.size)
  case atStart => exact ⟨0, Nat.zero_le _, rfl, Lib.hid (fun i _ h => absurd h (by omega))⟩
  case round =>
    obtain ⟨k, hk, rfl, hok⟩ := hrel
    by_cases hlt : k < s.size
    · by_cases ha : s[k].toNat < 128
      · have hnx := fun ty => run_next_ascii (P := Try.prog) w s k ty hlt ha
        have hstep : chOk k s[k].toNat → ∀ i, (h : i < s.size) → i < k + 1 → chOk i s[i].toNat := fun hc i hi hik => by
          by_cases he : i = k
          · subst he; exact hc
          · exact hok.out i hi (by omega)
        have Hstep := Lib.hid hstep
        have hbad : ¬ chOk k s[k].toNat → B = false := fun hc => by
          cases hB : B with
          | false => rfl
          | true => exact absurd (hN.out.1 hB k hlt) hc
        have Hbad := Lib.hid hbad
        clear hstep hbad
        obtain ⟨c, hc⟩ : ∃ c, s[k].toNat = c := ⟨_, rfl⟩
        simp only [hc] at hnx ha Hstep Hbad
        clear hc
        have hkk : k < 16 := by omega
        rcases (show (97 ≤ c ∧ c ≤ 122) ∨ (c < 97 ∧ k = 0) ∨ (122 < c ∧ k = 0) ∨ (k ≠ 0 ∧ c = 95) ∨ (k ≠ 0 ∧ 48 ≤ c ∧ c ≤ 57) ∨ (k ≠ 0 ∧ c < 48) ∨ (k ≠ 0 ∧ 57 < c ∧ c < 97 ∧ c ≠ 95) ∨ (k ≠ 0 ∧ 122 < c) by omega) with h | h | h | h | h | h | h | h
        · obtain ⟨h3, h4⟩ := h
          go_wp2
          go_roundw
          case rel => exact ⟨k + 1, by omega, rfl, Lib.hid (Hstep.out (.inl ⟨h3, h4⟩))⟩
          case measure => simp; omega
        · obtain ⟨h3, rfl⟩ := h
          obtain rfl := Hbad.out (by unfold chOk; omega)
          go_wp2
          go_ret
          exact ⟨rfl, below_iter _ _ _⟩
        · obtain ⟨h3, rfl⟩ := h
          obtain rfl := Hbad.out (by unfold chOk; omega)
          have hd : decide ((c : Int) ≤ 122) = false := decide_eq_false (by omega)
          go_wp2
          go_ret
          exact ⟨rfl, below_iter _ _ _⟩
        · obtain ⟨h3, rfl⟩ := h
          have h5 : ((k : Int) == 0) = false := beq_eq_false_iff_ne.2 (by omega)
          go_wp2
          go_roundw
          case rel => exact ⟨k + 1, by omega, rfl, Lib.hid (Hstep.out (.inr ⟨h3, .inl rfl⟩))⟩
          case measure => simp; omega
        · obtain ⟨h3, h4, h6⟩ := h
          have h5 : ((k : Int) == 0) = false := beq_eq_false_iff_ne.2 (by omega)
          have h7 : ((c : Int) != 95) = true := by rw [bne_iff_ne]; omega
          go_wp2
          go_roundw
          case rel => exact ⟨k + 1, by omega, rfl, Lib.hid (Hstep.out (.inr ⟨h3, .inr ⟨h4, h6⟩⟩))⟩
          case measure => simp; omega
        · obtain ⟨h3, h4⟩ := h
          have h5 : ((k : Int) == 0) = false := beq_eq_false_iff_ne.2 (by omega)
          have h7 : ((c : Int) != 95) = true := by rw [bne_iff_ne]; omega
          obtain rfl := Hbad.out (by unfold chOk; omega)
          go_wp2
          go_ret
          exact ⟨rfl, below_iter _ _ _⟩
        · obtain ⟨h3, h4, h6, h8⟩ := h
          have h5 : ((k : Int) == 0) = false := beq_eq_false_iff_ne.2 (by omega)
          have h7 : ((c : Int) != 95) = true := by rw [bne_iff_ne]; omega
          obtain rfl := Hbad.out (by unfold chOk; omega)
          go_wp2
          go_ret
          exact ⟨rfl, below_iter _ _ _⟩
        · obtain ⟨h3, h4⟩ := h
          have h5 : ((k : Int) == 0) = false := beq_eq_false_iff_ne.2 (by omega)
          have h7 : ((c : Int) != 95) = true := by rw [bne_iff_ne]; omega
          obtain rfl := Hbad.out (by unfold chOk; omega)
          have hd : decide ((c : Int) ≤ 122) = false := decide_eq_false (by omega)
          go_wp2
          go_ret
          exact ⟨rfl, below_iter _ _ _⟩
      · have hnx := fun ty => run_next_any (P := Try.prog) w s k ty hlt
        have hhi := decode_high s k hlt (by omega)
        have hle := decode_le s k
        have hB : B = false := by
          cases hB : B with
          | false => rfl
          | true =>
            have := hN.out.1 hB k hlt
            unfold chOk at this
            omega
        subst hB
        generalize (Utf8.decode s k).1 = c at *
        generalize (Utf8.decode s k).2 = m at *
        by_cases hk0 : k = 0
        · subst hk0
          have hd : decide ((c : Int) ≤ 122) = false := decide_eq_false (by omega)
          go_wp2
          go_ret
          exact ⟨rfl, below_iter _ _ _⟩
        · have h5 : ((k : Int) == 0) = false := beq_eq_false_iff_ne.2 (by omega)
          have h7 : ((c : Int) != 95) = true := by rw [bne_iff_ne]; omega
          have hd : decide ((c : Int) ≤ 122) = false := decide_eq_false (by omega)
          go_wp2
          go_ret
          exact ⟨rfl, below_iter _ _ _⟩
    · have hend := fun ty => run_next_end (P := Try.prog) w s k ty hlt
      have hB : B = true := hN.out.2 (fun i hi => hok.out i hi (by omega))
      subst hB
      go_wp2
      go_ret
      exact ⟨rfl, below_iter _ _ _⟩

/-- A byte of a label value. -/
def vOk (c : Nat) : Prop := 33 ≤ c ∧ c ≤ 126 ∧ c ≠ 34 ∧ c ≠ 92 ∧ c ≠ 44 ∧ c ≠ 123 ∧ c ≠ 125
instance (c : Nat) : Decidable (vOk c) := by unfold vOk; infer_instance
/-- A label value. -/
def valueB (s : ByteArray) : Bool := decide (s.size ≤ 16 ∧ ∀ i, (h : i < s.size) → vOk s[i].toNat)

set_option maxHeartbeats 1000000 in
theorem value_any (s : ByteArray) (w : World) (hs : s.size ≤ 9223372036854775807) : Calls Try.prog 92 #[.string s] w (Ans w (.bool (valueB s))) := by
  by_cases h2 : 16 < s.size
  · have hn : valueB s = false := by simp [valueB]; omega
    rw [hn]
    go_enter Try.func92, Try.ntmps92
    go_wp2
    go_ret
    exact ⟨rfl, Below.refl _ _⟩
  have hN : Hid (valueB s = true ↔ ∀ i, (h : i < s.size) → vOk s[i].toNat) := Lib.hid (by
    unfold valueB
    rw [decide_eq_true_iff]
    exact ⟨fun h => h.2, fun h => ⟨by omega, h⟩⟩)
  generalize valueB s = B at *
  go_enter Try.func92, Try.ntmps92
  go_wp2
  go_loopw [2] (fun _ wr => ∃ k : Nat, k ≤ s.size ∧ wr = w.iter s k ∧ Hid (∀ i, (h : i < s.size) → i < k → vOk s[i].toNat)) (fun _ wr => s.size - wr.iterPos w.heap.size)
  case atStart => exact ⟨0, Nat.zero_le _, rfl, Lib.hid (fun i _ h => absurd h (by omega))⟩
  case round =>
    obtain ⟨k, hk, rfl, hok⟩ := hrel
    by_cases hlt : k < s.size
    · by_cases ha : s[k].toNat < 128
      · have hnx := fun ty => run_next_ascii (P := Try.prog) w s k ty hlt ha
        have hstep : vOk s[k].toNat → ∀ i, (h : i < s.size) → i < k + 1 → vOk s[i].toNat := fun hc i hi hik => by
          by_cases he : i = k
          · subst he; exact hc
          · exact hok.out i hi (by omega)
        have Hstep := Lib.hid hstep
        have hbad : ¬ vOk s[k].toNat → B = false := fun hc => by
          cases hB : B with
          | false => rfl
          | true => exact absurd (hN.out.1 hB k hlt) hc
        have Hbad := Lib.hid hbad
        clear hstep hbad
        obtain ⟨c, hc⟩ : ∃ c, s[k].toNat = c := ⟨_, rfl⟩
        simp only [hc] at hnx ha Hstep Hbad
        clear hc
        rcases (show c < 33 ∨ 126 < c ∨ c = 34 ∨ c = 92 ∨ c = 44 ∨ c = 123 ∨ c = 125 ∨ (33 ≤ c ∧ c ≤ 126 ∧ c ≠ 34 ∧ c ≠ 92 ∧ c ≠ 44 ∧ c ≠ 123 ∧ c ≠ 125) by omega) with h | h | rfl | rfl | rfl | rfl | rfl | h
        iterate 2
          · obtain rfl := Hbad.out (by unfold vOk; omega)
            go_wp2
            go_ret
            exact ⟨rfl, below_iter _ _ _⟩
        iterate 5
          · obtain rfl := Hbad.out (by unfold vOk; omega)
            go_wp2
            go_ret
            exact ⟨rfl, below_iter _ _ _⟩
        · obtain ⟨h3, h4, h5, h6, h7, h8, h9⟩ := h
          have q34 : ((c : Int) == 34) = false := beq_eq_false_iff_ne.2 (by omega)
          have q92 : ((c : Int) == 92) = false := beq_eq_false_iff_ne.2 (by omega)
          have q44 : ((c : Int) == 44) = false := beq_eq_false_iff_ne.2 (by omega)
          have q123 : ((c : Int) == 123) = false := beq_eq_false_iff_ne.2 (by omega)
          have q125 : ((c : Int) == 125) = false := beq_eq_false_iff_ne.2 (by omega)
          go_wp2
          go_roundw
          case rel => exact ⟨k + 1, by omega, rfl, Lib.hid (Hstep.out ⟨h3, h4, h5, h6, h7, h8, h9⟩)⟩
          case measure => simp; omega
      · have hnx := fun ty => run_next_any (P := Try.prog) w s k ty hlt
        have hhi := decode_high s k hlt (by omega)
        have hle := decode_le s k
        have hB : B = false := by
          cases hB : B with
          | false => rfl
          | true =>
            have := hN.out.1 hB k hlt
            unfold vOk at this
            omega
        subst hB
        generalize (Utf8.decode s k).1 = c at *
        generalize (Utf8.decode s k).2 = m at *
        go_wp2
        go_ret
        exact ⟨rfl, below_iter _ _ _⟩
    · have hend := fun ty => run_next_end (P := Try.prog) w s k ty hlt
      have hB : B = true := hN.out.2 (fun i hi => hok.out i hi (by omega))
      subst hB
      go_wp2
      go_ret
      exact ⟨rfl, below_iter _ _ _⟩
end Go.Proofs.Ytofekfpbljihiaa
