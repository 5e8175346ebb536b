/- The reference's Name and Value at any string. -/
import Derived.Test.YtofekfpbljihiaaDcl1
namespace Go.Proofs.Ytofekfpbljihiaa
open Go.RowKit
set_option linter.unusedVariables false

theorem letter_any (c : Int) (w : World) : Calls Try.prog 93 #[.int .u8 c] w fun e w' => e = .returned (.bool (decide (97 ≤ c) && decide (c ≤ 122))) ∧ w = w' := by
  by_cases h : 97 ≤ c
  · have hd : decide (97 ≤ c) = true := decide_eq_true h
    rw [hd, Bool.true_and]
    go_enter Try.func93, Try.ntmps93
    go_wp2
    go_ret
    exact ⟨rfl, rfl⟩
  · have hd : decide (97 ≤ c) = false := decide_eq_false h
    rw [hd, Bool.false_and]
    go_enter Try.func93, Try.ntmps93
    go_wp2
    go_ret
    exact ⟨rfl, rfl⟩

theorem letter_yes (c : Int) (w : World) (h : 97 ≤ c ∧ c ≤ 122) : Calls Try.prog 93 #[.int .u8 c] w fun e w' => e = .returned (.bool true) ∧ w = w' := by
  have := letter_any c w
  rwa [decide_eq_true h.1, decide_eq_true h.2] at this
theorem letter_no (c : Int) (w : World) (h : c < 97 ∨ 122 < c) : Calls Try.prog 93 #[.int .u8 c] w fun e w' => e = .returned (.bool false) ∧ w = w' := by
  have := letter_any c w
  have e : (decide (97 ≤ c) && decide (c ≤ 122)) = false := by
    rcases h with h | h
    · rw [decide_eq_false (by omega), Bool.false_and]
    · rw [decide_eq_false (p := c ≤ 122) (by omega), Bool.and_false]
  rwa [e] at this

set_option maxHeartbeats 1000000 in
theorem ref_name_any (s : ByteArray) (w : World) (hs : s.size ≤ 9223372036854775807) : Calls Try.prog 82 #[.string s] w fun e w' => e = .returned (.bool (nameB s)) ∧ w = w' := by
  by_cases h1 : s.size < 1
  · have hn : nameB s = false := by simp [nameB]; omega
    rw [hn]
    go_enter Try.func82, Try.ntmps82
    go_wp2
    go_ret
    exact ⟨rfl, rfl⟩
  by_cases h2 : 16 < s.size
  · have hn : nameB s = false := by simp [nameB]; omega
    rw [hn]
    go_enter Try.func82, Try.ntmps82
    go_wp2
    go_ret
    exact ⟨rfl, rfl⟩
  have hN : Hid (nameB s = true ↔ ∀ i, (h : i < s.size) → chOk i s[i].toNat) := Lib.hid (by
    unfold nameB
    rw [decide_eq_true_iff]
    exact ⟨fun h => h.2.2, fun h => ⟨by omega, by omega, h⟩⟩)
  generalize nameB s = B at *
  go_enter Try.func82, Try.ntmps82
  go_wp2
  go_loop [3] (fun i => ∃ k : Nat, k ≤ s.size ∧ i = .int .i64 k ∧ Hid (∀ i, (h : i < s.size) → i < k → chOk i s[i].toNat)) (fun i => s.size - (intOf i).toNat)
  case atStart => exact ⟨0, Nat.zero_le _, rfl, Lib.hid (fun i _ h => absurd h (by omega))⟩
  case round =>
    obtain ⟨k, hk, rfl, hok⟩ := hrel
    by_cases hlt : k < s.size
    · have hstep : chOk k s[k].toNat → ∀ i, (h : i < s.size) → i < k + 1 → chOk i s[i].toNat := fun hc i hi hik => by
        by_cases he : i = k
        · subst he; exact hc
        · exact hok.out i hi (by omega)
      have Hstep := Lib.hid hstep
      have hbad : ¬ chOk k s[k].toNat → B = false := fun hc => by
        cases hB : B with
        | false => rfl
        | true => exact absurd (hN.out.1 hB k hlt) hc
      have Hbad := Lib.hid hbad
      clear hstep hbad
      have h256 : s[k].toNat < 256 := s[k].toNat_lt
      rcases (show (97 ≤ s[k].toNat ∧ s[k].toNat ≤ 122) ∨ (s[k].toNat < 97 ∧ k = 0) ∨ (122 < s[k].toNat ∧ k = 0) ∨ (k ≠ 0 ∧ s[k].toNat = 95) ∨ (k ≠ 0 ∧ 48 ≤ s[k].toNat ∧ s[k].toNat ≤ 57) ∨ (k ≠ 0 ∧ s[k].toNat < 48) ∨ (k ≠ 0 ∧ 57 < s[k].toNat ∧ s[k].toNat < 97 ∧ s[k].toNat ≠ 95) ∨ (k ≠ 0 ∧ 122 < s[k].toNat) by omega) with h | h | h | h | h | h | h | h
      · obtain ⟨h3, h4⟩ := h
        have hd57 : decide ((s[k].toNat : Int) ≤ 57) = false := decide_eq_false (by omega)
        have q95 : ((s[k].toNat : Int) == 95) = false := beq_eq_false_iff_ne.2 (by omega)
        go_wp2_with (go_at_call 93; refine (letter_yes _ _ (by omega)).mono ?_; rintro e w' ⟨rfl, rfl⟩)
        go_round
        case rel => exact ⟨k + 1, by omega, by go_num, Lib.hid (Hstep.out (.inl ⟨h3, h4⟩))⟩
        case measure => simp [intOf]; omega
      · obtain ⟨h3, rfl⟩ := h
        obtain rfl := Hbad.out (by unfold chOk; omega)
        go_wp2_with (go_at_call 93; refine (letter_no _ _ (by omega)).mono ?_; rintro e w' ⟨rfl, rfl⟩)
        all_goals
          go_ret
          exact ⟨rfl, rfl⟩
      · obtain ⟨h3, hk0⟩ := h
        obtain rfl := Hbad.out (by unfold chOk; omega)
        have hd57 : decide ((s[k].toNat : Int) ≤ 57) = false := decide_eq_false (by omega)
        have q95 : ((s[k].toNat : Int) == 95) = false := beq_eq_false_iff_ne.2 (by omega)
        subst hk0
        go_wp2_with (go_at_call 93; refine (letter_no _ _ (by omega)).mono ?_; rintro e w' ⟨rfl, rfl⟩)
        all_goals
          go_ret
          exact ⟨rfl, rfl⟩
      · obtain ⟨h3, h4⟩ := h
        have h5 : ((k : Int) == 0) = false := beq_eq_false_iff_ne.2 (by omega)
        have hd57 : decide ((s[k].toNat : Int) ≤ 57) = false := decide_eq_false (by omega)
        have q95 : ((s[k].toNat : Int) == 95) = true := beq_iff_eq.2 (by omega)
        go_wp2_with (go_at_call 93; refine (letter_no _ _ (by omega)).mono ?_; rintro e w' ⟨rfl, rfl⟩)
        go_round
        case rel => exact ⟨k + 1, by omega, by go_num, Lib.hid (Hstep.out (.inr ⟨h3, .inl h4⟩))⟩
        case measure => simp [intOf]; omega
      · obtain ⟨h3, h4, h6⟩ := h
        have h5 : ((k : Int) == 0) = false := beq_eq_false_iff_ne.2 (by omega)
        have hd57 : decide ((s[k].toNat : Int) ≤ 57) = true := decide_eq_true (by omega)
        go_wp2_with (go_at_call 93; refine (letter_no _ _ (by omega)).mono ?_; rintro e w' ⟨rfl, rfl⟩)
        go_round
        case rel => exact ⟨k + 1, by omega, by go_num, Lib.hid (Hstep.out (.inr ⟨h3, .inr ⟨h4, h6⟩⟩))⟩
        case measure => simp [intOf]; omega
      · obtain ⟨h3, h4⟩ := h
        obtain rfl := Hbad.out (by unfold chOk; omega)
        have h5 : ((k : Int) == 0) = false := beq_eq_false_iff_ne.2 (by omega)
        have q95 : ((s[k].toNat : Int) == 95) = false := beq_eq_false_iff_ne.2 (by omega)
        go_wp2_with (go_at_call 93; refine (letter_no _ _ (by omega)).mono ?_; rintro e w' ⟨rfl, rfl⟩)
        all_goals
          go_ret
          exact ⟨rfl, rfl⟩
      · obtain ⟨h3, h4, h6, h7⟩ := h
        obtain rfl := Hbad.out (by unfold chOk; omega)
        have h5 : ((k : Int) == 0) = false := beq_eq_false_iff_ne.2 (by omega)
        have hd57 : decide ((s[k].toNat : Int) ≤ 57) = false := decide_eq_false (by omega)
        have q95 : ((s[k].toNat : Int) == 95) = false := beq_eq_false_iff_ne.2 (by omega)
        go_wp2_with (go_at_call 93; refine (letter_no _ _ (by omega)).mono ?_; rintro e w' ⟨rfl, rfl⟩)
        all_goals
          go_ret
          exact ⟨rfl, rfl⟩
      · obtain ⟨h3, h4⟩ := h
        obtain rfl := Hbad.out (by unfold chOk; omega)
        have h5 : ((k : Int) == 0) = false := beq_eq_false_iff_ne.2 (by omega)
        have hd57 : decide ((s[k].toNat : Int) ≤ 57) = false := decide_eq_false (by omega)
        have q95 : ((s[k].toNat : Int) == 95) = false := beq_eq_false_iff_ne.2 (by omega)
        go_wp2_with (go_at_call 93; refine (letter_no _ _ (by omega)).mono ?_; rintro e w' ⟨rfl, rfl⟩)
        all_goals
          go_ret
          exact ⟨rfl, rfl⟩
    · have hB : B = true := hN.out.2 (fun i hi => hok.out i hi (by omega))
      subst hB
      go_wp2
      go_ret
      exact ⟨rfl, rfl⟩

set_option maxHeartbeats 1000000 in
theorem ref_value_any (s : ByteArray) (w : World) (hs : s.size ≤ 9223372036854775807) : Calls Try.prog 108 #[.string s] w fun e w' => e = .returned (.bool (valueB s)) ∧ w = w' := by
  by_cases h2 : 16 < s.size
  · have hn : valueB s = false := by simp [valueB]; omega
    rw [hn]
    go_enter Try.func108, Try.ntmps108
    go_wp2
    go_ret
    exact ⟨rfl, rfl⟩
  have hN : Hid (valueB s = true ↔ ∀ i, (h : i < s.size) → vOk s[i].toNat) := Lib.hid (by
    unfold valueB
    rw [decide_eq_true_iff]
    exact ⟨fun h => h.2, fun h => ⟨by omega, h⟩⟩)
  generalize valueB s = B at *
  go_enter Try.func108, Try.ntmps108
  go_wp2
  go_loop [3] (fun i => ∃ k : Nat, k ≤ s.size ∧ i = .int .i64 k ∧ Hid (∀ i, (h : i < s.size) → i < k → vOk s[i].toNat)) (fun i => s.size - (intOf i).toNat)
  case atStart => exact ⟨0, Nat.zero_le _, rfl, Lib.hid (fun i _ h => absurd h (by omega))⟩
  case round =>
    obtain ⟨k, hk, rfl, hok⟩ := hrel
    by_cases hlt : k < s.size
    · have hstep : vOk s[k].toNat → ∀ i, (h : i < s.size) → i < k + 1 → vOk s[i].toNat := fun hc i hi hik => by
        by_cases he : i = k
        · subst he; exact hc
        · exact hok.out i hi (by omega)
      have Hstep := Lib.hid hstep
      have hbad : ¬ vOk s[k].toNat → B = false := fun hc => by
        cases hB : B with
        | false => rfl
        | true => exact absurd (hN.out.1 hB k hlt) hc
      have Hbad := Lib.hid hbad
      clear hstep hbad
      have h256 : s[k].toNat < 256 := s[k].toNat_lt
      rcases (show s[k].toNat < 33 ∨ 126 < s[k].toNat ∨ s[k].toNat = 34 ∨ s[k].toNat = 92 ∨ s[k].toNat = 44 ∨ s[k].toNat = 123 ∨ s[k].toNat = 125 ∨ (33 ≤ s[k].toNat ∧ s[k].toNat ≤ 126 ∧ s[k].toNat ≠ 34 ∧ s[k].toNat ≠ 92 ∧ s[k].toNat ≠ 44 ∧ s[k].toNat ≠ 123 ∧ s[k].toNat ≠ 125) by omega) with h | h | h | h | h | h | h | h
      · obtain rfl := Hbad.out (by unfold vOk; omega)
        go_wp2
        all_goals
          go_ret
          exact ⟨rfl, rfl⟩
      · obtain rfl := Hbad.out (by unfold vOk; omega)
        go_wp2
        all_goals
          go_ret
          exact ⟨rfl, rfl⟩
      · obtain rfl := Hbad.out (by unfold vOk; omega)
        have q34 : ((s[k].toNat : Int) == 34) = true := beq_iff_eq.2 (by omega)
        go_wp2
        all_goals
          go_ret
          exact ⟨rfl, rfl⟩
      · obtain rfl := Hbad.out (by unfold vOk; omega)
        have q34 : ((s[k].toNat : Int) == 34) = false := beq_eq_false_iff_ne.2 (by omega)
        have q92 : ((s[k].toNat : Int) == 92) = true := beq_iff_eq.2 (by omega)
        go_wp2
        all_goals
          go_ret
          exact ⟨rfl, rfl⟩
      · obtain rfl := Hbad.out (by unfold vOk; omega)
        have q34 : ((s[k].toNat : Int) == 34) = false := beq_eq_false_iff_ne.2 (by omega)
        have q92 : ((s[k].toNat : Int) == 92) = false := beq_eq_false_iff_ne.2 (by omega)
        have q44 : ((s[k].toNat : Int) == 44) = true := beq_iff_eq.2 (by omega)
        go_wp2
        all_goals
          go_ret
          exact ⟨rfl, rfl⟩
      · obtain rfl := Hbad.out (by unfold vOk; omega)
        have q34 : ((s[k].toNat : Int) == 34) = false := beq_eq_false_iff_ne.2 (by omega)
        have q92 : ((s[k].toNat : Int) == 92) = false := beq_eq_false_iff_ne.2 (by omega)
        have q44 : ((s[k].toNat : Int) == 44) = false := beq_eq_false_iff_ne.2 (by omega)
        have q123 : ((s[k].toNat : Int) == 123) = true := beq_iff_eq.2 (by omega)
        go_wp2
        all_goals
          go_ret
          exact ⟨rfl, rfl⟩
      · obtain rfl := Hbad.out (by unfold vOk; omega)
        have q34 : ((s[k].toNat : Int) == 34) = false := beq_eq_false_iff_ne.2 (by omega)
        have q92 : ((s[k].toNat : Int) == 92) = false := beq_eq_false_iff_ne.2 (by omega)
        have q44 : ((s[k].toNat : Int) == 44) = false := beq_eq_false_iff_ne.2 (by omega)
        have q123 : ((s[k].toNat : Int) == 123) = false := beq_eq_false_iff_ne.2 (by omega)
        have q125 : ((s[k].toNat : Int) == 125) = true := beq_iff_eq.2 (by omega)
        go_wp2
        all_goals
          go_ret
          exact ⟨rfl, rfl⟩
      · obtain ⟨h3, h4, h5, h6, h7, h8, h9⟩ := h
        have q34 : ((s[k].toNat : Int) == 34) = false := beq_eq_false_iff_ne.2 (by omega)
        have q92 : ((s[k].toNat : Int) == 92) = false := beq_eq_false_iff_ne.2 (by omega)
        have q44 : ((s[k].toNat : Int) == 44) = false := beq_eq_false_iff_ne.2 (by omega)
        have q123 : ((s[k].toNat : Int) == 123) = false := beq_eq_false_iff_ne.2 (by omega)
        have q125 : ((s[k].toNat : Int) == 125) = false := beq_eq_false_iff_ne.2 (by omega)
        have hd : decide (126 < (s[k].toNat : Int)) = false := decide_eq_false (by omega)
        go_wp2
        go_round
        case rel => exact ⟨k + 1, by omega, by go_num, Lib.hid (Hstep.out (⟨h3, h4, h5, h6, h7, h8, h9⟩))⟩
        case measure => simp [intOf]; omega
    · have hB : B = true := hN.out.2 (fun i hi => hok.out i hi (by omega))
      subst hB
      go_wp2
      go_ret
      exact ⟨rfl, rfl⟩
end Go.Proofs.Ytofekfpbljihiaa
