
/- What Rollup makes is sorted. No program in sight. -/
import Derived.Test.YtpnngbfmmjjnaaaLd
namespace Go.Proofs.Ytpnngbfmmjjnaaa
open Go.RowKit
set_option linter.unusedVariables false
set_option linter.unusedSimpArgs false

theorem getD_app1 (s : List Cl) (x : Cl) (a : Nat) (h : a < s.length) : (s ++ [x]).getD a cl0 = s.getD a cl0 := by
  simp [List.getD_eq_getElem?_getD, List.getElem?_append, h]
theorem getD_app2 (s : List Cl) (x : Cl) : (s ++ [x]).getD s.length cl0 = x := by
  simp [List.getD_eq_getElem?_getD]
theorem getD_setf (s : List Cl) (k : Nat) (x : Cl) (hx : x.f = (s.getD k cl0).f) (a : Nat) : ((s.set k x).getD a cl0).f = (s.getD a cl0).f := by
  by_cases h : k = a
  · subst h
    by_cases hk : k < s.length
    · rw [← hx]; simp [List.getD_eq_getElem?_getD, hk]
    · rw [List.set_eq_of_length_le (by omega)]
  · simp [List.getD_eq_getElem?_getD, List.getElem?_set_ne h]
theorem rolL_inc (f w : Int) (lo hi : List Int) : ∀ i : Nat, (∀ a b, a < b → b < (rolL f w lo hi i).length → ((rolL f w lo hi i).getD a cl0).f < ((rolL f w lo hi i).getD b cl0).f) ∧ ∀ a, a < (rolL f w lo hi i).length → ((rolL f w lo hi i).getD a cl0).f < f + i
  | 0 => by simp [rolL]
  | i + 1 => by
    have ih := rolL_inc f w lo hi i
    simp only [rolL]
    generalize rolL f w lo hi i = s at *
    split
    · refine ⟨fun a b hab hb => ?_, fun a ha => ?_⟩
      · simp only [List.length_append, List.length_singleton] at hb
        by_cases h : b < s.length
        · rw [getD_app1 s _ a (by omega), getD_app1 s _ b h]
          exact ih.1 a b hab h
        · obtain rfl : b = s.length := by omega
          rw [getD_app1 s _ a hab, getD_app2]
          exact ih.2 a hab
      · simp only [List.length_append, List.length_singleton] at ha
        by_cases h : a < s.length
        · rw [getD_app1 s _ a h]
          have := ih.2 a h
          omega
        · obtain rfl : a = s.length := by omega
          rw [getD_app2]
          show f + (i : Int) < _
          omega
    · refine ⟨fun a b hab hb => ?_, fun a ha => ?_⟩
      · rw [List.length_set] at hb
        rw [getD_setf s (s.length - 1) ⟨(lastC s).f, f + i, min (lastC s).lo (lo.getD i 0), max (lastC s).hi (hi.getD i 0)⟩ rfl a, getD_setf s (s.length - 1) ⟨(lastC s).f, f + i, min (lastC s).lo (lo.getD i 0), max (lastC s).hi (hi.getD i 0)⟩ rfl b]
        exact ih.1 a b hab hb
      · rw [List.length_set] at ha
        rw [getD_setf s (s.length - 1) ⟨(lastC s).f, f + i, min (lastC s).lo (lo.getD i 0), max (lastC s).hi (hi.getD i 0)⟩ rfl a]
        have := ih.2 a ha
        omega
theorem rolL_srt (f w : Int) (lo hi : List Int) (i : Nat) : SrtC (rolL f w lo hi i) := by
  intro a b hab hb
  have h := (rolL_inc f w lo hi i).1
  by_cases he : a = b
  · subst he
    unfold cmpC
    simp
  · have := h a b (by omega) hb
    unfold cmpC
    rw [if_neg (by omega), if_pos this]
    omega
theorem rolL_ok (f w : Int) (lo hi : List Int) (i : Nat) (h : i < 102) : SortOk (rolL f w lo hi i) := by
  have := (rolL_len f w lo hi i).1
  exact .inr ⟨by omega, rolL_srt f w lo hi i⟩
end Go.Proofs.Ytpnngbfmmjjnaaa
