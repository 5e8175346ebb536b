
/- Envelopes: the example of the section; the reference's Clash. -/
import Derived.Test.YtpnngbfmmjjnaaaEh
namespace Go.Proofs.Ytpnngbfmmjjnaaa
open Go.RowKit
set_option linter.unusedVariables false
set_option linter.unusedSimpArgs false

def ctrB (d : Dc) (a b : Cl) (n : Nat) : Bool := (List.range n).any fun i : Nat => decide (greatV d b (d.first + i) < leastV d a (d.first + i)) || decide (greatV d a (d.first + i) < leastV d b (d.first + i))
theorem ctrB_iff {d : Dc} {a b : Cl} {n : Nat} (hn : (n : Int) = d.last - d.first + 1) : ctrB d a b n = true ↔ CtrP d a b := by
  unfold ctrB
  rw [List.any_eq_true]
  constructor
  · rintro ⟨i, hi, h⟩
    have := List.mem_range.1 hi
    simp only [Bool.or_eq_true, decide_eq_true_eq] at h
    exact ⟨d.first + i, by omega, by omega, h⟩
  · rintro ⟨t, h1, h2, h⟩
    refine ⟨(t - d.first).toNat, List.mem_range.2 (by omega), ?_⟩
    simp only [Bool.or_eq_true, decide_eq_true_eq]
    rw [show d.first + ((t - d.first).toNat : Int) = t by omega]
    exact h
def dEy : Dc := ⟨0, 0, 0, 0, 20, -1, 2, 0, 4, 0⟩
theorem ey_new : newR dEy [⟨2, 2, 10, 10⟩] = (⟨0, [6, 8, 10, 9, 8], [12, 11, 10, 12, 14]⟩, 0) := by
  rcases newR_cases (d := dEy) (l := [⟨2, 2, 10, 10⟩]) (n := 5) (by decide +kernel) (by decide) (by decide +kernel) (by decide) with ⟨h1, h2⟩ | ⟨h1, h2⟩
  · rw [h2]
    have e1 : rLoL dEy [⟨2, 2, 10, 10⟩] 5 = [6, 8, 10, 9, 8] := by decide +kernel
    have e2 : rHiL dEy [⟨2, 2, 10, 10⟩] 5 = [12, 11, 10, 12, 14] := by decide +kernel
    rw [e1, e2]
    rfl
  · exact absurd (by decide +kernel) h1
theorem ey_clash : clashV dEy [⟨2, 2, 10, 10⟩, ⟨3, 3, 13, 20⟩] = (0, 1, true) := by
  have hck : checkR dEy [⟨2, 2, 10, 10⟩, ⟨3, 3, 13, 20⟩] = 0 := by decide +kernel
  rw [clashV, if_neg (by simpa using hck)]
  have hc : ∀ a b, CtrP dEy a b ↔ ctrB dEy a b 5 = true := fun a b => (ctrB_iff (n := 5) (by decide)).symm
  have : IsClash dEy [⟨2, 2, 10, 10⟩, ⟨3, 3, 13, 20⟩] 1 2 := by
    refine ⟨by omega, by decide, ?_, fun k' h1 h2 => ?_, fun i' h1 j h2 => ?_⟩
    · unfold CtrI; rw [hc]; decide +kernel
    · obtain rfl : k' = 1 := by omega
      unfold CtrI; rw [hc]; decide +kernel
    · obtain rfl : i' = 0 := by omega
      have h3 : j < 3 := h2
      unfold CtrI; rw [hc]
      rcases j with _ | _ | _ | j
      · decide +kernel
      · decide +kernel
      · decide +kernel
      · omega
  rw [clashR_some this]
  rfl
end Go.Proofs.Ytpnngbfmmjjnaaa
