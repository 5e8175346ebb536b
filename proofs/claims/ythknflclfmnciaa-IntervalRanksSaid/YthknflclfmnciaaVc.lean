
/- Generators of small intervals: plain words and walks. -/
import Derived.Test.YthknflclfmnciaaVb
namespace Go.Proofs.Ythknflclfmnciaa
open Go.RowKit
set_option linter.unusedVariables false
set_option linter.unusedSimpArgs false

def bxF (p q : Fq) : Iv := ⟨lesF p q, greF p q⟩
/-- An interval with ends over D, of at most 50. -/
def Lv (x : Iv) (D : Int) : Prop := ∃ Nl Nh : Int, Rep x.lo Nl D ∧ Rep x.hi Nh D ∧ Nl ≤ Nh ∧ -50 * D ≤ Nl ∧ Nh ≤ 50 * D
theorem bxF_v {p q : Fq} (hp : vF p) (hq : vF q) : vI (bxF p q) ∧ cmpF (bxF p q).lo p ≤ 0 ∧ cmpF (bxF p q).lo q ≤ 0 ∧ cmpF p (bxF p q).hi ≤ 0 ∧ cmpF q (bxF p q).hi ≤ 0 := by
  obtain ⟨l1, l2, l3, _⟩ := lesF_v hp hq
  obtain ⟨g1, g2, g3, _⟩ := greF_v hp hq
  exact ⟨⟨l1, g1, cmpF_trans l1 hp g1 l2 g2⟩, l2, l3, g2, g3⟩
theorem bxF_lv {p q : Fq} {N M D : Int} (hp : Rep p N D) (hq : Rep q M D) (h1 : -50 * D ≤ N ∧ N ≤ 50 * D) (h2 : -50 * D ≤ M ∧ M ≤ 50 * D) : Lv (bxF p q) D := by
  have hc := hp.cmp hq
  have hc' := hq.cmp hp
  have s1 := sgI_le (N - M)
  have s2 := sgI_lt (M - N)
  by_cases h : N ≤ M
  · have e1 : lesF p q = p := by unfold lesF; rw [if_neg (by rw [hc']; omega)]
    by_cases he : N = M
    · have : p = q := cmpF_eq hp.1 hq.1 (by rw [hc, (sgI_eq _).2 (by omega)])
      subst this
      have e2 : greF p p = p := by unfold greF; split <;> rfl
      refine ⟨N, N, ?_, ?_, Int.le_refl _, h1.1, h1.2⟩
      · show Rep (lesF p p) N D; rw [e1]; exact hp
      · show Rep (greF p p) N D; rw [e2]; exact hp
    · have e2 : greF p q = q := by
        unfold greF
        rw [if_pos]
        rw [cmpF_anti p q, hc]
        have := (sgI_lt (N - M)).2 (by omega)
        omega
      refine ⟨N, M, ?_, ?_, h, h1.1, h2.2⟩
      · show Rep (lesF p q) N D; rw [e1]; exact hp
      · show Rep (greF p q) M D; rw [e2]; exact hq
  · have e1 : lesF p q = q := by unfold lesF; rw [if_pos (by rw [hc']; omega)]
    have e2 : greF p q = p := by
      unfold greF
      rw [if_neg]
      rw [hc']
      omega
    refine ⟨M, N, ?_, ?_, by omega, h2.1, h1.2⟩
    · show Rep (lesF p q) M D; rw [e1]; exact hq
    · show Rep (greF p q) N D; rw [e2]; exact hp
theorem Rep.neg {b : Fq} {N D : Int} (h : Rep b N D) : Rep ⟨-b.n, b.d⟩ (-N) D := ⟨neg_v h.1, h.2.1, by simp only [Int.neg_mul]; rw [h.2.2]⟩
def subN (a b : Fq) : Fq := addN a ⟨-b.n, b.d⟩
/-- The fraction in x at t eighths. -/
def innF (x : Iv) (t : Int) : Fq := addN x.lo (mulN (mulN (subN x.hi x.lo) ⟨1, 8⟩) ⟨arnd t 9, 1⟩)
theorem rep_8 : Rep ⟨1, 8⟩ 1 8 := by
  refine ⟨?_, by omega, rfl⟩
  decide
theorem rep_int {t : Int} (h : -1000 ≤ t ∧ t ≤ 1000) : Rep ⟨t, 1⟩ t 1 := ⟨⟨by simp only; omega, by simp only; omega, by simp⟩, by omega, by simp⟩
/-- What the steps of the choice are. -/
theorem inn_steps {x : Iv} {D : Int} (t : Int) (hD : D ≤ 20000) {Nl Nh : Int} (hl : Rep x.lo Nl D) (hh : Rep x.hi Nh D) (hle : Nl ≤ Nh) (b1 : -50 * D ≤ Nl) (b2 : Nh ≤ 50 * D) :
    (newF (x.hi.n * x.lo.d + -x.lo.n * x.hi.d) (x.hi.d * x.lo.d) = (subN x.hi x.lo, 0) ∧ Rep (subN x.hi x.lo) (Nh + -Nl) D) ∧
    (newF ((subN x.hi x.lo).n * 1) ((subN x.hi x.lo).d * 8) = (mulN (subN x.hi x.lo) ⟨1, 8⟩, 0) ∧ Rep (mulN (subN x.hi x.lo) ⟨1, 8⟩) ((Nh + -Nl) * 1) (D * 8)) ∧
    (newF ((mulN (subN x.hi x.lo) ⟨1, 8⟩).n * arnd t 9) ((mulN (subN x.hi x.lo) ⟨1, 8⟩).d * 1) = (mulN (mulN (subN x.hi x.lo) ⟨1, 8⟩) ⟨arnd t 9, 1⟩, 0) ∧ Rep (mulN (mulN (subN x.hi x.lo) ⟨1, 8⟩) ⟨arnd t 9, 1⟩) ((Nh + -Nl) * 1 * arnd t 9) (D * 8 * 1)) ∧
    (newF (x.lo.n * (mulN (mulN (subN x.hi x.lo) ⟨1, 8⟩) ⟨arnd t 9, 1⟩).d + (mulN (mulN (subN x.hi x.lo) ⟨1, 8⟩) ⟨arnd t 9, 1⟩).n * x.lo.d) (x.lo.d * (mulN (mulN (subN x.hi x.lo) ⟨1, 8⟩) ⟨arnd t 9, 1⟩).d) = (innF x t, 0) ∧ Rep (innF x t) (Nl * 8 + (Nh + -Nl) * 1 * arnd t 9) (D * 8)) ∧
    (Nl * 8 ≤ Nl * 8 + (Nh + -Nl) * 1 * arnd t 9 ∧ Nl * 8 + (Nh + -Nl) * 1 * arnd t 9 ≤ Nh * 8) := by
  have a0 := arnd_nn t 9 (by omega)
  have a1 := arnd_lt t 9 (by omega)
  have hD0 := hl.2.1
  have k1 : 0 ≤ (Nh + -Nl) * arnd t 9 := Int.mul_nonneg (by omega) a0
  have k2 : (Nh + -Nl) * arnd t 9 ≤ (Nh + -Nl) * 8 := Int.mul_le_mul_of_nonneg_left (by omega) (by omega)
  have s1 := rep_add hh hl.neg (by omega) (by omega) (by omega)
  have s2 := rep_mul s1.2 rep_8 (by omega) (by omega) (by omega) (by omega)
  have s3 := rep_mul s2.2 (rep_int (t := arnd t 9) (by omega)) (by omega) (by omega) (by omega) (by omega)
  have s3' := s3.2
  rw [Int.mul_one (D * 8)] at s3'
  have s4 := rep_add (hl.wide (k := 8) (by omega)) s3' (by omega) (by rw [Int.mul_one]; omega) (by omega)
  refine ⟨s1, s2, s3, s4, ?_, ?_⟩
  · rw [Int.mul_one]; omega
  · rw [Int.mul_one]; omega
end Go.Proofs.Ythknflclfmnciaa
