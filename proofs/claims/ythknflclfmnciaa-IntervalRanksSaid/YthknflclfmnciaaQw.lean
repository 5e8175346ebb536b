
/- Intervals: the lattice in plain words. No program in sight. -/
import Derived.Test.YthknflclfmnciaaQo
namespace Go.Proofs.Ythknflclfmnciaa
open Go.RowKit
set_option linter.unusedVariables false
set_option linter.unusedSimpArgs false

def iminF (x y : Iv) : Iv := if ivB x && ivB y then ⟨lesF x.lo y.lo, lesF x.hi y.hi⟩ else iv0
def imaxF (x y : Iv) : Iv := if ivB x && ivB y then ⟨greF x.lo y.lo, greF x.hi y.hi⟩ else iv0
def ihullF (x y : Iv) : Iv := if ivB x && ivB y then ⟨lesF x.lo y.lo, greF x.hi y.hi⟩ else iv0
def imeetF (x y : Iv) : Iv × Int := if ivB x && ivB y then (if 0 < cmpF (greF x.lo y.lo) (lesF x.hi y.hi) then (iv0, 9) else (⟨greF x.lo y.lo, lesF x.hi y.hi⟩, 0)) else (iv0, 1)
theorem sort2 (a b : Fq) : sortF [a, b] = if cmpF a b ≤ 0 then [a, b] else [b, a] := by
  unfold sortF
  simp only [List.foldl, insF]
theorem sort2_0 (a b : Fq) : (sortF [a, b]).getD 0 fr0 = lesF a b := by
  rw [sort2]
  unfold lesF
  rw [cmpF_anti a b]
  split
  · rw [if_neg (by omega)]; rfl
  · rw [if_pos (by omega)]; rfl
theorem sort2_1 {a b : Fq} (ha : vF a) (hb : vF b) : (sortF [a, b]).getD 1 fr0 = greF a b := by
  rw [sort2]
  unfold greF
  rw [cmpF_anti a b]
  split
  · by_cases h : cmpF a b = 0
    · rw [if_neg (by omega), ← cmpF_eq ha hb h]; rfl
    · rw [if_pos (by omega)]; rfl
  · rw [if_neg (by omega)]; rfl
theorem hull_0 {x y : Iv} (hx : vI x) (hy : vI y) : (sortF [x.lo, x.hi, y.lo, y.hi]).getD 0 fr0 = lesF x.lo y.lo := by
  obtain ⟨h1, h2, h3, h4⟩ := lesF_v hx.1 hy.1
  refine sortF_head ?_ ?_ ?_
  · intro z hz
    simp only [List.mem_cons, List.not_mem_nil, or_false] at hz
    rcases hz with rfl | rfl | rfl | rfl
    · exact hx.1
    · exact hx.2.1
    · exact hy.1
    · exact hy.2.1
  · rcases h4 with h | h <;> rw [h] <;> simp
  · intro z hz
    simp only [List.mem_cons, List.not_mem_nil, or_false] at hz
    rcases hz with rfl | rfl | rfl | rfl
    · exact h2
    · exact cmpF_trans h1 hx.1 hx.2.1 h2 hx.2.2
    · exact h3
    · exact cmpF_trans h1 hy.1 hy.2.1 h3 hy.2.2
theorem hull_3 {x y : Iv} (hx : vI x) (hy : vI y) : (sortF [x.lo, x.hi, y.lo, y.hi]).getD 3 fr0 = greF x.hi y.hi := by
  obtain ⟨h1, h2, h3, h4⟩ := greF_v hx.2.1 hy.2.1
  have := sortF_last (l := [x.lo, x.hi, y.lo, y.hi]) (m := greF x.hi y.hi) ?_ ?_ ?_
  · exact this
  · intro z hz
    simp only [List.mem_cons, List.not_mem_nil, or_false] at hz
    rcases hz with rfl | rfl | rfl | rfl
    · exact hx.1
    · exact hx.2.1
    · exact hy.1
    · exact hy.2.1
  · rcases h4 with h | h <;> rw [h] <;> simp
  · intro z hz
    simp only [List.mem_cons, List.not_mem_nil, or_false] at hz
    rcases hz with rfl | rfl | rfl | rfl
    · exact cmpF_trans hx.1 hx.2.1 h1 hx.2.2 h2
    · exact h2
    · exact cmpF_trans hy.1 hy.2.1 h1 hy.2.2 h3
    · exact h3
end Go.Proofs.Ythknflclfmnciaa
