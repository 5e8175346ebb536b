
/- How arrays of ints that come in are opened. -/
import Derived.Test.YthknflclfmnciaaQx
import Derived.OpenShut
namespace Go.Proofs.Ythknflclfmnciaa
open Go.RowKit Go.Joins Go.ChangeShapes Go.WideShapes
set_option linter.unusedVariables false
set_option linter.unusedSimpArgs false

section
variable {H : Type} {enc : TypeId × Value → H} {w : World} {base : Nat} {spare : Nat → Bool} {held : Bool}
set_option maxRecDepth 100000 in
theorem okWide_arr {t e : TypeId} {n : Nat} {r : Reach} {b0 : Nat} {v : Value} (ht : Try.prog.underlying t = some (.array n e)) (h : Value.okWide Try.prog w r b0 t v) : ∃ cs, v = .agg cs ∧ cs.size = Try.prog.cellsOf t := by
  simp only [Value.okWide, ht] at h
  obtain ⟨cs, h1, h2, _⟩ := h
  exact ⟨cs, h1, h2⟩
set_option maxRecDepth 100000 in
theorem open_arr {t : TypeId} {n : Nat} (ht : Try.prog.underlying t = some (.array n 3)) (hn : Try.prog.cellsOf t = n) {r : Reach} {b0 : Nat} {v : Value} {d : DataW H} {p : List MemPlace} (h : DataW.Trod enc Try.prog w base spare held t v d p) (hv : Value.okWide Try.prog w r b0 t v) :
    ∃ l : List Int, v = .agg (l.map (fun z => Value.int .i64 z)).toArray ∧ (l.length = n ∧ ∀ z ∈ l, I64 z) := by
  obtain ⟨cs, rfl, hsz⟩ := okWide_arr ht hv
  obtain ⟨fuel, hf⟩ := h
  obtain ⟨xs, m, _, _, hl, hxl, hel⟩ := DataW.trod_array ht hf
  have hc1 : Try.prog.cellsOf 3 = 1 := by kernel_rfl
  rw [hn] at hl hsz
  simp only [hc1, Nat.mul_one] at hel
  have hcl : (Value.agg cs).cells.toList = cs.toList := by simp [Value.cells]
  rw [hcl] at hl hel
  have key : ∀ i, i < n → ∃ z : Int, cs.toList[i]? = some (.int .i64 z) ∧ I64 z := by
    intro i hi
    have h1 := hel i hi
    rw [List.getElem?_eq_getElem (by omega)] at h1
    obtain ⟨a, e, _, wf⟩ := DataW.trod_int Try.underlying3 h1
    exact ⟨a, cell1 e, I64.of_wf wf⟩
  have all : ∀ (k : List Value), (∀ i, i < k.length → ∃ z : Int, k[i]? = some (.int .i64 z) ∧ I64 z) → ∃ l : List Int, k = l.map (fun z => Value.int .i64 z) ∧ ∀ z ∈ l, I64 z := by
    intro k
    induction k with
    | nil => intro _; exact ⟨[], rfl, by simp⟩
    | cons y r ih =>
      intro hk
      obtain ⟨z, hz, hz2⟩ := hk 0 (by simp)
      obtain ⟨l, hl, hl2⟩ := ih (fun i hi => by simpa using hk (i + 1) (by simpa using hi))
      simp at hz
      refine ⟨z :: l, by rw [hl, hz]; rfl, ?_⟩
      intro q hq
      rcases List.mem_cons.1 hq with rfl | hq
      · exact hz2
      · exact hl2 q hq
  obtain ⟨l, h1, h2⟩ := all cs.toList (fun i hi => key i (by omega))
  refine ⟨l, ?_, ?_, h2⟩
  · congr 1
    apply Array.ext'
    simpa using h1
  · have := congrArg List.length h1
    simp at this
    omega
end
end Go.Proofs.Ythknflclfmnciaa
