
/- How fractions, intervals and lists of intervals that come in are opened. -/
import Derived.Test.YthknflclfmnciaaQj
import Derived.ChangeArms
import Derived.Lib.SmallJoins
import Derived.WideShapes
import Derived.ChangeSame
namespace Go.Proofs.Ythknflclfmnciaa
open Go.RowKit Go.Joins Go.ChangeShapes Go.WideShapes
set_option linter.unusedVariables false
set_option linter.unusedSimpArgs false

section
variable {H : Type} {enc : TypeId × Value → H} {w : World} {base : Nat} {spare : Nat → Bool} {held : Bool}
theorem cell1 {cs : List Value} {i : Nat} {u : Value} (h : (cs.drop i).take 1 = [u]) : cs[i]? = some u := by
  have := congrArg List.head? h
  simpa [List.head?_take, List.head?_drop] using this
set_option maxRecDepth 100000 in
theorem open_rows {α : Type} {R : RowS α} (hR : 0 < R.cols.length) {t e : TypeId} (ht : Try.prog.underlying t = some (.slice e)) (hc4 : Try.prog.cellsOf e = R.cols.length) {Q : α → Prop}
    (hrow : ∀ n cs (x : DataW H × List MemPlace), DataW.trod enc Try.prog w base spare held n e cs = some x → ∃ y, cs = R.cols.map (fun f => f y) ∧ Q y)
    {r : Reach} {b0 : Nat} {v : Value} {d : DataW H} {p : List MemPlace} (h : DataW.Trod enc Try.prog w base spare held t v d p) (hv : Value.okWide Try.prog w r b0 t v) : ∃ l : List α, RowsIn R w v l ∧ ∀ c ∈ l, Q c := by
  obtain ⟨a0, len0, cap0, rfl⟩ := okWide_slice ht hv
  obtain ⟨fuel, hf⟩ := h
  rcases DataW.trod_slice ht hf with ⟨hcs, _⟩ | ⟨a, len, cap, elems, rest, n, _, hcs, _, hb, hl, hm, hlen, hel, _⟩
  · simp [Value.cells] at hcs
    obtain ⟨rfl, rfl, rfl⟩ := hcs
    exact ⟨[], ⟨none, 0, rfl, by simp, by simp [maxLen], by simp [rowC], fun h => by simp at h⟩, by simp⟩
  · simp [Value.cells] at hcs
    obtain ⟨rfl, rfl, rfl⟩ := hcs
    rw [hc4] at hel
    have key : ∀ i, ∃ c : α, i < len0 → Q c ∧ ∀ j, j < R.cols.length → w.cell? ((a.add (i * R.cols.length)).add j) = (R.cols.map (fun f => f c))[j]? := by
      intro i
      by_cases hi : i < len0
      · have h1 := hel i hi
        rw [List.getElem?_eq_getElem (by omega), Option.bind_eq_some_iff] at h1
        obtain ⟨cs, h2, h3⟩ := h1
        obtain ⟨c, rfl, hI⟩ := hrow _ _ _ h3
        obtain ⟨_, _, h4⟩ := World.cells?_some h2
        exact ⟨c, fun _ => ⟨hI, h4⟩⟩
      · exact ⟨R.d, fun h => absurd h hi⟩
    obtain ⟨F, hF⟩ := Classical.axiomOfChoice key
    refine ⟨(List.range len0).map F, ⟨some a, cap0, by simp, by simpa using hl, hm, by rw [rowC_len], fun h0 => ?_⟩, ?_⟩
    · have h0' : 0 < len0 := by simpa using h0
      have hat : ∀ i, i < len0 * R.cols.length → w.cell? (a.add i) = some ((rowC R ((List.range len0).map F)).getD i undef) := by
        intro i hi
        have hdm := Nat.div_add_mod i R.cols.length
        have hml := Nat.mod_lt i hR
        have hdl : i / R.cols.length < len0 := Nat.div_lt_of_lt_mul (by rw [Nat.mul_comm]; exact hi)
        have g3 := (hF (i / R.cols.length) hdl).2 (i % R.cols.length) hml
        have e : (a.add (i / R.cols.length * R.cols.length)).add (i % R.cols.length) = a.add i := by
          rw [add_add]
          congr 1
          rw [Nat.mul_comm]
          exact hdm
        rw [e] at g3
        have hfa := flat_at R.cols R.d ((List.range len0).map F) (i / R.cols.length) (i % R.cols.length) R.cols[i % R.cols.length] (by simpa using hdl) (List.getElem?_eq_getElem hml)
        rw [show i / R.cols.length * R.cols.length + i % R.cols.length = i by rw [Nat.mul_comm]; exact hdm] at hfa
        have hfb : (rowC R ((List.range len0).map F))[i]? = some (R.cols[i % R.cols.length] (((List.range len0).map F).getD (i / R.cols.length) R.d)) := hfa
        rw [g3, List.getD_eq_getElem?_getD, hfb]
        have hgf : ((List.range len0).map F).getD (i / R.cols.length) R.d = F (i / R.cols.length) := by
          rw [List.getD_eq_getElem?_getD, List.getElem?_map, List.getElem?_range hdl]
          rfl
        rw [hgf, List.getElem?_map, List.getElem?_eq_getElem hml]
        rfl
      obtain ⟨b, off, rfl, hbb, hc⟩ := add_form (w := w) (x := a) (n := len0 * R.cols.length) (Nat.mul_pos h0' hR) _ hat
      refine ⟨b, off, rfl, hbb, fun j u hu => ?_⟩
      have hj : j < len0 * R.cols.length := by
        have := (List.getElem?_eq_some_iff.1 hu).1
        rw [rowC_len] at this
        simpa using this
      rw [hc j hj, List.getD_eq_getElem?_getD, hu]
      rfl
    · intro c hc
      simp only [List.mem_map, List.mem_range] at hc
      obtain ⟨i, hi, rfl⟩ := hc
      exact (hF i hi).1
theorem frac_cells (n : Nat) (cs : List Value) (x : DataW H × List MemPlace) (h : DataW.trod enc Try.prog w base spare held n 25 cs = some x) : ∃ y : Fq, cs = [.int .i64 y.n, .int .i64 y.d] ∧ inF y := by
  obtain ⟨y0, y1, m, _, hl, h0, h1⟩ := trod_struct2 Try.underlying25 h
  have hc4 : Try.prog.cellsOf 25 = 2 := by kernel_rfl
  have hc1 : Try.prog.cellsOf 3 = 1 := by kernel_rfl
  rw [hc4] at hl
  simp only [hc1] at h0 h1
  obtain ⟨a0, e0, _, w0⟩ := DataW.trod_int Try.underlying3 h0
  obtain ⟨a1, e1, _, w1⟩ := DataW.trod_int Try.underlying3 h1
  have g0 := cell1 e0
  have g1 := cell1 e1
  have i0 := I64.of_wf w0
  have i1 := I64.of_wf w1
  unfold I64 at i0 i1
  refine ⟨⟨a0, a1⟩, ?_, i0, i1⟩
  match cs, hl with
  | [x0, x1], _ =>
    simp at g0 g1
    subst g0; subst g1
    rfl
theorem iv_cells (n : Nat) (cs : List Value) (x : DataW H × List MemPlace) (h : DataW.trod enc Try.prog w base spare held n 27 cs = some x) : ∃ y : Iv, cs = rV.cols.map (fun f => f y) ∧ inI y := by
  obtain ⟨y0, y1, m, _, hl, h0, h1⟩ := trod_struct2 Try.underlying27 h
  have hc4 : Try.prog.cellsOf 27 = 4 := by kernel_rfl
  have hc1 : Try.prog.cellsOf 25 = 2 := by kernel_rfl
  rw [hc4] at hl
  simp only [hc1] at h0 h1
  obtain ⟨a0, e0, w0⟩ := frac_cells _ _ _ h0
  obtain ⟨a1, e1, w1⟩ := frac_cells _ _ _ h1
  refine ⟨⟨a0, a1⟩, ?_, w0, w1⟩
  match cs, hl with
  | [x0, x1, x2, x3], _ =>
    simp at e0 e1
    obtain ⟨rfl, rfl⟩ := e0
    obtain ⟨rfl, rfl⟩ := e1
    rfl
set_option maxRecDepth 100000 in
theorem open_ivs {r : Reach} {b0 : Nat} {v : Value} {d : DataW H} {p : List MemPlace} (h : DataW.Trod enc Try.prog w base spare held 22 v d p) (hv : Value.okWide Try.prog w r b0 22 v) : ∃ l : List Iv, RowsIn rV w v l ∧ ∀ c ∈ l, inI c :=
  open_rows (R := rV) (by decide) Try.underlying22 (by kernel_rfl) iv_cells h hv
theorem agg_cells (cs : Array Value) (l : List Value) (h : (Value.agg cs).cells.toList = l) : Value.agg cs = .agg l.toArray := by
  congr 1
  apply Array.ext'
  simpa [Value.cells] using h
set_option maxRecDepth 100000 in
theorem open_frac {r : Reach} {b0 : Nat} {v : Value} {d : DataW H} {p : List MemPlace} (h : DataW.Trod enc Try.prog w base spare held 25 v d p) (hv : Value.okWide Try.prog w r b0 25 v) : ∃ y : Fq, v = fV y ∧ inF y := by
  obtain ⟨cs, rfl, hsz⟩ := okWide_struct Try.underlying25 hv
  obtain ⟨fuel, hf⟩ := h
  obtain ⟨y, e, hy⟩ := frac_cells _ _ _ hf
  exact ⟨y, agg_cells _ _ e, hy⟩
set_option maxRecDepth 100000 in
theorem open_iv {r : Reach} {b0 : Nat} {v : Value} {d : DataW H} {p : List MemPlace} (h : DataW.Trod enc Try.prog w base spare held 27 v d p) (hv : Value.okWide Try.prog w r b0 27 v) : ∃ y : Iv, v = iV y ∧ inI y := by
  obtain ⟨cs, rfl, hsz⟩ := okWide_struct Try.underlying27 hv
  obtain ⟨fuel, hf⟩ := h
  obtain ⟨y, e, hy⟩ := iv_cells _ _ _ hf
  exact ⟨y, agg_cells _ _ e, hy⟩
end
end Go.Proofs.Ythknflclfmnciaa
