
/- How a claim, or a slice of claims, that comes in is opened. -/
import Derived.Test.YtpnngbfmmjjnaaaClA
import Derived.ChangeArms
import Derived.Lib.SmallJoins
import Derived.WideShapes
namespace Go.Proofs.Ytpnngbfmmjjnaaa
open Go.RowKit Go.Joins Go.ChangeShapes Go.WideShapes
set_option linter.unusedVariables false
set_option linter.unusedSimpArgs false

section
variable {H : Type} {enc : TypeId × Value → H} {w : World} {base : Nat} {spare : Nat → Bool} {held : Bool}
theorem cells1 {cs : List Value} {i : Nat} {z : Int} (h : (cs.drop i).take 1 = [.int .i64 z]) : cs[i]? = some (.int .i64 z) := by
  have := congrArg List.head? h
  simpa [List.head?_take, List.head?_drop] using this
theorem claim_cells {n : Nat} {cs : List Value} {x : DataW H × List MemPlace} (h : DataW.trod enc Try.prog w base spare held n 62 cs = some x) : ∃ c : Cl, cs = [.int .i64 c.f, .int .i64 c.t, .int .i64 c.lo, .int .i64 c.hi] ∧ ClI c := by
  obtain ⟨y0, y1, y2, y3, m, _, hl, h0, h1, h2, h3⟩ := trod_struct4 Try.underlying62 h
  have hc4 : Try.prog.cellsOf 62 = 4 := by kernel_rfl
  have hc1 : Try.prog.cellsOf 3 = 1 := by kernel_rfl
  rw [hc4] at hl
  simp only [hc1] at h0 h1 h2 h3
  obtain ⟨a0, e0, _, w0⟩ := DataW.trod_int Try.underlying3 h0
  obtain ⟨a1, e1, _, w1⟩ := DataW.trod_int Try.underlying3 h1
  obtain ⟨a2, e2, _, w2⟩ := DataW.trod_int Try.underlying3 h2
  obtain ⟨a3, e3, _, w3⟩ := DataW.trod_int Try.underlying3 h3
  refine ⟨⟨a0, a1, a2, a3⟩, ?_, I64.of_wf w0, I64.of_wf w1, I64.of_wf w2, I64.of_wf w3⟩
  have g0 := cells1 e0
  have g1 := cells1 e1
  have g2 := cells1 e2
  have g3 := cells1 e3
  match cs, hl with
  | [x0, x1, x2, x3], _ =>
    simp at g0 g1 g2 g3
    simp [g0, g1, g2, g3]
set_option maxRecDepth 100000 in
theorem open_claim {r : Reach} {b0 : Nat} {v : Value} {d : DataW H} {p : List MemPlace} (h : DataW.Trod enc Try.prog w base spare held 62 v d p) (hv : Value.okWide Try.prog w r b0 62 v) : ∃ c : Cl, v = .agg (clA c) ∧ ClI c := by
  obtain ⟨cs, rfl, hsz⟩ := okWide_struct Try.underlying62 hv
  obtain ⟨fuel, hf⟩ := h
  obtain ⟨c, hc, hi⟩ := claim_cells hf
  refine ⟨c, ?_, hi⟩
  have : cs = clA c := by
    apply Array.ext'
    simpa [Value.cells, clA] using hc
  rw [this]
theorem rowC_cl (l : List Cl) (i j : Nat) (u : Value) (hj : j < 4) (h : (rowC rC l)[i * 4 + j]? = some u) : ∃ c, l[i]? = some c ∧ [Value.int .i64 c.f, .int .i64 c.t, .int .i64 c.lo, .int .i64 c.hi][j]? = some u := by
  induction l generalizing i with
  | nil => simp [rowC] at h
  | cons c r ih =>
    have e : rowC rC (c :: r) = [Value.int .i64 c.f, .int .i64 c.t, .int .i64 c.lo, .int .i64 c.hi] ++ rowC rC r := by simp [rowC, rC]
    rw [e] at h
    cases i with
    | zero =>
      rw [List.getElem?_append_left (by simp; omega)] at h
      exact ⟨c, rfl, by simpa using h⟩
    | succ i =>
      rw [List.getElem?_append_right (by simp; omega)] at h
      obtain ⟨c', h1, h2⟩ := ih i (by rw [← h]; congr 1; simp; omega)
      exact ⟨c', by simpa using h1, h2⟩
set_option maxRecDepth 100000 in
theorem open_claims {r : Reach} {b0 : Nat} {v : Value} {d : DataW H} {p : List MemPlace} (h : DataW.Trod enc Try.prog w base spare held 29 v d p) (hv : Value.okWide Try.prog w r b0 29 v) : ∃ l : List Cl, RowsIn rC w v l ∧ ∀ c ∈ l, ClI c := by
  obtain ⟨a0, len0, cap0, rfl⟩ := okWide_slice Try.underlying29 hv
  obtain ⟨fuel, hf⟩ := h
  have hc4 : Try.prog.cellsOf 62 = 4 := by kernel_rfl
  rcases DataW.trod_slice Try.underlying29 hf with ⟨hcs, _⟩ | ⟨a, len, cap, elems, rest, n, _, hcs, _, hb, hl, hm, hlen, hel, _⟩
  · simp [Value.cells] at hcs
    obtain ⟨rfl, rfl, rfl⟩ := hcs
    exact ⟨[], ⟨none, 0, rfl, by simp, by simp [maxLen], rfl, fun h => by simp at h⟩, by simp⟩
  · simp [Value.cells] at hcs
    obtain ⟨rfl, rfl, rfl⟩ := hcs
    rw [hc4] at hel
    have key : ∀ i, ∃ c : Cl, i < len0 → ClI c ∧ ∀ j, j < 4 → w.cell? ((a.add (i * 4)).add j) = [Value.int .i64 c.f, .int .i64 c.t, .int .i64 c.lo, .int .i64 c.hi][j]? := by
      intro i
      by_cases hi : i < len0
      · have h1 := hel i hi
        rw [List.getElem?_eq_getElem (by omega), Option.bind_eq_some_iff] at h1
        obtain ⟨cs, h2, h3⟩ := h1
        obtain ⟨c, rfl, hI⟩ := claim_cells h3
        obtain ⟨_, _, h4⟩ := World.cells?_some h2
        exact ⟨c, fun _ => ⟨hI, h4⟩⟩
      · exact ⟨cl0, fun h => absurd h hi⟩
    obtain ⟨F, hF⟩ := Classical.axiomOfChoice key
    refine ⟨(List.range len0).map F, ⟨some a, cap0, by simp, by simpa using hl, hm, by rw [rowC_len], fun h0 => ?_⟩, ?_⟩
    · have h0' : 0 < len0 := by simpa using h0
      have hat : ∀ i, i < len0 * 4 → w.cell? (a.add i) = some ((rowC rC ((List.range len0).map F)).getD i undef) := by
        intro i hi
        have hil : i < (rowC rC ((List.range len0).map F)).length := by rw [rowC_len]; simpa [rC] using hi
        obtain ⟨u, hu⟩ : ∃ u, (rowC rC ((List.range len0).map F))[i]? = some u := ⟨_, List.getElem?_eq_getElem hil⟩
        have hu2 := hu
        rw [show i = i / 4 * 4 + i % 4 by omega] at hu2
        obtain ⟨c, g1, g2⟩ := rowC_cl _ (i / 4) (i % 4) _ (by omega) hu2
        rw [List.getElem?_map, List.getElem?_range (by omega)] at g1
        simp at g1
        subst g1
        have g3 := (hF (i / 4) (by omega)).2 (i % 4) (by omega)
        rw [g2] at g3
        have e : (a.add (i / 4 * 4)).add (i % 4) = a.add i := by
          rw [add_add]
          congr 1
          omega
        rw [e] at g3
        rw [g3, List.getD_eq_getElem?_getD, hu]
        rfl
      obtain ⟨b, off, rfl, hbb, hc⟩ := add_form (w := w) (x := a) (n := len0 * 4) (by omega) _ hat
      refine ⟨b, off, rfl, hbb, fun j u hu => ?_⟩
      have hj : j < len0 * 4 := by
        have := (List.getElem?_eq_some_iff.1 hu).1
        rw [rowC_len] at this
        simpa [rC] using this
      rw [hc j hj, List.getD_eq_getElem?_getD, hu]
      rfl
    · intro c hc
      simp only [List.mem_map, List.mem_range] at hc
      obtain ⟨i, hi, rfl⟩ := hc
      exact (hF i hi).1
end
end Go.Proofs.Ytpnngbfmmjjnaaa
