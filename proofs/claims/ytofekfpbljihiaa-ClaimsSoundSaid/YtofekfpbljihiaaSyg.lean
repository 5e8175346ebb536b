/- The symbolic machine: slices of ints that come in. No program in sight. -/
import Derived.Test.YtofekfpbljihiaaSyf
namespace Go.Proofs.Ytofekfpbljihiaa
open Go.RowKit
set_option linter.unusedVariables false

/-- An int as an element. -/
def ofI (cs : List Value) : Option Int :=
  match cs with
  | [.int .i64 z] => some z
  | _ => none
theorem ofI_law (cs : List Value) (x : Int) (h : ofI cs = some x) : [Value.int .i64 x] = cs := by
  unfold ofI at h
  split at h
  · simp at h
    subst h
    rfl
  · cases h
def rI : RowS Int := { cols := [fun z => .int .i64 z], d := 0, of := ofI, law := fun cs x h => ofI_law cs x h, one := fun x f hf => by simp at hf; subst hf; rfl }
theorem Hp.ro {w : World} {ρ : Rho} {L : List Ob} {nx : Nat} (h : Hp w ρ L nx w) (o : Ob) (ho : o.own = false) (hn : Nat.blt o.n nx = true) (hc : o.c.lt nx = true) (hr : RoOk w.heap.size ρ o w) : Hp w ρ (o :: L) nx w := by
  refine ⟨h.bel, ?_, List.pairwise_cons.2 ⟨fun x _ h1 => (by rw [ho] at h1; cases h1), h.dis⟩, ?_⟩
  · intro x hx
    rcases List.mem_cons.1 hx with rfl | hx
    · simp only [ObOk, ho]
      exact hr
    · exact h.obj x hx
  · intro x hx
    rcases List.mem_cons.1 hx with rfl | hx
    · exact ⟨blt_iff.1 hn, hc⟩
    · exact h.lt x hx
theorem cells_ints (ρ : Rho) (zs : List Int) : (Ct.rows Int rI zs).cells ρ = zs.map (Value.int .i64) := by
  simp only [Ct.cells, rI, List.map_cons, List.map_nil]
  induction zs with
  | nil => rfl
  | cons z r ih => simp [ih]
theorem ro_ints {w : World} {zs : List Int} {A : Option Addr} {len c n : Nat} {ρ : Rho} (h : Ints w (.slice A len c) zs) (hρ : ρ n = A) (ty : TypeId) : RoOk w.heap.size ρ ⟨n, false, ty, 1, c, .rows Int rI zs⟩ w := by
  intro hl
  obtain ⟨⟨A', c', e, _, _, _, h4⟩, _⟩ := h
  simp at e
  obtain ⟨rfl, rfl, rfl⟩ := e
  simp only [cells_ints, List.length_map] at hl ⊢
  obtain ⟨b, off, rfl, hb, hcell⟩ := h4 hl
  exact ⟨b, off, hρ, hb, hcell⟩
/-- What a slice of ints that came in is, for a walk. -/
theorem Ints.form {w : World} {v : Value} {zs : List Int} (h : Ints w v zs) : ∃ A c, v = .slice A zs.length c ∧ zs.length ≤ c ∧ c ≤ 9223372036854775807 := by
  obtain ⟨⟨A, c, e, h1, h2, _⟩, _⟩ := h
  exact ⟨A, c, e, h1, by simpa [maxLen] using h2⟩
/-- An object of ints reads as a slice of ints. -/
theorem Hp.ints {w : World} {ρ : Rho} {L : List Ob} {nx : Nat} {W : World} (h : Hp w ρ L nx W) {n c : Nat} {own : Bool} {ty : TypeId} {cap : Nat} {zs : List Int} (hf : fnd L n = some ⟨n, own, ty, 1, cap, .rows Int rI zs⟩) (hc : zs.length ≤ c) (hm : c ≤ 9223372036854775807) (hz : ∀ z ∈ zs, I64 z) :
    Ints W (den ρ (.s n 1 zs.length c)) zs := by
  obtain ⟨_, l1, l2, hL, _⟩ := fnd_split hf
  have hok := h.obj _ (show (⟨n, own, ty, 1, cap, .rows Int rI zs⟩ : Ob) ∈ L by rw [hL]; simp)
  refine ⟨⟨ρ n, c, by simp [den], hc, by simpa [maxLen] using hm, by simp, fun h0 => ?_⟩, hz⟩
  have hcell := hok.cell (j := 0) (u := .int .i64 (zs.getD 0 0)) (by
    simp only [cells_ints]
    cases zs with
    | nil => simp at h0
    | cons z r => simp)
  obtain ⟨b, off, h1, h2⟩ := hcell
  refine ⟨b, off, h1, World.block_lt_of_cell? W _ h2, fun j u hu => ?_⟩
  obtain ⟨b', off', h1', h2'⟩ := hok.cell (j := j) (u := u) (by simp only [cells_ints]; exact hu)
  simp only at h1 h1'
  rw [h1] at h1'
  injection h1' with h1'
  injection h1' with e1 e2
  subst e1; subst e2
  exact h2'
end Go.Proofs.Ytofekfpbljihiaa
