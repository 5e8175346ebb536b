
/- The symbolic machine: pointers that come in. No program in sight. -/
import Derived.Test.YtebfhljamoapjaaDoorSyD
namespace Go.Proofs.YtebfhljamoapjaaDoor
open Go.RowKit
set_option linter.unusedVariables false
set_option linter.unusedSimpArgs false

/-- A pointer to these cells. -/
def PtrIn (w : World) (v : Value) (cs : List Value) : Prop := ∃ b off, v = .pointer (some ⟨b, off, none⟩) ∧ b < w.heap.size ∧ ∀ j u, cs[j]? = some u → w.cell? ⟨b, off + j, none⟩ = some u
theorem Hp.ptr {w : Ref} {ρ : Rho} {L : List Ob} {nx : Nat} {W : World} (h : Hp w ρ L nx W) {n : Nat} {own : Bool} {ty : TypeId} {size cap : Nat} {l : List SV} (hf : fnd L n = some ⟨n, own, ty, size, cap, .cs l⟩) (hl : 0 < l.length) : PtrIn W (den ρ (.p n 0)) (denL ρ l) := by
  obtain ⟨_, l1, l2, hL, _⟩ := fnd_split hf
  have hok := h.obj _ (show (⟨n, own, ty, size, cap, .cs l⟩ : Ob) ∈ L by rw [hL]; simp)
  have hlen : 0 < (denL ρ l).length := by simpa [denL_map] using hl
  obtain ⟨b, off, h1, h2⟩ := hok.cell (j := 0) (u := (denL ρ l)[0]) (List.getElem?_eq_getElem hlen)
  simp only at h1
  refine ⟨b, off, by simp [den, h1, Addr.add], World.block_lt_of_cell? W _ h2, fun j u hu => ?_⟩
  obtain ⟨b', off', h1', h2'⟩ := hok.cell (j := j) (u := u) hu
  simp only at h1'
  rw [h1] at h1'
  injection h1' with h1'
  injection h1' with e1 e2
  subst e1; subst e2
  exact h2'
theorem ro_ptr {w : World} {A : Option Addr} {n : Nat} {ρ : Rho} {ty : TypeId} {size cap : Nat} {l : List SV} (h : PtrIn w (.pointer A) (denL ρ l)) (hρ : ρ n = A) : RoOk w.heap.size ρ ⟨n, false, ty, size, cap, .cs l⟩ w := by
  intro _
  obtain ⟨b, off, e, h1, h2⟩ := h
  simp only [Value.pointer.injEq] at e
  subst e
  exact ⟨b, off, hρ, .inl h1, h2⟩
theorem PtrIn.form {w : World} {v : Value} {cs : List Value} (h : PtrIn w v cs) : ∃ A, v = .pointer A ∧ A.isSome = true ∧ A = A.map (·.add 0) := by
  obtain ⟨b, off, e, _⟩ := h
  exact ⟨_, e, rfl, by simp [Addr.add]⟩
end Go.Proofs.YtebfhljamoapjaaDoor
