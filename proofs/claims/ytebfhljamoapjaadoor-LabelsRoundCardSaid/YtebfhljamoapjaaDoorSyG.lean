
/- Appending to an empty slice leaves every block as it was. No program in sight. -/
import Derived.Test.YtebfhljamoapjaaDoorSyF
namespace Go.Proofs.YtebfhljamoapjaaDoor
open Go.RowKit
set_option linter.unusedVariables false
set_option linter.unusedSimpArgs false

theorem run_append_zero {P : Program} (w w' : World) (t ty e : TypeId) (i : TypeInfo) (ht : P.underlying t = some (.slice e)) (hi : P.info? e = some i) (a : Addr) (B : Option Addr) (m c : Nat) (v : Value)
    (hm : m ≤ 9223372036854775807) (hb : m * i.bytes ≤ 140737488355328)
    (h : (Builtin.append_ #[t, t] ty #[.slice (some a) 0 0, .slice B m c]).run P w = .ok v w') : ∃ v', (Builtin.append_ #[t, t] ty #[.slice none 0 0, .slice B m c]).run P w = .ok v' w' := by
  have hl : ∀ x : Addr, (loadCells x 0 : Sem (Array Value)) = pure #[] := fun x => rfl
  rcases Nat.eq_zero_or_pos m with h0 | h0
  · subst h0
    cases B with
    | none =>
      simp [Builtin.append_, run_underlying ht, sizeOf, typeInfo, hi, Builtin.lenOf, Builtin.firstCells, storeCells] at h ⊢
      exact h.2
    | some b =>
      simp [Builtin.append_, run_underlying ht, sizeOf, typeInfo, hi, Builtin.lenOf, Builtin.firstCells, storeCells, hl] at h ⊢
      exact h.2
  · have e1 : ¬ m = 0 := by omega
    have e2 : ¬ (9223372036854775807 : Int) < (m : Int) := by omega
    have e3 : Builtin.nextslicecap m 0 = m := by simp [Builtin.nextslicecap]; omega
    have e4 : ¬ 281474976710656 < m * i.bytes := by omega
    refine ⟨v, ?_⟩
    rw [← h]
    simp [Builtin.append_, run_underlying ht, sizeOf, typeInfo, hi, Builtin.lenOf, Builtin.firstCells, storeCells, hl, e1, e2, e3, e4]
theorem EvDraw.meetR {P : Program} {w : Ref} {T : Tab} {N id : Nat} {ops : List Oper} {env : Env} {L : List Ob} {nx : Nat} {k : K3} (tr : Tr) (rest K : List Nat) (hp : planB ops rest tr = true) {α : Type} (R : α → Prop) (E : α → Env) (O : α → List Ob) (n0 : Nat)
    (h : vcTr P w T N ops rest (pickL K L) tr [] env L nx (JoinI w.n0 R E O n0)) (h3 : ∀ x, R x → k (E x) (O x) n0) : EvDraw P w T N id ops env L nx k :=
  ⟨tr, rest, K, hp, _, h, fun e l n ⟨x, hx, hs⟩ => ⟨_, _, _, h3 x hx, hs⟩⟩
theorem EvBi.keep {kp : Bool} {P : Program} {w : Ref} {b : Builtin} {args : List SV} {ts : List TypeId} {L : List Ob} {nx : Nat} {k : SV → List Ob → Nat → Prop} (h : EvBi false P w b args ts L nx k)
    (hb : ∀ ρ W, Hp w ρ L nx W → ∀ ty c v W', (builtin b ts.toArray ty c (denL ρ args).toArray).run P W = .ok (.value v) W' → Below W.heap.size W W') : EvBi kp P w b args ts L nx k :=
  ⟨fun ρ W hp hlt ty c => by
    obtain ⟨v, W', h1, h2, h3⟩ := h.go ρ W hp hlt ty c
    exact ⟨v, W', h1, fun _ => hb ρ W hp ty c v W' h1, h3⟩⟩
section
variable {P : Program} {w : Ref} {L : List Ob} {nx : Nat} {k : SV → List Ob → Nat → Prop} {kp : Bool} {α : Type} {R : RowS α}
/-- append to an empty slice with no room: everything stays. -/
theorem EvBi.append0 {t ty : TypeId} {ti te : TI} (ht : TyOk P t ti) (hd : ti.d = .slice ty) (hty : TyOk P ty te) (hsz : te.size = R.cols.length) (hpos : 0 < R.cols.length) (hzs : te.zero.cells.size = te.size)
    {n sz : Nat} (hn : fnd L n = some ⟨n, true, ty, R.cols.length, 0, .rows α R []⟩) {src : SV} (ys : List α) (hsrc : ∀ ρ W, Hp w ρ L nx W → RowsIn R W (den ρ src) ys)
    (hmax : ys.length * te.bytes ≤ 140737488355328) (hmx : ys.length ≤ 9223372036854775807)
    (hk : ∀ cap', ys.length ≤ cap' → cap' ≤ 9223372036854775807 → k (.s nx R.cols.length ys.length cap') (⟨nx, true, ty, R.cols.length, cap', .rows α R ys⟩ :: rmL L n) (nx + 1)) :
    EvBi kp P w .append [.s n sz 0 0, src] [t, t] L nx k := by
  refine EvBi.keep (EvBi.append ht hd hty hsz hpos hzs hn rfl (Nat.zero_le _) ys hsrc (by simpa using hmax) (by simpa using hmx) (fun cap' h1 h2 => ?_)) (fun ρ W hp tt c v W' hr => ?_)
  · simpa using hk cap' (by simpa using h1) h2
  · have hrow : W.ownsRow w.heap.size ty R.cols.length (.slice none 0 0) 0 (rowC R ([] : List α)) := ⟨by simp [rowC], .inl ⟨rfl, rfl⟩⟩
    obtain ⟨_, j, hj1, hj2, hj3, hj4, _⟩ := hty
    have hS := hsrc ρ W hp
    obtain ⟨A, cap', W'', h1, h2, h3, h4⟩ := run_append_sl (P := P) W w.heap.size t tt ty j te.zero R.cols.length te.bytes (by rw [ht.1, hd]) hj1 hj4 (hj2.trans hsz) hj3 (hzs.trans hsz) hpos
      (.slice none 0 0) 0 (rowC R ([] : List α)) hrow (den ρ src) ys.length (rowC R ys) hS (rowC_one R ys) (by simpa [maxLen] using hmx) (by simpa using hmax) hp.bel.size
    have hbel : Below W.heap.size W W'' := ⟨h3.os, h3.tape, h3.output, h3.size, fun k hk => h3.block k hk (by simp [Value.ownBlock])⟩
    have hW : W' = W'' := by
      have hr2 : ∃ v', (Builtin.append_ #[t, t] tt #[.slice (ρ n) 0 0, den ρ src]).run P W = .ok v' W' := by
        simp only [builtin, denL, den, Sem.run_bind] at hr
        have e1 : #[t, t] = [t, t].toArray := rfl
        have e2 : #[Value.slice (ρ n) 0 0, den ρ src] = [Value.slice (ρ n) 0 0, den ρ src].toArray := rfl
        rw [← e1, ← e2] at hr
        cases hq : (Builtin.append_ #[t, t] tt #[.slice (ρ n) 0 0, den ρ src]).run P W with
        | ok v1 W1 =>
          rw [hq] at hr
          simp at hr
          exact ⟨v1, by rw [hr.2]⟩
        | _ => rw [hq] at hr; simp at hr
      obtain ⟨v', hr2⟩ := hr2
      obtain ⟨B, cB, hB, _⟩ := hS
      rw [hB] at hr2 h1
      have : ∃ v', (Builtin.append_ #[t, t] tt #[.slice none 0 0, .slice B ys.length cB]).run P W = .ok v' W' := by
        cases hA : ρ n with
        | none => rw [hA] at hr2; exact ⟨_, hr2⟩
        | some a => rw [hA] at hr2; exact run_append_zero W W' t tt ty j (by rw [ht.1, hd]) hj1 a B ys.length cB v' hmx (by rw [hj3]; exact hmax) hr2
      obtain ⟨v2, h6⟩ := this
      rw [h1] at h6
      simp at h6
      exact h6.2.symm
    rw [hW]
    exact hbel
end
end Go.Proofs.YtebfhljamoapjaaDoor
