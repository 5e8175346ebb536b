
/- Rows handed back that are the call's own, or one element of an argument; append to a full slice. -/
import Derived.Test.YtpnngbfmmjjnaaaLj
import Derived.Deep.Upon
import Derived.ArgAppend
namespace Go.Proofs.Ytpnngbfmmjjnaaa
open Go.RowKit
set_option linter.unusedVariables false
set_option linter.unusedSimpArgs false

/-- A call walked with the names of what came in fixed. -/
theorem enterP {P : Program} {w : World} {T : Tab} (hT : TabOk P T) (hm : P.follows .mixedOrders = true) {f : FuncId} {fn : Func} {c : Code} (hf : P.funcs[f]? = some fn) (hb : fn.body = some c) {N : Nat} (hN : fn.ntmps = N)
    {rs : Array ResultVar} (hrs : fn.results = rs) {R : Ending → World → Prop} (xs0 : List SV) (ρ : Rho) (L : List Ob) (nx : Nat) (hl : Nat.ble xs0.length N = true) (hlt : ltL nx xs0 = true) (hp : Hp (refOf w) ρ L nx w)
    (h : vcC P ⟨w, nx, ρ, []⟩ T N c (retK ⟨w, nx, ρ, []⟩ T R rs.toList) (fun _ _ _ _ => False) (retK ⟨w, nx, ρ, []⟩ T R rs.toList) (env0 xs0 0) L nx) : Con P f (denL ρ xs0).toArray w R :=
  ⟨enter_sv (w := ⟨w, nx, ρ, []⟩) hT hm hf hb hN hrs xs0 ρ L nx hl hlt ⟨hp.bel, hp.obj, hp.dis, hp.lt, Nat.le_refl _, fun _ _ => rfl⟩ rfl h⟩
/-- Rows of the call's own (the slice may have less room than its block), or one element of the rows behind A. -/
def RetSub {α : Type} (R : RowS α) (ty : TypeId) (w : World) (A : Option Addr) (l xs : List α) (e : Ending) (w' : World) : Prop :=
  Below w.heap.size w w' ∧
  ((∃ B cap ocap, e = .returned (.slice B xs.length cap) ∧ xs.length ≤ cap ∧ cap ≤ ocap ∧ OwnOk w.heap.size (fun _ => B) ⟨0, true, ty, R.cols.length, ocap, .rows α R xs⟩ w') ∨
   (∃ j cap b off, j < l.length ∧ xs = [l.getD j R.d] ∧ 1 ≤ cap ∧ cap ≤ 9223372036854775807 ∧ A = some ⟨b, off, none⟩ ∧ e = .returned (.slice (some ⟨b, off + j * R.cols.length, none⟩) 1 cap)))
section
variable {P : Program} {w : Ref} {f : FuncId} {args : List SV} {L : List Ob} {nx : Nat}
theorem EvCall.sub {kp : Bool} {k : SV → List Ob → Nat → Prop} {α : Type} {R : RowS α} {ty : TypeId} {l xs : List α} (n eo : Nat) (hn : Nat.blt n nx = true) (ent : ∀ args W, (callFunc f args).run P W = .ok (.enter f args) W)
    (h : ∀ ρ W, Hp w ρ L nx W → ∃ A, A = (ρ n).map (·.add (eo * R.cols.length)) ∧ Con P f (denL ρ args).toArray W (RetSub R ty W A l xs))
    (hk1 : ∀ cap ocap, xs.length ≤ cap → cap ≤ ocap → ocap ≤ 9223372036854775807 → k (.s nx R.cols.length xs.length cap) (⟨nx, true, ty, R.cols.length, ocap, .rows α R xs⟩ :: L) (nx + 1))
    (hk2 : ∀ j cap, j < l.length → xs = [l.getD j R.d] → 1 ≤ cap → cap ≤ 9223372036854775807 → k (.so n R.cols.length (eo + j) 1 cap) L nx) : EvCall kp P w f args L nx k := by
  refine ⟨ent, fun ρ W hp _ => ?_⟩
  obtain ⟨A, hA, hcon⟩ := h ρ W hp
  refine hcon.out.mono fun e W' he => ?_
  obtain ⟨hb, ⟨B, cap, ocap, he, hc, hc2, hok⟩ | ⟨j, cap, b, off, hj, hx, h1, h2, hA2, he⟩⟩ := he
  · have hcm : ocap ≤ 9223372036854775807 := by
      rcases hok with ⟨_, _, hx⟩ | ⟨_, _, _, _, _, hx, _⟩
      · simp only at hx; omega
      · simpa [maxLen] using hx
    refine ⟨_, he, fun _ => hb, upd ρ nx B, .s nx R.cols.length xs.length cap, _, nx + 1, by simp [den, upd_same], agree_upd ρ nx B, by omega, by simp [SV.lt, blt_iff], ?_, hk1 cap ocap hc hc2 hcm⟩
    exact hp.new hb _ B rfl rfl rfl (OwnOk.rename (o := ⟨0, true, ty, R.cols.length, ocap, .rows α R xs⟩) (n := nx) rfl (upd_same _ _ _) hok)
  · refine ⟨_, he, fun _ => hb, ρ, .so n R.cols.length (eo + j) 1 cap, L, nx, ?_, fun _ _ => rfl, Nat.le_refl _, by simpa [SV.lt] using hn, hp.step hb, hk2 j cap hj hx h1 h2⟩
    rw [hA2] at hA
    cases hρ : ρ n with
    | none => rw [hρ] at hA; simp at hA
    | some x =>
      rw [hρ] at hA
      simp only [Option.map_some, Option.some.injEq] at hA
      obtain ⟨xb, xo, xp⟩ := x
      cases xp with
      | none =>
        rw [add_none] at hA
        simp only [Addr.mk.injEq] at hA
        simp only [den, hρ, Option.map_some, add_none, hA.1, hA.2.1, Nat.add_mul, Nat.add_assoc]
      | some pp =>
        unfold Addr.add at hA
        split at hA
        · cases hA
        · rename_i h0
          simp only [Addr.mk.injEq] at hA
          have h3 : ¬ ((eo + j) * R.cols.length = 0) := by rw [Nat.add_mul]; omega
          simp only [den, hρ, Option.map_some]
          unfold Addr.add
          rw [if_neg h3]
          simp only [hA.1, hA.2.1, Nat.add_mul, Nat.add_assoc]
theorem EvRet.sub_own {α : Type} {R : RowS α} {ty : TypeId} {A : Option Addr} {l xs ys : List α} {n len cap ocap : Nat} (hl : len = ys.length) (hc : ys.length ≤ cap) (hc2 : cap ≤ ocap) (hxy : xs = ys) (hn : fnd L n = some ⟨n, true, ty, R.cols.length, ocap, .rows α R xs⟩) : EvRet w (RetSub R ty w.toWorld A l ys) (.s n R.cols.length len cap) L nx := by
  subst hxy
  subst hl
  obtain ⟨_, l1, l2, hL, _⟩ := fnd_split hn
  refine ⟨fun ρ W hp _ => ⟨hp.bel, .inl ⟨ρ n, cap, ocap, by simp [den], hc, hc2, ?_⟩⟩⟩
  have h1 := hp.obj _ (show (⟨n, true, ty, R.cols.length, ocap, .rows α R xs⟩ : Ob) ∈ L by rw [hL]; simp)
  simp only [ObOk, if_true] at h1
  exact OwnOk.rename (o := ⟨n, true, ty, R.cols.length, ocap, .rows α R xs⟩) (n := 0) rfl rfl h1
theorem EvRet.sub_nil {α : Type} {R : RowS α} {ty : TypeId} {A : Option Addr} {l ys : List α} (h : ys = []) : EvRet w (RetSub R ty w.toWorld A l ys) (.v (.slice none 0 0)) L nx := by
  subst h
  exact ⟨fun ρ W hp _ => ⟨hp.bel, .inl ⟨none, 0, 0, rfl, Nat.le_refl _, Nat.le_refl _, .inl ⟨rfl, rfl, rfl⟩⟩⟩⟩
/-- One element of an object's rows. -/
theorem Hp.one {ρ : Rho} {W : World} {α : Type} {R : RowS α} (h : Hp w ρ L nx W) {n size cap eo c sz : Nat} {own : Bool} {ty : TypeId} {xs : List α} (hf : fnd L n = some ⟨n, own, ty, size, cap, .rows α R xs⟩) (hpos : 0 < R.cols.length) (hsz : sz = R.cols.length) (he : eo < xs.length) (h1 : 1 ≤ c) (h2 : c ≤ 9223372036854775807) :
    (∃ b off, (ρ n).map (·.add (eo * R.cols.length)) = some ⟨b, off, none⟩) ∧ RowsIn R W (den ρ (.so n sz eo 1 c)) [xs.getD eo R.d] := by
  subst hsz
  obtain ⟨_, l1, l2, hL, _⟩ := fnd_split hf
  have hok := h.obj _ (show (⟨n, own, ty, size, cap, .rows α R xs⟩ : Ob) ∈ L by rw [hL]; simp)
  have hall : ∀ i u, (rowC R xs)[i]? = some u → ∃ b off, ρ n = some ⟨b, off, none⟩ ∧ W.cell? ⟨b, off + i, none⟩ = some u := fun i u hu => hok.cell (j := i) (u := u) hu
  have hlen : (rowC R xs).length = xs.length * R.cols.length := rowC_len R xs
  have hlt : eo * R.cols.length < (rowC R xs).length := by rw [hlen]; exact Nat.mul_lt_mul_of_pos_right he hpos
  obtain ⟨b, off, hρ, hc0⟩ := hall (eo * R.cols.length) _ (List.getElem?_eq_getElem hlt)
  have hcells : rowC R [xs.getD eo R.d] = ((rowC R xs).drop (eo * R.cols.length)).take R.cols.length := by
    have h3 : [xs.getD eo R.d] = (xs.drop eo).take 1 := by
      rw [List.getD_eq_getElem?_getD, List.getElem?_eq_getElem he, List.drop_eq_getElem_cons he]
      rfl
    rw [h3, rowC_take, rowC_drop, Nat.one_mul]
  have hm : (ρ n).map (·.add (eo * R.cols.length)) = some ⟨b, off + eo * R.cols.length, none⟩ := by rw [hρ]; simp [add_none]
  refine ⟨⟨b, off + eo * R.cols.length, hm⟩, some ⟨b, off + eo * R.cols.length, none⟩, c, by simp only [den, hm]; rfl, h1, by simpa [maxLen] using h2, by rw [rowC_len], fun _ => ⟨b, off + eo * R.cols.length, rfl, World.block_lt_of_cell? W _ hc0, fun j u hu => ?_⟩⟩
  rw [hcells, List.getElem?_take] at hu
  split at hu
  · rw [List.getElem?_drop] at hu
    obtain ⟨b', off', hρ', hc'⟩ := hall _ u hu
    rw [hρ] at hρ'
    injection hρ' with hρ'
    injection hρ' with e1 e2
    subst e1; subst e2
    rw [Nat.add_assoc]
    exact hc'
  · cases hu
theorem EvRet.sub_one {α : Type} {R : RowS α} {ty : TypeId} {A : Option Addr} {l ys : List α} {n eo cap ocap size j : Nat} {own : Bool} {tz : TypeId} {xs : List α} (hf : fnd L n = some ⟨n, own, tz, size, ocap, .rows α R xs⟩) (hpos : 0 < R.cols.length) (he : eo < xs.length) (hj : j < l.length) (hy : ys = [l.getD j R.d])
    (h1 : 1 ≤ cap) (h2 : cap ≤ 9223372036854775807) (hA : ∀ ρ W, Hp w ρ L nx W → ∃ b off, A = some ⟨b, off, none⟩ ∧ ρ n = some ⟨b, off, none⟩) (hej : eo = j) : EvRet w (RetSub R ty w.toWorld A l ys) (.so n R.cols.length eo 1 cap) L nx := by
  subst hej
  refine ⟨fun ρ W hp _ => ⟨hp.bel, .inr ?_⟩⟩
  obtain ⟨b, off, hA1, hρ⟩ := hA ρ W hp
  exact ⟨eo, cap, b, off, hj, hy, h1, h2, hA1, by simp [den, hρ, add_none]⟩
theorem EvRet.sub_self {α : Type} {R : RowS α} {ty : TypeId} {A : Option Addr} {l ys : List α} {n len cap : Nat} (hl1 : l.length = 1) (hl : len = 1) (hy : ys = l) (h1 : 1 ≤ cap) (h2 : cap ≤ 9223372036854775807)
    (hA : ∀ ρ W, Hp w ρ L nx W → ∃ b off, A = some ⟨b, off, none⟩ ∧ ρ n = some ⟨b, off, none⟩) : EvRet w (RetSub R ty w.toWorld A l ys) (.s n R.cols.length len cap) L nx := by
  subst hy
  subst hl
  refine ⟨fun ρ W hp _ => ⟨hp.bel, .inr ?_⟩⟩
  obtain ⟨b, off, hA1, hρ⟩ := hA ρ W hp
  refine ⟨0, cap, b, off, by omega, ?_, h1, h2, hA1, by simp [den, hρ]⟩
  match ys, hl1 with
  | [a], _ => rfl
variable {kp : Bool} {k : SV → List Ob → Nat → Prop} {α : Type} {R : RowS α}
/-- append to a slice that has no room left. -/
theorem EvBi.appendFull {t ty : TypeId} {ti te : TI} (ht : TyOk P t ti) (hd : ti.d = .slice ty) (hty : TyOk P ty te) (hsz : te.size = R.cols.length) (hpos : 0 < R.cols.length) (hzs : te.zero.cells.size = te.size)
    {v1 src : SV} (hv1 : v1.lt nx = true) (xs ys : List α) (h1 : ∀ ρ W, Hp w ρ L nx W → RowsIn R W (den ρ v1) xs ∧ ∃ A, den ρ v1 = .slice A xs.length xs.length) (hsrc : ∀ ρ W, Hp w ρ L nx W → RowsIn R W (den ρ src) ys)
    (hmax : (xs.length + ys.length) * te.bytes ≤ 140737488355328) (hmx : xs.length + ys.length ≤ 9223372036854775807)
    (hk0 : ys = [] → k v1 L nx)
    (hk : ys ≠ [] → ∀ cap', xs.length + ys.length ≤ cap' → cap' ≤ 9223372036854775807 → k (.s nx R.cols.length (xs.length + ys.length) cap') (⟨nx, true, ty, R.cols.length, cap', .rows α R (xs ++ ys)⟩ :: L) (nx + 1)) :
    EvBi kp P w .append [v1, src] [t, t] L nx k := by
  refine ⟨fun ρ W hp hlt tt c => ?_⟩
  obtain ⟨_, j, hj1, hj2, hj3, hj4, _⟩ := hty
  obtain ⟨hX, A, hA⟩ := h1 ρ W hp
  have hY := hsrc ρ W hp
  have hu : P.underlying t = some (.slice ty) := by rw [ht.1, hd]
  by_cases hy0 : ys = []
  · subst hy0
    obtain ⟨B, cb, hB, _, _, _, hB4⟩ := hY
    have hS : Src P j.size t (den ρ src) 0 [] W := by
      rw [hB]
      cases B with
      | none => exact Src.ofNil W hu cb
      | some a => exact Src.ofSlice W hu a 0 cb [] (by simp) (fun j u hu => by simp at hu) (by simp)
    have hrun := run_append_nothing (P := P) W t t tt ty j hu hj1 A xs.length xs.length (Nat.le_refl _) (den ρ src) hS
    refine ⟨.slice A xs.length xs.length, W, ?_, fun _ => Below.refl _ _, ρ, v1, L, nx, hA.symm, fun _ _ => rfl, Nat.le_refl _, hv1, hp, hk0 rfl⟩
    simp only [builtin, denL]
    simp only [Sem.run_bind]
    rw [hA]
    have e2 : #[Value.slice A xs.length xs.length, den ρ src] = [Value.slice A xs.length xs.length, den ρ src].toArray := rfl
    have e1 : #[t, t] = [t, t].toArray := rfl
    rw [← e1, ← e2, hrun]
    rfl
  · have hylen : 0 < ys.length := by
      cases ys with
      | nil => exact absurd rfl hy0
      | cons _ _ => simp
    obtain ⟨B, cb, hB, _, _, hB3, hB4⟩ := hY
    obtain ⟨bb, bo, rfl, hbl, hbc⟩ := hB4 hylen
    obtain ⟨A', ca, hA', _, _, hA3, hA4⟩ := hX
    rw [hA] at hA'
    simp only [Value.slice.injEq] at hA'
    obtain ⟨rfl, _, rfl⟩ := hA'
    have hgo : ∃ v' W', (Builtin.append_ #[t, t] tt #[.slice A xs.length xs.length, den ρ src]).run P W = .ok v' W' ∧ W'.ownsRow W.heap.size ty R.cols.length v' (xs.length + ys.length) (rowC R xs ++ rowC R ys) ∧ W.grownBy W' none := by
      rw [hB]
      rcases Nat.eq_zero_or_pos xs.length with hx0 | hx0
      · obtain rfl : xs = [] := List.eq_nil_of_length_eq_zero hx0
        cases A with
        | none =>
          obtain ⟨A2, c2, W2, g1, g2, g3, g4⟩ := run_append_sl (P := P) W W.heap.size t tt ty j te.zero R.cols.length te.bytes hu hj1 hj4 (hj2.trans hsz) hj3 (hzs.trans hsz) hpos
            (.slice none 0 0) 0 (rowC R ([] : List α)) ⟨by simp [rowC], .inl ⟨rfl, rfl⟩⟩ (.slice (some ⟨bb, bo, none⟩) ys.length cb) ys.length (rowC R ys) ⟨_, cb, rfl, by assumption, by assumption, hB3, fun _ => ⟨bb, bo, rfl, hbl, hbc⟩⟩ (rowC_one R ys) (by simpa [maxLen] using hmx) hmax (Nat.le_refl _)
          exact ⟨_, W2, g1, g2, by simpa [Value.ownBlock] using g3⟩
        | some a =>
          exact run_append_arg_grows (P := P) W t tt ty j te.zero R.cols.length te.bytes hu hj1 hj4 (hj2.trans hsz) hj3 (hzs.trans hsz) hpos a 0 0 (rowC R ([] : List α)) (by simp [rowC]) (fun q u hu => by simp [rowC] at hu)
            ⟨bb, bo, none⟩ ys.length cb (rowC R ys) hB3 (fun q u hu => by rw [add_none]; exact hbc q u hu) (by omega) (by simpa [maxLen] using hmx) hmax
      · obtain ⟨ab, ao, rfl, hal, hac⟩ := hA4 hx0
        exact run_append_arg_grows (P := P) W t tt ty j te.zero R.cols.length te.bytes hu hj1 hj4 (hj2.trans hsz) hj3 (hzs.trans hsz) hpos ⟨ab, ao, none⟩ xs.length xs.length (rowC R xs) hA3 (fun q u hu => by rw [add_none]; exact hac q u hu)
          ⟨bb, bo, none⟩ ys.length cb (rowC R ys) hB3 (fun q u hu => by rw [add_none]; exact hbc q u hu) (by omega) (by simpa [maxLen] using hmx) hmax
    obtain ⟨v', W', hrun, hown, hgr⟩ := hgo
    have hbel : Below W.heap.size W W' := ⟨hgr.os, hgr.tape, hgr.output, hgr.size, fun k hk => hgr.block k hk (by simp)⟩
    rw [← rowC_app] at hown
    obtain ⟨A2, c2, rfl⟩ : ∃ A2 c2, v' = .slice A2 (xs.length + ys.length) c2 := by
      rcases hown.2 with ⟨rfl, h0⟩ | ⟨g, cap, cur, rfl, _⟩
      · exact ⟨none, 0, by rw [h0]⟩
      · exact ⟨_, _, rfl⟩
    obtain ⟨hown2, hcc⟩ := row_to_own (R := R) (ρ := upd ρ nx A2) (n := nx) (xs := xs ++ ys) (by simp) hown (upd_same _ _ _)
    refine ⟨.slice A2 (xs.length + ys.length) c2, W', ?_, fun _ => hbel, upd ρ nx A2, .s nx R.cols.length (xs.length + ys.length) c2, _, nx + 1, by simp [den, upd_same], agree_upd ρ nx A2, by omega, by simp [SV.lt, blt_iff], ?_, hk hy0 c2 hcc ?_⟩
    · simp only [builtin, denL]
      simp only [Sem.run_bind]
      rw [hA]
      have e2 : #[Value.slice A xs.length xs.length, den ρ src] = [Value.slice A xs.length xs.length, den ρ src].toArray := rfl
      have e1 : #[t, t] = [t, t].toArray := rfl
      rw [← e1, ← e2, hrun]
      rfl
    · exact hp.new hbel _ A2 rfl rfl rfl hown2
    · rcases hown2 with ⟨_, _, hx⟩ | ⟨_, _, _, _, _, hx, _⟩
      · simp only at hx; omega
      · simpa [maxLen] using hx
end
end Go.Proofs.Ytpnngbfmmjjnaaa
