
/- The symbolic machine: two slices of ints handed back. No program in sight. -/
import Derived.Test.YtebfhljamoapjaaDoorSyE
namespace Go.Proofs.YtebfhljamoapjaaDoor
open Go.RowKit
set_option linter.unusedVariables false
set_option linter.unusedSimpArgs false

/-- A value with two new slices of ints in it. -/
def Ret2 (ty : TypeId) (w : World) (xs ys : List Int) (mk : Value → Value → Value) (e : Ending) (w' : World) : Prop :=
  ∃ A c B c', e = .returned (mk (.slice A xs.length c) (.slice B ys.length c')) ∧ Below w.heap.size w w' ∧ xs.length ≤ c ∧ ys.length ≤ c' ∧
    OwnOk w.heap.size (fun _ => A) ⟨0, true, ty, 1, c, .rows Int rI xs⟩ w' ∧ OwnOk w.heap.size (fun _ => B) ⟨0, true, ty, 1, c', .rows Int rI ys⟩ w' ∧ (A ≠ none → A ≠ B)
theorem own_capI {B : Nat} {ρ : Rho} {o : Ob} {W : World} (h : OwnOk B ρ o W) : o.cap ≤ 9223372036854775807 := by
  rcases h with ⟨_, _, hx⟩ | ⟨_, _, _, _, _, hx, _⟩
  · omega
  · simpa [maxLen] using hx
section
variable {P : Program} {w : Ref} {f : FuncId} {args : List SV} {L : List Ob} {nx : Nat}
theorem EvCall.two {kp : Bool} {k : SV → List Ob → Nat → Prop} {ty : TypeId} {xs ys : List Int} {mkV : Value → Value → Value} (mkS : SV → SV → SV) (hden : ∀ ρ a b, den ρ (mkS a b) = mkV (den ρ a) (den ρ b)) (hlt : ∀ n a b, a.lt n = true → b.lt n = true → (mkS a b).lt n = true)
    (ent : ∀ args W, (callFunc f args).run P W = .ok (.enter f args) W) (h : ∀ ρ W, Hp w ρ L nx W → Con P f (denL ρ args).toArray W (Ret2 ty W xs ys mkV))
    (hk : ∀ c c', xs.length ≤ c → c ≤ 9223372036854775807 → ys.length ≤ c' → c' ≤ 9223372036854775807 → k (mkS (.s nx 1 xs.length c) (.s (nx + 1) 1 ys.length c')) (⟨nx + 1, true, ty, 1, c', .rows Int rI ys⟩ :: ⟨nx, true, ty, 1, c, .rows Int rI xs⟩ :: L) (nx + 2)) : EvCall kp P w f args L nx k := by
  refine ⟨ent, fun ρ W hp _ => (h ρ W hp).out.mono fun e W' he => ?_⟩
  obtain ⟨A, c, B, c', he, hb, h1, h2, hA, hB, hAB⟩ := he
  have hcA := own_capI hA
  have hcB := own_capI hB
  have e1 : upd (upd ρ nx A) (nx + 1) B nx = A := by rw [upd_lt (by omega), upd_same]
  refine ⟨_, he, fun _ => hb, upd (upd ρ nx A) (nx + 1) B, mkS (.s nx 1 xs.length c) (.s (nx + 1) 1 ys.length c'), _, nx + 2, ?_, ?_, by omega, hlt _ _ _ (by simp [SV.lt, blt_iff]) (by simp [SV.lt, blt_iff]), ?_, hk c c' h1 hcA h2 hcB⟩
  · rw [hden]
    simp only [den, e1, upd_same]
  · intro m hm
    rw [upd_lt (by omega), upd_lt hm]
  · have hp1 := hp.new hb ⟨nx, true, ty, 1, c, .rows Int rI xs⟩ A rfl rfl rfl (OwnOk.rename (o := ⟨0, true, ty, 1, c, .rows Int rI xs⟩) (n := nx) rfl (upd_same _ _ _) hA)
    have hBW : OwnOk w.heap.size (upd (upd ρ nx A) (nx + 1) B) ⟨nx + 1, true, ty, 1, c', .rows Int rI ys⟩ W' := by
      have := OwnOk.rename (o := ⟨0, true, ty, 1, c', .rows Int rI ys⟩) (n := nx + 1) (ρ' := upd (upd ρ nx A) (nx + 1) B) rfl (upd_same _ _ _) hB
      rcases this with hh | ⟨g, junk, q1, q2, q3⟩
      · exact .inl hh
      · exact .inr ⟨g, junk, q1, Nat.le_trans hp.bel.size q2, q3⟩
    refine hp1.add ⟨nx + 1, true, ty, 1, c', .rows Int rI ys⟩ B rfl rfl rfl hBW ?_
    intro B0 hB0 o' ho' hw' hee
    rcases List.mem_cons.1 ho' with rfl | ho'
    · rw [upd_same] at hee
      exact hAB (by rw [hee]; simp) (by rw [hee, hB0])
    · have hlo := (hp.lt o' ho').1
      rw [upd_lt hlo] at hee
      have hobj := hp.obj o' ho'
      unfold ObOk at hobj
      rw [if_pos hw'] at hobj
      have hlt1 := hobj.blk_lt hee
      rcases hB with ⟨hx, _⟩ | ⟨g, _, hx, hg, _⟩
      · simp only at hx; rw [hx] at hB0; cases hB0
      · simp only at hx
        rw [hx] at hB0
        cases hB0
        simp at hlt1
        omega
theorem EvRet.two {ty : TypeId} {xs ys : List Int} {mkV : Value → Value → Value} {v : SV} {n m c c' len len' : Nat} (hv : ∀ ρ : Rho, den ρ v = mkV (den ρ (.s n 1 len c)) (den ρ (.s m 1 len' c'))) (hl : len = xs.length) (hl' : len' = ys.length) (hc : xs.length ≤ c) (hc' : ys.length ≤ c')
    (hn : fnd L n = some ⟨n, true, ty, 1, c, .rows Int rI xs⟩) (hm : fnd L m = some ⟨m, true, ty, 1, c', .rows Int rI ys⟩) (hnm : n ≠ m) : EvRet w (Ret2 ty w.toWorld xs ys mkV) v L nx := by
  subst hl; subst hl'
  obtain ⟨_, l1, l2, hL, _⟩ := fnd_split hn
  obtain ⟨_, m1, m2, hM, _⟩ := fnd_split hm
  refine ⟨fun ρ W hp _ => ⟨ρ n, c, ρ m, c', by rw [hv]; simp [den], hp.bel, hc, hc', ?_, ?_, ?_⟩⟩
  · have h1 := hp.obj _ (show (⟨n, true, ty, 1, c, .rows Int rI xs⟩ : Ob) ∈ L by rw [hL]; simp)
    simp only [ObOk, if_true] at h1
    exact OwnOk.rename (o := ⟨n, true, ty, 1, c, .rows Int rI xs⟩) (n := 0) rfl rfl h1
  · have h1 := hp.obj _ (show (⟨m, true, ty, 1, c', .rows Int rI ys⟩ : Ob) ∈ L by rw [hM]; simp)
    simp only [ObOk, if_true] at h1
    exact OwnOk.rename (o := ⟨m, true, ty, 1, c', .rows Int rI ys⟩) (n := 0) rfl rfl h1
  · intro hne
    exact apart_of hp.dis ⟨n, true, ty, 1, c, .rows Int rI xs⟩ (by rw [hL]; simp) ⟨m, true, ty, 1, c', .rows Int rI ys⟩ (by rw [hM]; simp) hnm rfl rfl hne
theorem EvRet.two_nil {ty : TypeId} {xs ys : List Int} {mkV : Value → Value → Value} {v : SV} (hv : ∀ ρ : Rho, den ρ v = mkV (.slice none 0 0) (.slice none 0 0)) (hx : xs = []) (hy : ys = []) : EvRet w (Ret2 ty w.toWorld xs ys mkV) v L nx := by
  subst hx; subst hy
  exact ⟨fun ρ W hp _ => ⟨none, 0, none, 0, by rw [hv]; rfl, hp.bel, Nat.le_refl _, Nat.le_refl _, .inl ⟨rfl, rfl, rfl⟩, .inl ⟨rfl, rfl, rfl⟩, fun h => absurd rfl h⟩⟩
end
/-- An envelope. -/
def envV (fst : Int) (a b : Value) : Value := .agg #[.int .i64 fst, a, b]
def envS (fst : Int) (a b : SV) : SV := .a [.v (.int .i64 fst), a, b]
theorem envS_den (fst : Int) (ρ : Rho) (a b : SV) : den ρ (envS fst a b) = envV fst (den ρ a) (den ρ b) := by simp [envS, envV, den, denL]
theorem envS_lt (fst : Int) (n : Nat) (a b : SV) (ha : a.lt n = true) (hb : b.lt n = true) : (envS fst a b).lt n = true := by simp [envS, SV.lt, ltL, ha, hb]
def envEV (fst z : Int) (a b : Value) : Value := .tuple #[envV fst a b, .int .i64 z]
def envES (fst z : Int) (a b : SV) : SV := .t [envS fst a b, .v (.int .i64 z)]
theorem envES_den (fst z : Int) (ρ : Rho) (a b : SV) : den ρ (envES fst z a b) = envEV fst z (den ρ a) (den ρ b) := by simp [envES, envEV, envS, envV, den, denL]
theorem envES_lt (fst z : Int) (n : Nat) (a b : SV) (ha : a.lt n = true) (hb : b.lt n = true) : (envES fst z a b).lt n = true := by simp [envES, envS, SV.lt, ltL, ha, hb]
end Go.Proofs.YtebfhljamoapjaaDoor
