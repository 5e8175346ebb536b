/- The symbolic machine: how its events are met. No program in sight. -/
import Derived.Test.YtofekfpbljihiaaSye
namespace Go.Proofs.Ytofekfpbljihiaa
open Go.RowKit
set_option linter.unusedVariables false
set_option linter.unusedSimpArgs false
set_option linter.unnecessarySimpa false

theorem hp0 (w : World) (ρ : Rho) (nx : Nat) : Hp w ρ [] nx w := ⟨Below.refl _ _, by simp, .nil, by simp⟩
/-- A contract (Calls, kept shut). -/
structure Con (P : Program) (f : FuncId) (args : Array Value) (w : World) (R : Ending → World → Prop) : Prop where
  out : Calls P f args w R
theorem enter {P : Program} {w : World} {T : Tab} (hT : TabOk P T) (hm : P.follows .mixedOrders = true) {f : FuncId} {fn : Func} {c : Code} (hf : P.funcs[f]? = some fn) (hb : fn.body = some c) {N : Nat} (hN : fn.ntmps = N)
    {rs : Array ResultVar} (hrs : fn.results = rs) {R : Ending → World → Prop} (as : List SV) (ρ : Rho) (L : List Ob) (nx : Nat) (hl : Nat.ble as.length N = true) (hlt : ltL nx as = true) (hp : Hp w ρ L nx w)
    (h : vcC P w T N c (retK w T R rs.toList) (fun _ _ _ _ => False) (retK w T R rs.toList) (env0 as 0) L nx) : Con P f (denL ρ as).toArray w R := ⟨enter_sv hT hm hf hb hN hrs as ρ L nx hl hlt hp h⟩
/-- A call hands back v, and leaves all that was as it was. -/
def Ret (w : World) (v : Value) (e : Ending) (w' : World) : Prop := e = .returned v ∧ Below w.heap.size w w'

section
variable {P : Program} {w : World} {f : FuncId} {args : List SV} {L : List Ob} {nx : Nat}
theorem EvCall.plain {kp : Bool} {k : SV → List Ob → Nat → Prop} (ent : ∀ args W, (callFunc f args).run P W = .ok (.enter f args) W) (v : SV) (hv : v.lt nx = true)
    (h : ∀ ρ W, Hp w ρ L nx W → Con P f (denL ρ args).toArray W (Ret W (den ρ v))) (hk : k v L nx) : EvCall kp P w f args L nx k :=
  ⟨ent, fun ρ W hp _ => (h ρ W hp).out.mono fun e W' ⟨he, hb⟩ => ⟨_, he, fun _ => hb, ρ, v, L, nx, rfl, fun _ _ => rfl, Nat.le_refl _, hv, hp.step hb, hk⟩⟩
theorem EvCallC.plain {c : Prop} {k : SV → Prop} (ent : ∀ args W, (callFunc f args).run P W = .ok (.enter f args) W) (v : SV) (hv : v.lt nx = true)
    (h : c → ∀ ρ W, Hp w ρ L nx W → Con P f (denL ρ args).toArray W (Ret W (den ρ v))) (hk : k v) : EvCallC c P w f args L nx k :=
  ⟨ent, v, hv, fun hc ρ W hp _ => (h hc ρ W hp).out, hk⟩
theorem EvRet.ret {v : SV} {V : Value} (h : ∀ ρ : Rho, den ρ v = V) : EvRet w (Ret w V) v L nx := ⟨fun ρ W hp _ => ⟨by rw [h], hp.bel⟩⟩
/-- A call that hands back a new slice (perhaps nil) of rows: it becomes an object of the caller's. -/
def RetRows {α : Type} (R : RowS α) (ty : TypeId) (w : World) (xs : List α) (e : Ending) (w' : World) : Prop :=
  ∃ A cap, e = .returned (.slice A xs.length cap) ∧ Below w.heap.size w w' ∧ xs.length ≤ cap ∧
    OwnOk w.heap.size (fun _ => A) ⟨0, true, ty, R.cols.length, cap, .rows α R xs⟩ w'
theorem OwnOk.rename {B : Nat} {ρ ρ' : Rho} {o : Ob} {W : World} {n : Nat} {α : Type} {R : RowS α} {xs : List α} (hc : o.c = .rows α R xs) (he : ρ' n = ρ o.n) (h : OwnOk B ρ o W) : OwnOk B ρ' ⟨n, true, o.ty, o.size, o.cap, o.c⟩ W := by
  unfold OwnOk at *
  simp only [hc, Ct.cells] at *
  rw [he]
  exact h
theorem EvCall.rows {kp : Bool} {k : SV → List Ob → Nat → Prop} {α : Type} {R : RowS α} {ty : TypeId} {xs : List α} (ent : ∀ args W, (callFunc f args).run P W = .ok (.enter f args) W)
    (h : ∀ ρ W, Hp w ρ L nx W → Con P f (denL ρ args).toArray W (RetRows R ty W xs)) (hk : ∀ cap, xs.length ≤ cap → cap ≤ 9223372036854775807 → k (.s nx R.cols.length xs.length cap) (⟨nx, true, ty, R.cols.length, cap, .rows α R xs⟩ :: L) (nx + 1)) : EvCall kp P w f args L nx k := by
  refine ⟨ent, fun ρ W hp _ => (h ρ W hp).out.mono fun e W' he => ?_⟩
  obtain ⟨A, cap, he, hb, hc, hok⟩ := he
  have hcm : cap ≤ 9223372036854775807 := by
    rcases hok with ⟨_, _, hx⟩ | ⟨_, _, _, _, _, hx, _⟩
    · simp only at hx; omega
    · simpa [maxLen] using hx
  refine ⟨_, he, fun _ => hb, upd ρ nx A, .s nx R.cols.length xs.length cap, _, nx + 1, by simp [den, upd_same], agree_upd ρ nx A, by omega, by simp [SV.lt, blt_iff], ?_, hk cap hc hcm⟩
  exact hp.new hb _ A rfl rfl rfl (OwnOk.rename (o := ⟨0, true, ty, R.cols.length, cap, .rows α R xs⟩) (n := nx) rfl (upd_same _ _ _) hok)
theorem EvRet.rows {α : Type} {R : RowS α} {ty : TypeId} {xs ys : List α} {n len cap : Nat} (hl : len = ys.length) (hc : ys.length ≤ cap) (hxy : xs = ys) (hn : fnd L n = some ⟨n, true, ty, R.cols.length, cap, .rows α R xs⟩) : EvRet w (RetRows R ty w ys) (.s n R.cols.length len cap) L nx := by
  subst hxy
  subst hl
  obtain ⟨_, l1, l2, hL, _⟩ := fnd_split hn
  refine ⟨fun ρ W hp _ => ⟨ρ n, cap, by simp [den], hp.bel, hc, ?_⟩⟩
  have h1 := hp.obj _ (show (⟨n, true, ty, R.cols.length, cap, .rows α R xs⟩ : Ob) ∈ L by rw [hL]; simp)
  simp only [ObOk, if_true] at h1
  exact OwnOk.rename (o := ⟨n, true, ty, R.cols.length, cap, .rows α R xs⟩) (n := 0) rfl rfl h1
theorem EvRet.rows_nil {α : Type} {R : RowS α} {ty : TypeId} {ys : List α} (h : ys = []) : EvRet w (RetRows R ty w ys) (.v (.slice none 0 0)) L nx := by
  subst h
  exact ⟨fun ρ W hp _ => ⟨none, 0, rfl, hp.bel, Nat.le_refl _, .inl ⟨rfl, rfl, rfl⟩⟩⟩
end

/-! what is known, forgotten -/
def σK (σ : List (Nat × Nat)) (n : Nat) : Nat :=
  match σ with
  | [] => n
  | (a, b) :: r => bif Nat.beq a n then b else σK r n
mutual
def eqSV (σ : List (Nat × Nat)) (gh : List Nat) : SV → SV → Prop
  | .v x, .v y => (match x, y with
    | .int k1 a, .int k2 b => Nat.beq (kb k1) (kb k2) = true ∧ b = a
    | .bool a, .bool b => b = a
    | x, y => y = x)
  | .p n off, .p n' off' => (gh.any (Nat.beq n) = false ∧ Nat.beq (σK σ n) n' = true) ∧ off' = off
  | .e n sz i j, .e n' sz' i' j' => (gh.any (Nat.beq n) = false ∧ Nat.beq (σK σ n) n' = true) ∧ sz' = sz ∧ i' = i ∧ j' = j
  | .s n sz len cap, .s n' sz' len' cap' => (gh.any (Nat.beq n) = false ∧ Nat.beq (σK σ n) n' = true) ∧ len' = len ∧ cap' = cap
  | .s n sz len cap, .v y => gh.any (Nat.beq n) = true ∧ y = .slice none 0 0 ∧ len = 0 ∧ cap = 0
  | .so n sz eo len cap, .so n' sz' eo' len' cap' => (gh.any (Nat.beq n) = false ∧ Nat.beq (σK σ n) n' = true) ∧ sz' = sz ∧ eo' = eo ∧ len' = len ∧ cap' = cap
  | .a l, .a l' => eqSVs σ gh l l'
  | .t l, .t l' => eqSVs σ gh l l'
  | .f fn l, .f fn' l' => fn' = fn ∧ eqSVs σ gh l l'
  | _, _ => False
def eqSVs (σ : List (Nat × Nat)) (gh : List Nat) : List SV → List SV → Prop
  | [], [] => True
  | x :: r, y :: s => eqSV σ gh x y ∧ eqSVs σ gh r s
  | _, _ => False
end
def ρσ (σ : List (Nat × Nat)) (gh : List Nat) (ρ : Rho) : Rho := fun n => if gh.any (Nat.beq n) then none else ρ (σK σ n)
theorem ρσ_name {σ : List (Nat × Nat)} {gh : List Nat} {ρ : Rho} {n n' : Nat} (h : gh.any (Nat.beq n) = false ∧ Nat.beq (σK σ n) n' = true) : ρσ σ gh ρ n = ρ n' := by
  simp only [ρσ, h.1, Bool.false_eq_true, if_false]
  rw [Nat.eq_of_beq_eq_true h.2]
mutual
theorem eqSV_den {σ : List (Nat × Nat)} {gh : List Nat} {ρ : Rho} : ∀ (x y : SV), eqSV σ gh x y → den (ρσ σ gh ρ) x = den ρ y := by
  intro x y h
  cases x with
  | v x =>
    cases y <;> try exact h.elim
    rename_i y
    simp only [eqSV] at h
    split at h
    · obtain ⟨h1, rfl⟩ := h
      obtain rfl := kb_eq h1
      rfl
    · subst h; rfl
    · subst h; rfl
  | p n off =>
    cases y <;> try exact h.elim
    obtain ⟨h1, rfl⟩ := h
    simp [den, ρσ_name h1]
  | e n sz i j =>
    cases y <;> try exact h.elim
    obtain ⟨h1, rfl, rfl, rfl⟩ := h
    simp [den, ρσ_name h1]
  | s n sz len cap =>
    cases y <;> try exact h.elim
    · obtain ⟨h1, rfl, rfl, rfl⟩ := h
      simp only [den, ρσ, h1]
      rfl
    · obtain ⟨h1, rfl, rfl⟩ := h
      simp [den, ρσ_name h1]
  | so n sz eo len cap =>
    cases y <;> try exact h.elim
    obtain ⟨h1, rfl, rfl, rfl, rfl⟩ := h
    simp [den, ρσ_name h1]
  | a l =>
    cases y <;> try exact h.elim
    rename_i l'
    simp [den, eqSVs_den l l' h]
  | t l =>
    cases y <;> try exact h.elim
    rename_i l'
    simp [den, eqSVs_den l l' h]
  | f fn l =>
    cases y <;> try exact h.elim
    rename_i fn' l'
    obtain ⟨rfl, h⟩ := h
    simp [den, eqSVs_den l l' h]
theorem eqSVs_den {σ : List (Nat × Nat)} {gh : List Nat} {ρ : Rho} : ∀ (l l' : List SV), eqSVs σ gh l l' → denL (ρσ σ gh ρ) l = denL ρ l' := by
  intro l l' h
  cases l with
  | nil =>
    cases l' with
    | nil => rfl
    | cons y s => exact h.elim
  | cons x r =>
    cases l' with
    | nil => exact h.elim
    | cons y s =>
      obtain ⟨h1, h2⟩ := h
      simp [denL, eqSV_den x y h1, eqSVs_den r s h2]
end

def subE (σ : List (Nat × Nat)) (gh : List Nat) (n0 : Nat) : Env → Env → Prop
  | [], _ => True
  | (t, p, v) :: r, e => lkK e t (fun p' v' => bif List.isEmpty p && (List.isEmpty p' && v.lt n0) then eqSV σ gh v v' ∧ subE σ gh n0 r e else False)
def ctNil : Ct → Prop
  | .cs l => l = []
  | .rows _ _ xs => xs = []
def ctEq (σ : List (Nat × Nat)) (gh : List Nat) : Ct → Ct → Prop
  | .cs l0, .cs l => eqSVs σ gh l0 l
  | .rows α R xs, .rows β R' ys => Ct.rows β R' ys = .rows α R xs
  | .rows α R xs, .cs l => ∀ ρ : Rho, denL ρ l = (Ct.rows α R xs).cells ρ
  | _, _ => False
def subO (σ : List (Nat × Nat)) (gh : List Nat) (n0 : Nat) : List Ob → List Ob → Prop
  | [], _ => True
  | o0 :: r, l => (bif Nat.blt o0.n n0 && o0.c.lt n0 then
      (bif gh.any (Nat.beq o0.n) then o0.own = true ∧ ctNil o0.c ∧ o0.cap = 0
       else obK l (σK σ o0.n) (fun o => (o.own = o0.own ∧ o.ty = o0.ty ∧ o.size = o0.size ∧ o.cap = o0.cap) ∧ ctEq σ gh o0.c o.c)) else False) ∧ subO σ gh n0 r l
def apartB (σ : List (Nat × Nat)) (gh : List Nat) : List Ob → Bool
  | [] => true
  | o :: r => (gh.any (Nat.beq o.n) || r.all (fun o' => gh.any (Nat.beq o'.n) || !(Nat.beq (σK σ o.n) (σK σ o'.n)))) && apartB σ gh r
theorem subE_sound {σ : List (Nat × Nat)} {gh : List Nat} {n0 : Nat} {e : Env} : ∀ {e0 : Env}, subE σ gh n0 e0 e → ∀ t p v, lk e0 t = some (p, v) → p = [] ∧ v.lt n0 = true ∧ ∃ v', lk e t = some ([], v') ∧ eqSV σ gh v v'
  | [], h, t, p, v, hl => by simp [lk] at hl
  | (t', p', v') :: r, h, t, p, v, hl => by
    obtain ⟨p1, v1, h1, h2⟩ := lkK_sound h
    cases hb : (List.isEmpty p' && (List.isEmpty p1 && v'.lt n0)) with
    | false => rw [hb] at h2; exact h2.elim
    | true =>
      rw [hb] at h2
      simp only [Bool.and_eq_true, List.isEmpty_iff] at hb
      obtain ⟨rfl, rfl, hlt⟩ := hb
      obtain ⟨h3, h4⟩ := h2
      simp only [lk] at hl
      cases hbb : Nat.beq t' t with
      | true =>
        rw [hbb] at hl
        simp at hl
        obtain ⟨rfl, rfl⟩ := hl
        obtain rfl := Nat.eq_of_beq_eq_true hbb
        exact ⟨rfl, hlt, v1, h1, h3⟩
      | false =>
        rw [hbb] at hl
        exact subE_sound h4 t p v hl
theorem ctEq_cells {σ : List (Nat × Nat)} {gh : List Nat} {ρ : Rho} {c0 c : Ct} (h : ctEq σ gh c0 c) : c0.cells (ρσ σ gh ρ) = c.cells ρ := by
  cases c0 with
  | cs l0 =>
    cases c with
    | cs l => exact eqSVs_den l0 l h
    | rows _ _ _ => exact h.elim
  | rows α R xs =>
    cases c with
    | cs l => exact (h ρ).symm
    | rows β R' ys =>
      have h' : Ct.rows β R' ys = .rows α R xs := h
      rw [h']
      rfl
theorem ctNil_cells {ρ : Rho} {c : Ct} (h : ctNil c) : c.cells ρ = [] := by
  cases c with
  | cs l => simp only [ctNil] at h; subst h; rfl
  | rows _ _ xs => simp only [ctNil] at h; subst h; rfl
theorem subO_sound {σ : List (Nat × Nat)} {gh : List Nat} {n0 : Nat} {l : List Ob} : ∀ {l0 : List Ob}, subO σ gh n0 l0 l → ∀ o0 ∈ l0, (o0.n < n0 ∧ o0.c.lt n0 = true) ∧
    ((gh.any (Nat.beq o0.n) = true ∧ o0.own = true ∧ ctNil o0.c ∧ o0.cap = 0) ∨ (gh.any (Nat.beq o0.n) = false ∧ ∃ o ∈ l, o.n = σK σ o0.n ∧ (o.own = o0.own ∧ o.ty = o0.ty ∧ o.size = o0.size ∧ o.cap = o0.cap) ∧ ctEq σ gh o0.c o.c))
  | [], h, o0, ho => by simp at ho
  | x :: r, h, o0, ho => by
    obtain ⟨h1, h2⟩ := h
    rcases List.mem_cons.1 ho with rfl | ho
    · cases hb : (Nat.blt o0.n n0 && o0.c.lt n0) with
      | false => rw [hb] at h1; exact h1.elim
      | true =>
        rw [hb] at h1
        simp only [Bool.and_eq_true, blt_iff] at hb
        refine ⟨hb, ?_⟩
        cases hg : gh.any (Nat.beq o0.n) with
        | true => rw [hg] at h1; exact .inl ⟨rfl, h1⟩
        | false =>
          rw [hg] at h1
          obtain ⟨o, ho, hn, h3⟩ := obK_sound h1
          exact .inr ⟨rfl, o, ho, hn, h3⟩
    · exact subO_sound h2 o0 ho
theorem apart_symm {ρ : Rho} {o o' : Ob} (h : Apart ρ o o') : Apart ρ o' o := by
  intro h1 h2 h3 h4
  by_cases h5 : ρ o.n = none
  · exact h3 (h4.trans h5)
  · exact h h2 h1 h5 h4.symm
theorem apart_of {ρ : Rho} : ∀ {L : List Ob}, L.Pairwise (Apart ρ) → ∀ o ∈ L, ∀ o' ∈ L, o.n ≠ o'.n → Apart ρ o o'
  | [], _, o, ho, _, _, _ => by simp at ho
  | x :: r, h, o, ho, o', ho', hne => by
    obtain ⟨h1, h2⟩ := List.pairwise_cons.1 h
    rcases List.mem_cons.1 ho with rfl | hq
    · rcases List.mem_cons.1 ho' with rfl | hq'
      · exact absurd rfl hne
      · exact h1 o' hq'
    · rcases List.mem_cons.1 ho' with rfl | hq'
      · exact apart_symm (h1 o hq)
      · exact apart_of h2 o hq o' hq' hne
theorem Sub.of {e0 : Env} {l0 : List Ob} {n0 : Nat} {e : Env} {l : List Ob} {n : Nat} (σ : List (Nat × Nat)) (gh : List Nat) (hap : apartB σ gh l0 = true) (h : subE σ gh n0 e0 e ∧ subO σ gh n0 l0 l) : Sub e0 l0 n0 e l n := by
  intro w N ρ a W hk
  obtain ⟨hE, hO⟩ := h
  refine ⟨ρσ σ gh ρ, ⟨?_, ?_, ?_, ?_⟩, ⟨hk.hp.bel, ?_, ?_, ?_⟩, hk.dfr, hk.size⟩
  · intro t p v hl
    obtain ⟨rfl, h1, v', h2, h3⟩ := subE_sound hE t p v hl
    have := hk.fk.slots t [] v' h2
    rw [this]
    simp [holdsB, eqSV_den v v' h3]
  · intro s b hs
    simp [lkG] at hs
  · intro t p v hl
    obtain ⟨rfl, _⟩ := subE_sound hE t p v hl
    simp
  · intro t p v hl _
    exact (subE_sound hE t p v hl).2.1
  · intro o0 ho0
    obtain ⟨_, h1⟩ := subO_sound hO o0 ho0
    rcases h1 with ⟨g1, g2, g3, g4⟩ | ⟨g0, o, ho, hn, ⟨g1, g2, g3, g4⟩, g5⟩
    · unfold ObOk
      rw [if_pos g2]
      exact .inl ⟨by simp [ρσ, g1], ctNil_cells g3, g4⟩
    · have h2 := hk.hp.obj o ho
      have hc := ctEq_cells (ρ := ρ) g5
      have hr : ρσ σ gh ρ o0.n = ρ o.n := by simp [ρσ, g0, hn]
      unfold ObOk OwnOk RoOk at *
      rw [hr, hc, ← g1, ← g2, ← g3, ← g4]
      exact h2
  · have key : ∀ (l1 : List Ob), (∀ o ∈ l1, o ∈ l0) → apartB σ gh l1 = true → l1.Pairwise (Apart (ρσ σ gh ρ)) := by
      intro l1
      induction l1 with
      | nil => intro _ _; exact .nil
      | cons x r ih =>
        intro hm hb
        simp only [apartB, Bool.and_eq_true, Bool.or_eq_true, List.all_eq_true] at hb
        refine List.pairwise_cons.2 ⟨fun y hy hox hoy hne heq => ?_, ih (fun o ho => hm o (List.mem_cons_of_mem _ ho)) hb.2⟩
        obtain ⟨_, hx⟩ := subO_sound hO x (hm x (List.mem_cons_self ..))
        obtain ⟨_, hy'⟩ := subO_sound hO y (hm y (List.mem_cons_of_mem _ hy))
        rcases hx with ⟨g1, _⟩ | ⟨g0, o, ho, hn, ⟨g1, _⟩, _⟩
        · exact hne (by simp [ρσ, g1])
        · rcases hy' with ⟨k1, _⟩ | ⟨k0, o', ho', hn', ⟨k1, _⟩, _⟩
          · rw [heq] at hne
            exact hne (by simp [ρσ, k1])
          · have hne2 : o.n ≠ o'.n := by
              rw [hn, hn']
              rcases hb.1 with hb | hb
              · rw [g0] at hb; cases hb
              · rcases hb y hy with hb | hb
                · rw [k0] at hb; cases hb
                · intro hh
                  rw [hh] at hb
                  simp at hb
            have hap := apart_of hk.hp.dis o ho o' ho' hne2
            have e1 : ρσ σ gh ρ x.n = ρ o.n := by simp [ρσ, g0, hn]
            have e2 : ρσ σ gh ρ y.n = ρ o'.n := by simp [ρσ, k0, hn']
            rw [e1] at hne heq
            rw [e2] at heq
            exact hap (g1.trans hox) (k1.trans hoy) hne heq
    exact key l0 (fun _ h => h) hap
  · intro o0 ho0
    exact (subO_sound hO o0 ho0).1
end Go.Proofs.Ytofekfpbljihiaa
