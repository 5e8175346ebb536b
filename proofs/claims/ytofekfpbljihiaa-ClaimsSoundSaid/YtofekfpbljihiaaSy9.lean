/- The symbolic machine: the operations that change the heap. No program in sight. -/
import Derived.Test.YtofekfpbljihiaaSy8
namespace Go.Proofs.Ytofekfpbljihiaa
open Go.RowKit
set_option linter.unusedVariables false
set_option linter.unusedSimpArgs false
set_option linter.unnecessarySimpa false

/-- What is known of a frame and of the heap. -/
structure Kn (w : World) (N : Nat) (ρ : Rho) (G : Gd) (env : Env) (L : List Ob) (nx : Nat) (a : Act) (W : World) : Prop where
  fk : Fk ρ G env nx a
  hp : Hp w ρ L nx W
  dfr : a.defers = []
  size : a.tmps.size = N

theorem Fk.agree {ρ ρ' : Rho} {G : Gd} {env : Env} {nx ny : Nat} {a : Act} (h : Fk ρ G env nx a) (ha : Agree nx ρ ρ') (hn : nx ≤ ny) : Fk ρ' G env ny a :=
  ⟨fun t p v hv => by
    have h1 := h.slots t p v hv
    cases hh : holdsB G p with
    | true => rw [hh] at h1; simpa [den_agree ha v (h.lt t p v hv hh)] using h1
    | false => rw [hh] at h1; simpa using h1, h.gok, h.clo, fun t p v hv hh => lt_mono hn v (h.lt t p v hv hh)⟩
theorem Fk.put {ρ : Rho} {G : Gd} {env : Env} {nx : Nat} {a : Act} (h : Fk ρ G env nx a) {d : Nat} {p : Pth} {v : SV} (hd : d < a.tmps.size) (hg : lkG G d = none) (hv : holdsB G p = true → v.lt nx = true) (hp : ∀ x ∈ p, (lkG G x.1).isSome = true) :
    Fk ρ G ((d, p, v) :: env) nx (a.put (some d) (if holdsB G p then den ρ v else undef)) := by
  have hlk : ∀ t, lk ((d, p, v) :: env) t = if d = t then some (p, v) else lk env t := by
    intro t
    simp only [lk]
    cases hb : Nat.beq d t with
    | true => simp [Nat.eq_of_beq_eq_true hb]
    | false => simp [Nat.ne_of_beq_eq_false hb]
  refine ⟨?_, ?_, ?_, ?_⟩
  · intro t p' v' ht
    rw [hlk] at ht
    simp only [Act.put]
    split at ht
    · rename_i hdt
      subst hdt
      simp at ht
      obtain ⟨rfl, rfl⟩ := ht
      simp [hd]
    · rename_i hdt
      rw [Array.getElem?_setIfInBounds_ne hdt]
      exact h.slots t p' v' ht
  · intro s b hs
    obtain ⟨p', hp'⟩ := h.gok s b hs
    refine ⟨p', ?_⟩
    rw [hlk, if_neg (by rintro rfl; rw [hg] at hs; cases hs)]
    exact hp'
  · intro t p' v' ht x hx
    rw [hlk] at ht
    split at ht
    · simp at ht
      obtain ⟨rfl, rfl⟩ := ht
      exact hp x hx
    · exact h.clo t p' v' ht x hx
  · intro t p' v' ht hb
    rw [hlk] at ht
    split at ht
    · simp at ht
      obtain ⟨rfl, rfl⟩ := ht
      exact hv hb
    · exact h.lt t p' v' ht hb
theorem Fk.addG {ρ : Rho} {G : Gd} {env : Env} {nx : Nat} {a : Act} (h : Fk ρ G env nx a) {s : Nat} {ps : Pth} {b : Bool} (hg : lkG G s = none) (hs : lk env s = some (ps, .v (.bool b))) : Fk ρ ((s, b) :: G) env nx a := by
  have hlk : ∀ t, lkG ((s, b) :: G) t = if s = t then some b else lkG G t := by
    intro t
    simp only [lkG]
    cases hb : Nat.beq s t with
    | true => simp [Nat.eq_of_beq_eq_true hb]
    | false => simp [Nat.ne_of_beq_eq_false hb]
  have hh : ∀ t p v, lk env t = some (p, v) → holdsB ((s, b) :: G) p = holdsB G p := by
    intro t p v ht
    have hc := h.clo t p v ht
    rw [Bool.eq_iff_iff]
    simp only [holdsB, List.all_eq_true]
    have : ∀ x ∈ p, lkG ((s, b) :: G) x.1 = lkG G x.1 := by
      intro x hx
      rw [hlk, if_neg]
      rintro rfl
      have := hc x hx
      rw [hg] at this
      cases this
    constructor
    · intro h1 x hx
      rw [← this x hx]
      exact h1 x hx
    · intro h1 x hx
      rw [this x hx]
      exact h1 x hx
  refine ⟨?_, ?_, ?_, fun t p v ht hb => h.lt t p v ht (by rw [← hh t p v ht]; exact hb)⟩
  · intro t p v ht
    rw [hh t p v ht]
    exact h.slots t p v ht
  · intro s' b' hs'
    rw [hlk] at hs'
    split at hs'
    · rename_i e
      subst e
      simp at hs'
      subst hs'
      exact ⟨ps, hs⟩
    · exact h.gok s' b' hs'
  · intro t p v ht x hx
    rw [hlk]
    split
    · rfl
    · exact h.clo t p v ht x hx

/-- What comes back: a value, a heap; if kp, with every block as it was. -/
def Res (w : World) (ρ : Rho) (nx : Nat) (kp : Bool) (W : World) (k : SV → List Ob → Nat → Prop) (v : Value) (W' : World) : Prop :=
  (kp = true → Below W.heap.size W W') ∧ ∃ ρ' sv L' nx', v = den ρ' sv ∧ Agree nx ρ ρ' ∧ nx ≤ nx' ∧ sv.lt nx' = true ∧ Hp w ρ' L' nx' W' ∧ k sv L' nx'
def ResE (w : World) (ρ : Rho) (nx : Nat) (kp : Bool) (W : World) (k : SV → List Ob → Nat → Prop) (e : Ending) (W' : World) : Prop := ∃ v, e = .returned v ∧ Res w ρ nx kp W k v W'

/-- A call of a Go function stands next. -/
structure EvCall (kp : Bool) (P : Program) (w : World) (f : FuncId) (args : List SV) (L : List Ob) (nx : Nat) (k : SV → List Ob → Nat → Prop) : Prop where
  ent : ∀ args W, (callFunc f args).run P W = .ok (.enter f args) W
  go : ∀ ρ W, Hp w ρ L nx W → ltL nx args = true → Calls P f (denL ρ args).toArray W (ResE w ρ nx kp W k)
/-- A builtin that may change the heap stands next. -/
structure EvBi (kp : Bool) (P : Program) (w : World) (b : Builtin) (args : List SV) (ts : List TypeId) (L : List Ob) (nx : Nat) (k : SV → List Ob → Nat → Prop) : Prop where
  go : ∀ ρ W, Hp w ρ L nx W → ltL nx args = true → ∀ ty c, ∃ v W', (builtin b ts.toArray ty c (denL ρ args).toArray).run P W = .ok (.value v) W' ∧ Res w ρ nx kp W k v W'
/-- A make stands next. -/
structure EvMake (kp : Bool) (P : Program) (w : World) (t : TypeId) (len cap : SV) (L : List Ob) (nx : Nat) (k : SV → List Ob → Nat → Prop) : Prop where
  go : ∀ ρ W, Hp w ρ L nx W → ∃ v W', (Instr.makeSlice t (den ρ len) (den ρ cap)).run P W = .ok v W' ∧ Res w ρ nx kp W k v W'
/-- An operation that the machine does not know stands next. -/
structure EvOp (kp : Bool) (P : Program) (w : World) (env : Env) (o : Oper) (L : List Ob) (nx : Nat) (k : SV → List Ob → Nat → Prop) : Prop where
  go : ∀ ρ G a W, Fk ρ G env nx a → Hp w ρ L nx W → ∃ v W', (execOp a.eval o).run P W = .ok (.value v) W' ∧ Res w ρ nx kp W k v W'

def appK : List SV → List SV → (List SV → Prop) → Prop
  | [], r, k => k r
  | x :: l, r, k => appK l r (fun m => k (x :: m))
theorem appK_sound : ∀ {l r : List SV} {k : List SV → Prop}, appK l r k → k (l ++ r)
  | [], r, k, h => h
  | x :: l, r, k, h => by
    have := appK_sound (l := l) (r := r) h
    simpa using this
def scal (v : SV) : Bool :=
  match v with
  | .v (.int _ _) => true
  | .v (.string _) => true
  | .v (.bool _) => true
  | .v (.slice _ _ _) => true
  | .v (.pointer _) => true
  | .v .nilFunc => true
  | .p _ _ => true
  | .e _ _ _ _ => true
  | .s _ _ _ _ => true
  | .so _ _ _ _ _ => true
  | .f _ _ => true
  | _ => false
theorem scal_one {v : SV} (h : scal v = true) (ρ : Rho) : (den ρ v).oneCell' = true := by
  unfold scal at h
  split at h
  all_goals first | (simp [den, Value.oneCell']; done) | cases h
def updK : List Ob → Nat → Ct → (List Ob → Prop) → Prop
  | [], _, _, _ => False
  | ⟨n', own, ty, size, cap, c'⟩ :: r, n, c, k => bif Nat.beq n' n then k (⟨n', own, ty, size, cap, c⟩ :: r) else updK r n c (fun l => k (⟨n', own, ty, size, cap, c'⟩ :: l))
def plainK : List SV → (List Value → Prop) → Prop
  | [], k => k []
  | .v x :: r, k => plainK r (fun l => k (x :: l))
  | _ :: _, _ => False
theorem plainK_sound : ∀ {l : List SV} {k : List Value → Prop}, plainK l k → ∃ vs, l = vs.map SV.v ∧ k vs
  | [], k, h => ⟨[], rfl, h⟩
  | x :: r, k, h => by
    unfold plainK at h
    split at h
    · rename_i heq
      exact absurd heq (by simp)
    · rename_i y r' heq
      simp only [List.cons.injEq] at heq
      obtain ⟨rfl, rfl⟩ := heq
      obtain ⟨vs, rfl, h2⟩ := plainK_sound h
      exact ⟨y :: vs, rfl, h2⟩
    · exact h.elim
universe u
def ofK {α : Type u} (x : Option α) (k : α → Prop) : Prop :=
  match x with
  | some y => k y
  | none => False
theorem ofK_sound {α : Type u} {x : Option α} {k : α → Prop} (h : ofK x k) : ∃ y, x = some y ∧ k y := by
  cases x with
  | none => exact h.elim
  | some y => exact ⟨y, rfl, h⟩
/-- What an object holds once cells are stored into it. -/
def stC (c : Ct) (addr : SV) (cells : List SV) (k : Option Prop → Ct → Prop) : Prop :=
  match c, addr with
  | .cs l, .p _ off => spliceK l off cells (fun l' => k none (.cs l'))
  | .cs l, .e _ size i j => spliceK l (i * size + j) cells (fun l' => k none (.cs l'))
  | .rows α R xs, .e _ size i j => bif Nat.beq R.cols.length size then rowK (xs.getD i R.d) R.cols (fun row => spliceK row j cells (fun row' => plainK row' (fun vs => ofK (R.of vs) (fun x' => k (some (i < xs.length)) (.rows α R (xs.set i x')))))) else False
  | _, _ => False
def storeK (L : List Ob) (addr : SV) (cells : List SV) (k : Option Prop → List Ob → Prop) : Prop :=
  match nameOf addr with
  | some n => obK L n (fun o => bif o.own && (cells.all scal && Nat.blt 0 cells.length) then stC o.c addr cells (fun φ c' => updK L n c' (fun L' => k φ L')) else False)
  | none => False
end Go.Proofs.Ytofekfpbljihiaa
