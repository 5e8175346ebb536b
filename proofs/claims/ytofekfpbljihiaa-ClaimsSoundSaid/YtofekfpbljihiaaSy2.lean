/- The symbolic machine: what is known of a frame, and the operations that leave the heap as it is. No program in sight. -/
import Derived.Test.YtofekfpbljihiaaSy1
import Derived.IntWalk
namespace Go.Proofs.Ytofekfpbljihiaa
open Go.RowKit

abbrev Pth := List (Nat × Bool)
abbrev Env := List (Nat × Pth × SV)
abbrev Gd := List (Nat × Bool)

def lk : Env → Nat → Option (Pth × SV)
  | [], _ => none
  | (t', p, v) :: r, t => bif Nat.beq t' t then some (p, v) else lk r t
def lkK : Env → Nat → (Pth → SV → Prop) → Prop
  | [], _, _ => False
  | (t', p, v) :: r, t, k => bif Nat.beq t' t then k p v else lkK r t k
theorem lkK_sound {t : Nat} {k : Pth → SV → Prop} : ∀ {env : Env}, lkK env t k → ∃ p v, lk env t = some (p, v) ∧ k p v
  | [], h => h.elim
  | (t', p, v) :: r, h => by
    simp only [lkK, lk] at *
    cases hb : Nat.beq t' t with
    | true => rw [hb] at h; exact ⟨p, v, rfl, h⟩
    | false => rw [hb] at h; exact lkK_sound h
def lkG : Gd → Nat → Option Bool
  | [], _ => none
  | (s, b) :: r, t => bif Nat.beq s t then some b else lkG r t
def subP (p cur : Pth) : Bool := p.all fun x => cur.any fun y => Nat.beq x.1 y.1 && (x.2 == y.2)
def holdsB (G : Gd) (p : Pth) : Bool := p.all fun x => match lkG G x.1 with | some b => b == x.2 | none => false
theorem holds_sub {G : Gd} {p cur : Pth} (h : subP p cur = true) (hc : holdsB G cur = true) : holdsB G p = true := by
  simp only [subP, holdsB, List.all_eq_true, List.any_eq_true, Bool.and_eq_true] at *
  intro x hx
  obtain ⟨y, hy, h1, h2⟩ := h x hx
  have h3 := hc y hy
  have e1 : x.1 = y.1 := Nat.eq_of_beq_eq_true h1
  have e2 : x.2 = y.2 := by simpa using h2
  rw [e1, e2]
  exact h3

/-- What is known of a frame. -/
structure Fk (ρ : Rho) (G : Gd) (env : Env) (nx : Nat) (a : Act) : Prop where
  slots : ∀ t p v, lk env t = some (p, v) → a.tmps[t]? = some (if holdsB G p then den ρ v else undef)
  gok : ∀ s b, lkG G s = some b → ∃ p, lk env s = some (p, .v (.bool b))
  clo : ∀ t p v, lk env t = some (p, v) → ∀ x ∈ p, (lkG G x.1).isSome = true
  lt : ∀ t p v, lk env t = some (p, v) → holdsB G p = true → v.lt nx = true

def evK (env : Env) (cur : Pth) : Operand → (SV → Prop) → Prop
  | .tmp t, k => lkK env t (fun p v => bif subP p cur then k v else False)
  | .const c, k => k (.v c)
  | .global g, k => k (.v (.pointer (some ⟨g, 0, none⟩)))
  | .func f, k => k (.f f [])

theorem Fk.eval {ρ : Rho} {G : Gd} {env : Env} {nx : Nat} {a : Act} (h : Fk ρ G env nx a) {cur : Pth} (hc : holdsB G cur = true) {x : Operand} {k : SV → Prop} (he : evK env cur x k) :
    ∃ v, k v ∧ v.lt nx = true ∧ a.eval x = den ρ v := by
  cases x with
  | tmp t =>
    obtain ⟨p, v, h1, h2⟩ := lkK_sound he
    cases hs : subP p cur with
    | false => rw [hs] at h2; exact h2.elim
    | true =>
      rw [hs] at h2
      refine ⟨v, h2, h.lt t p v h1 (holds_sub hs hc), ?_⟩
      have := h.slots t p v h1
      rw [holds_sub hs hc] at this
      simp [Act.eval, this]
  | const c => exact ⟨_, he, rfl, by simp [Act.eval, den]⟩
  | global g => exact ⟨_, he, rfl, by simp [Act.eval, den]⟩
  | func f => exact ⟨_, he, by simp [SV.lt, ltL], by simp [Act.eval, den, denL]⟩

/-- The operand's value, whatever the frame: for two uses. -/
def Ev (env : Env) (cur : Pth) (x : Operand) (v : SV) : Prop := ∀ ρ G nx a, Fk ρ G env nx a → holdsB G cur = true → a.eval x = den ρ v ∧ v.lt nx = true
theorem evK_sound {env : Env} {cur : Pth} {x : Operand} {k : SV → Prop} (he : evK env cur x k) : ∃ v, k v ∧ Ev env cur x v := by
  cases x with
  | tmp t =>
    obtain ⟨p, v, h1, h2⟩ := lkK_sound he
    cases hs : subP p cur with
    | false => rw [hs] at h2; exact h2.elim
    | true =>
      rw [hs] at h2
      refine ⟨v, h2, fun ρ G nx a h hc => ⟨?_, h.lt t p v h1 (holds_sub hs hc)⟩⟩
      have := h.slots t p v h1
      rw [holds_sub hs hc] at this
      simp [Act.eval, this]
  | const c => exact ⟨_, he, fun _ _ _ _ _ _ => ⟨by simp [Act.eval, den], rfl⟩⟩
  | global g => exact ⟨_, he, fun _ _ _ _ _ _ => ⟨by simp [Act.eval, den], rfl⟩⟩
  | func f => exact ⟨_, he, fun _ _ _ _ _ _ => ⟨by simp [Act.eval, den, denL], by simp [SV.lt, ltL]⟩⟩

/-- A row of the table of types. -/
structure TI where
  d : TypeDesc
  size : Nat
  bytes : Nat
  zero : Value
  eqok : Bool
abbrev Tab := List (Nat × TI)
def TyOk (P : Program) (t : Nat) (i : TI) : Prop := P.underlying t = some i.d ∧ ∃ j, P.info? t = some j ∧ j.size = i.size ∧ j.bytes = i.bytes ∧ j.zero = some i.zero ∧ (i.eqok = true → P.stoodInHeld t = false ∧ P.eqGuardType P.depth t = false ∧ ∀ fs, i.d = .struct fs → ∀ f ∈ fs.toList, f.name ≠ "_")
def TabOk (P : Program) (T : Tab) : Prop := ∀ e ∈ T, TyOk P e.1 e.2
def tyK : Tab → Nat → (TI → Prop) → Prop
  | [], _, _ => False
  | (t', i) :: r, t, k => bif Nat.beq t' t then k i else tyK r t k
theorem tyK_sound {P : Program} {t : Nat} {k : TI → Prop} : ∀ {T : Tab}, TabOk P T → tyK T t k → ∃ i, TyOk P t i ∧ k i
  | [], _, h => h.elim
  | (t', i) :: r, hT, h => by
    simp only [tyK] at h
    cases hb : Nat.beq t' t with
    | true => rw [hb] at h; obtain rfl := Nat.eq_of_beq_eq_true hb; exact ⟨i, hT _ (List.mem_cons_self ..), h⟩
    | false => rw [hb] at h; exact tyK_sound (fun e he => hT e (List.mem_cons_of_mem _ he)) h
theorem TyOk.under {P : Program} {t : Nat} {i : TI} (h : TyOk P t i) (W : World) : (underlying t).run P W = .ok i.d W := by simp [underlying, h.1]
theorem TyOk.sizeOf {P : Program} {t : Nat} {i : TI} (h : TyOk P t i) (W : World) : (Go.sizeOf t).run P W = .ok i.size W := by
  obtain ⟨_, j, h1, h2, _⟩ := h
  simp [Go.sizeOf, typeInfo, h1, h2]
theorem TyOk.zeroV {P : Program} {t : Nat} {i : TI} (h : TyOk P t i) (W : World) : (zeroValue t).run P W = .ok i.zero W := by
  obtain ⟨_, j, h1, _, _, h2, _⟩ := h
  simp [Go.zeroValue, typeInfo, h1, h2]
def aggD : TypeDesc → Bool
  | .struct _ => true
  | .array _ _ => true
  | _ => false
theorem TyOk.isAgg {P : Program} {t : Nat} {i : TI} (h : TyOk P t i) (W : World) : (isAgg t).run P W = .ok (aggD i.d) W := by
  have := h.1
  cases hd : i.d <;> simp [Go.isAgg, underlying, this, hd, aggD]

def obK : List Ob → Nat → (Ob → Prop) → Prop
  | [], _, _ => False
  | ⟨n', own, ty, size, cap, c⟩ :: r, n, k => bif Nat.beq n' n then k ⟨n', own, ty, size, cap, c⟩ else obK r n k
theorem obK_sound {n : Nat} {k : Ob → Prop} : ∀ {L : List Ob}, obK L n k → ∃ o ∈ L, o.n = n ∧ k o
  | [], h => h.elim
  | o :: r, h => by
    simp only [obK] at h
    cases hb : Nat.beq o.n n with
    | true => rw [hb] at h; exact ⟨o, List.mem_cons_self .., Nat.eq_of_beq_eq_true hb, h⟩
    | false =>
      rw [hb] at h
      obtain ⟨o', h1, h2⟩ := obK_sound h
      exact ⟨o', List.mem_cons_of_mem _ h1, h2⟩

universe u
def nthK {α : Type u} : List α → Nat → (α → Prop) → Prop
  | [], _, _ => False
  | x :: _, 0, k => k x
  | _ :: r, n + 1, k => nthK r n k
theorem nthK_sound {α : Type u} {k : α → Prop} : ∀ {l : List α} {n : Nat}, nthK l n k → ∃ x, l[n]? = some x ∧ k x
  | [], _, h => h.elim
  | x :: _, 0, h => ⟨x, rfl, h⟩
  | _ :: r, n + 1, h => by simpa using nthK_sound (l := r) h
def takeK {α : Type u} : List α → Nat → (List α → Prop) → Prop
  | _, 0, k => k []
  | [], _ + 1, _ => False
  | x :: r, n + 1, k => takeK r n (fun l => k (x :: l))
theorem takeK_sound {α : Type u} : ∀ {l : List α} {n : Nat} {k : List α → Prop}, takeK l n k → n ≤ l.length ∧ k (l.take n)
  | _, 0, k, h => by simpa [takeK] using h
  | [], _ + 1, _, h => h.elim
  | x :: r, n + 1, k, h => by
    have := takeK_sound (l := r) (n := n) h
    simpa using this
def cutK {α : Type u} : List α → Nat → Nat → (List α → Prop) → Prop
  | l, 0, n, k => takeK l n k
  | [], _ + 1, _, _ => False
  | _ :: r, m + 1, n, k => cutK r m n k
theorem cutK_sound {α : Type u} : ∀ {l : List α} {m n : Nat} {k : List α → Prop}, cutK l m n k → m + n ≤ l.length ∧ k ((l.drop m).take n)
  | l, 0, n, k, h => by
    have := takeK_sound (l := l) (n := n) (k := k) (by cases l <;> exact h)
    simpa using this
  | [], _ + 1, _, _, h => h.elim
  | _ :: r, m + 1, n, k, h => by
    have := cutK_sound (l := r) (m := m) (n := n) (k := k) h
    simp
    exact ⟨by omega, this.2⟩

/-- A plain cell, its head laid open. -/
def forceK (x : Value) (k : Value → Prop) : Prop :=
  match x with
  | .int kk z => k (.int kk z)
  | .string s => k (.string s)
  | .bool b => k (.bool b)
  | .slice a l c => k (.slice a l c)
  | y => k y
theorem forceK_sound {x : Value} {k : Value → Prop} (h : forceK x k) : k x := by
  unfold forceK at h
  split at h <;> exact h
def rowK {α : Type} (x : α) : List (α → Value) → (List SV → Prop) → Prop
  | [], k => k []
  | f :: r, k => forceK (f x) (fun y => rowK x r (fun l => k (.v y :: l)))
theorem rowK_sound {α : Type} {x : α} : ∀ {cols : List (α → Value)} {k : List SV → Prop}, rowK x cols k → k (cols.map (fun f => .v (f x)))
  | [], k, h => by simpa [rowK] using h
  | f :: r, k, h => by
    have := rowK_sound (forceK_sound h)
    simpa using this

/-- Cell j of an object. -/
theorem ObOk.cell {B : Nat} {ρ : Rho} {o : Ob} {W : World} (h : ObOk B ρ o W) {j : Nat} {u : Value} (hu : (o.c.cells ρ)[j]? = some u) :
    ∃ b off, ρ o.n = some ⟨b, off, none⟩ ∧ W.cell? ⟨b, off + j, none⟩ = some u := by
  have hl : j < (o.c.cells ρ).length := (List.getElem?_eq_some_iff.1 hu).1
  unfold ObOk at h
  split at h
  · rcases h with ⟨_, h, _⟩ | ⟨g, junk, h1, _, _, _, h2⟩
    · rw [h] at hl; simp at hl
    · refine ⟨g, 0, h1, ?_⟩
      rw [Nat.zero_add, h2.cell j]
      simp [List.getElem?_append_left hl, hu]
  · obtain ⟨b, off, h1, _, h2⟩ := h (by omega)
    exact ⟨b, off, h1, h2 j u hu⟩

theorem add_none (b off j : Nat) : (⟨b, off, none⟩ : Addr).add j = ⟨b, off + j, none⟩ := by
  unfold Addr.add
  split <;> simp_all
theorem flat_at {α : Type} (cols : List (α → Value)) (d : α) : ∀ (xs : List α) (i j : Nat) (f : α → Value), i < xs.length → cols[j]? = some f →
    (xs.flatMap (fun x => cols.map (fun g => g x)))[i * cols.length + j]? = some (f (xs.getD i d))
  | [], i, j, f, h, _ => by simp at h
  | x :: r, 0, j, f, _, hf => by
    obtain ⟨hj, rfl⟩ := List.getElem?_eq_some_iff.1 hf
    simp [List.getElem?_append_left, hj]
  | x :: r, i + 1, j, f, h, hf => by
    have ih := flat_at cols d r i j f (by simpa using h) hf
    have e : (i + 1) * cols.length + j = cols.length + (i * cols.length + j) := by rw [Nat.succ_mul]; omega
    rw [List.flatMap_cons, e, List.getElem?_append_right (by simp)]
    simpa using ih

theorem ObOk.load1 {B : Nat} {ρ : Rho} {o : Ob} {W : World} (h : ObOk B ρ o W) {j : Nat} {u : Value} (hu : (o.c.cells ρ)[j]? = some u) :
    W.cell? (((ρ o.n).getD default).add j) = some u := by
  obtain ⟨b, off, h1, h2⟩ := h.cell hu
  simp [h1, add_none, h2]
theorem ObOk.loadN {P : Program} {B : Nat} {ρ : Rho} {o : Ob} {W : World} (h : ObOk B ρ o W) {j n : Nat} (hn : 0 < n) (hu : j + n ≤ (o.c.cells ρ).length) :
    (loadCells (((ρ o.n).getD default).add j) n).run P W = .ok (((o.c.cells ρ).drop j).take n).toArray W := by
  obtain ⟨b, off, h1, _⟩ := h.cell (j := j) (List.getElem?_eq_getElem (by omega))
  simp only [h1, Option.getD_some, add_none]
  have hl : (((o.c.cells ρ).drop j).take n).length = n := by simp; omega
  have := run_loadCells_list (P := P) W ⟨b, off + j, none⟩ (((o.c.cells ρ).drop j).take n) (by
    intro i v hv
    rw [add_none]
    have : (o.c.cells ρ)[j + i]? = some v := by
      rw [List.getElem?_take] at hv
      split at hv
      · simpa using hv
      · cases hv
    obtain ⟨b', off', h1', h2'⟩ := h.cell this
    rw [h1] at h1'
    injection h1' with h1'
    injection h1' with e1 e2
    subst e1; subst e2
    rw [Nat.add_assoc]
    exact h2')
  rw [hl] at this
  exact this
end Go.Proofs.Ytofekfpbljihiaa
