
/- The symbolic machine: values, frames, quiet operations. No program in sight. -/
import Derived.Test.YtebfhljamoapjaaDoorMem
import Derived.Lib.Hide
import Derived.IntWalk
namespace Go.Proofs.YtebfhljamoapjaaDoor
open Go.RowKit

/-- Words on bools, for simp. -/
theorem bB : (∀ a b : Bool, ((a || b) = false ↔ (a = false ∧ b = false))) ∧ (∀ a b : Bool, ((a || b) = true ↔ (a = true ∨ b = true))) ∧ (∀ a b : Bool, ((a && b) = true ↔ (a = true ∧ b = true))) ∧ (∀ a b : Bool, ((a && b) = false ↔ (a = false ∨ b = false))) ∧
    (∀ b : Bool, ((¬ b = true) ↔ b = false)) ∧ (∀ b : Bool, ((¬ b = false) ↔ b = true)) ∧ (∀ b : Bool, ((!b) = true ↔ b = false)) ∧ (∀ b : Bool, ((!b) = false ↔ b = true)) ∧ (∀ (p : Prop) [Decidable p], (decide p = false ↔ ¬ p)) ∧ (∀ (p : Prop) [Decidable p], (decide p = true ↔ p)) := by
  refine ⟨?_, ?_, ?_, ?_, ?_, ?_, ?_, ?_, ?_, ?_⟩
  · decide
  · decide
  · decide
  · decide
  · decide
  · decide
  · decide
  · decide
  · intros; simp
  · intros; simp
theorem leT {a b : Nat} (h : Nat.ble a b = true) : a ≤ b := Nat.le_of_ble_eq_true h
abbrev Rho := Nat → Option Addr
/-- A value of a walk: plain; a pointer to a cell of object n; a pointer to cell j of element i of object n; a slice from the object's head; a slice from element eo on; an aggregate; a tuple; a function with captured values; a method bound to its first arguments. -/
inductive SV where
  | v (x : Value)
  | p (n off : Nat)
  | e (n size i j : Nat)
  | s (n size len cap : Nat)
  | so (n size eo len cap : Nat)
  | a (l : List SV)
  | t (l : List SV)
  | f (fn : FuncId) (l : List SV)
  | m (fn : FuncId) (l : List SV)

mutual
def den (ρ : Rho) : SV → Value
  | .v x => x
  | .p n off => .pointer (some (((ρ n).getD default).add off))
  | .e n size i j => .pointer (some (((ρ n).getD default).add (i * size + j)))
  | .s n _ len cap => .slice (ρ n) len cap
  | .so n size eo len cap => .slice ((ρ n).map (·.add (eo * size))) len cap
  | .a l => .agg (denL ρ l).toArray
  | .t l => .tuple (denL ρ l).toArray
  | .f fn l => .func (.func fn) #[] (denL ρ l).toArray
  | .m fn l => .func (.func fn) (denL ρ l).toArray #[]
def denL (ρ : Rho) : List SV → List Value
  | [] => []
  | x :: r => den ρ x :: denL ρ r
end
theorem denL_map (ρ : Rho) (l : List SV) : denL ρ l = l.map (den ρ) := by
  induction l with
  | nil => simp [denL]
  | cons x r ih => simp [denL, ih]

mutual
def SV.lt (nx : Nat) : SV → Bool
  | .v _ => true
  | .p n _ => Nat.blt n nx
  | .e n _ _ _ => Nat.blt n nx
  | .s n _ _ _ => Nat.blt n nx
  | .so n _ _ _ _ => Nat.blt n nx
  | .a l => ltL nx l
  | .t l => ltL nx l
  | .f _ l => ltL nx l
  | .m _ l => ltL nx l
def ltL (nx : Nat) : List SV → Bool
  | [] => true
  | x :: r => x.lt nx && ltL nx r
end
theorem ltL_iff (nx : Nat) (l : List SV) : ltL nx l = true ↔ ∀ x ∈ l, x.lt nx = true := by
  induction l with
  | nil => simp [ltL]
  | cons x r ih => simp [ltL, ih]

def upd (ρ : Rho) (n : Nat) (A : Option Addr) : Rho := fun m => if m = n then A else ρ m
theorem blt_iff {a b : Nat} : Nat.blt a b = true ↔ a < b := by
  simp [Nat.blt]; omega
theorem upd_lt {ρ : Rho} {n m : Nat} {A : Option Addr} (h : m < n) : upd ρ n A m = ρ m := by
  simp [upd]; omega
theorem upd_same (ρ : Rho) (n : Nat) (A : Option Addr) : upd ρ n A n = A := by simp [upd]

/-- ρ and ρ' name the same things below nx. -/
def Agree (nx : Nat) (ρ ρ' : Rho) : Prop := ∀ m, m < nx → ρ' m = ρ m
theorem agree_upd (ρ : Rho) (n : Nat) (A : Option Addr) : Agree n ρ (upd ρ n A) := fun _ h => upd_lt h

mutual
theorem den_agree {nx : Nat} {ρ ρ' : Rho} (h : Agree nx ρ ρ') : ∀ (x : SV), x.lt nx = true → den ρ' x = den ρ x
  | .v _, _ => by simp [den]
  | .p n _, hx => by simp [den, h n (blt_iff.1 (by simpa [SV.lt] using hx))]
  | .e n _ _ _, hx => by simp [den, h n (blt_iff.1 (by simpa [SV.lt] using hx))]
  | .s n _ _ _, hx => by simp [den, h n (blt_iff.1 (by simpa [SV.lt] using hx))]
  | .so n _ _ _ _, hx => by simp [den, h n (blt_iff.1 (by simpa [SV.lt] using hx))]
  | .a l, hx => by simp [den, denL_agree h l (by simpa [SV.lt] using hx)]
  | .t l, hx => by simp [den, denL_agree h l (by simpa [SV.lt] using hx)]
  | .f _ l, hx => by simp [den, denL_agree h l (by simpa [SV.lt] using hx)]
  | .m _ l, hx => by simp [den, denL_agree h l (by simpa [SV.lt] using hx)]
theorem denL_agree {nx : Nat} {ρ ρ' : Rho} (h : Agree nx ρ ρ') : ∀ (l : List SV), ltL nx l = true → denL ρ' l = denL ρ l
  | [], _ => by simp [denL]
  | x :: r, hx => by
    simp only [ltL, Bool.and_eq_true] at hx
    simp [denL, den_agree h x hx.1, denL_agree h r hx.2]
end
mutual
theorem lt_mono {nx ny : Nat} (h : nx ≤ ny) : ∀ (x : SV), x.lt nx = true → x.lt ny = true
  | .v _, _ => by simp [SV.lt]
  | .p n _, hx => by simp only [SV.lt, blt_iff] at *; omega
  | .e n _ _ _, hx => by simp only [SV.lt, blt_iff] at *; omega
  | .s n _ _ _, hx => by simp only [SV.lt, blt_iff] at *; omega
  | .so n _ _ _ _, hx => by simp only [SV.lt, blt_iff] at *; omega
  | .a l, hx => by simp only [SV.lt] at *; exact ltL_mono h l hx
  | .t l, hx => by simp only [SV.lt] at *; exact ltL_mono h l hx
  | .f _ l, hx => by simp only [SV.lt] at *; exact ltL_mono h l hx
  | .m _ l, hx => by simp only [SV.lt] at *; exact ltL_mono h l hx
theorem ltL_mono {nx ny : Nat} (h : nx ≤ ny) : ∀ (l : List SV), ltL nx l = true → ltL ny l = true
  | [], _ => by simp [ltL]
  | x :: r, hx => by
    simp only [ltL, Bool.and_eq_true] at *
    exact ⟨lt_mono h x hx.1, ltL_mono h r hx.2⟩
end

/-- How an element lies in memory: its cells, a default, and the element out of its cells. -/
structure RowS (α : Type) where
  cols : List (α → Value)
  d : α
  of : List Value → Option α
  law : ∀ cs x, of cs = some x → cols.map (fun f => f x) = cs
  one : ∀ x, ∀ f ∈ cols, (f x).oneCell' = true
/-- What an object holds: cells one by one, or rows of plain cells. -/
inductive Ct : Type 1 where
  | cs (l : List SV)
  | rows (α : Type) (R : RowS α) (xs : List α)
def Ct.cells (ρ : Rho) : Ct → List Value
  | .cs l => denL ρ l
  | .rows _ R xs => xs.flatMap (fun x => R.cols.map (fun f => f x))
def Ct.lt (nx : Nat) : Ct → Bool
  | .cs l => ltL nx l
  | .rows _ _ _ => true
theorem Ct.cells_agree {nx : Nat} {ρ ρ' : Rho} (h : Agree nx ρ ρ') (c : Ct) (hc : c.lt nx = true) : c.cells ρ' = c.cells ρ := by
  cases c with
  | cs l => exact denL_agree h l hc
  | rows _ _ _ => rfl

/-- An object of a walk: its name; whether the call owns it; its element's type and number of cells; its capacity; what it holds. -/
structure Ob : Type 1 where
  n : Nat
  own : Bool
  ty : TypeId
  size : Nat
  cap : Nat
  c : Ct

/-- An owned object in memory. -/
def OwnOk (B : Nat) (ρ : Rho) (o : Ob) (W : World) : Prop :=
  (ρ o.n = none ∧ o.c.cells ρ = [] ∧ o.cap = 0) ∨
  ∃ g junk, ρ o.n = some ⟨g, 0, none⟩ ∧ B ≤ g ∧ (o.c.cells ρ).length + junk.length = o.cap * o.size ∧ o.cap ≤ maxLen ∧ Blk W g o.ty (o.c.cells ρ ++ junk).toArray
/-- A block with a mark is no owned block. -/
def Mk (W : World) (b : Nat) : Prop := ∃ cs t m, W.heap[b]? = some (.cells cs t m) ∧ m ≠ (0, 0)
theorem Mk.lt {W : World} {b : Nat} (h : Mk W b) : b < W.heap.size := by
  obtain ⟨cs, t, m, h, _⟩ := h
  exact (Array.getElem?_eq_some_iff.1 h).1
theorem Mk.kept {W W' : World} {b : Nat} (h : Mk W b) (e : W'.heap[b]? = W.heap[b]?) : Mk W' b := by
  obtain ⟨cs, t, m, h, hm⟩ := h
  exact ⟨cs, t, m, e.trans h, hm⟩
theorem Mk.ne {W : World} {b g : Nat} {t : TypeId} {cs : Array Value} (h : Mk W b) (hg : Blk W g t cs) : b ≠ g := by
  obtain ⟨cs', t', m, h, hm⟩ := h
  intro e
  subst e
  rw [show W.heap[b]? = _ from hg] at h
  simp at h
  exact hm h.2.2.symm
/-- An object that came in, or that nobody writes. -/
def RoOk (B : Nat) (ρ : Rho) (o : Ob) (W : World) : Prop :=
  0 < (o.c.cells ρ).length → ∃ b off, ρ o.n = some ⟨b, off, none⟩ ∧ (b < B ∨ Mk W b) ∧ ∀ j u, (o.c.cells ρ)[j]? = some u → W.cell? ⟨b, off + j, none⟩ = some u
def ObOk (B : Nat) (ρ : Rho) (o : Ob) (W : World) : Prop := if o.own then OwnOk B ρ o W else RoOk B ρ o W

def Apart (ρ : Rho) (o o' : Ob) : Prop := o.own = true → o'.own = true → ρ o.n ≠ none → ρ o.n ≠ ρ o'.n

/-- The world that a walk began in; the names whose addresses are fixed; the calls that are put off. -/
structure Ref extends World where
  n0 : Nat
  ρ0 : Rho
  dfr : List Deferred
/-- Nothing fixed, nothing put off. -/
abbrev refOf (w : World) : Ref := ⟨w, 0, fun _ => none, []⟩

/-- What is known of the heap. -/
structure Hp (w : Ref) (ρ : Rho) (L : List Ob) (nx : Nat) (W : World) : Prop where
  bel : Below w.heap.size w.toWorld W
  obj : ∀ o ∈ L, ObOk w.heap.size ρ o W
  dis : L.Pairwise (Apart ρ)
  lt : ∀ o ∈ L, o.n < nx ∧ o.c.lt nx = true
  pin : w.n0 ≤ nx ∧ ∀ n, n < w.n0 → ρ n = w.ρ0 n

theorem OwnOk.blk_lt {B : Nat} {ρ : Rho} {o : Ob} {W : World} (h : OwnOk B ρ o W) {A : Addr} (hA : ρ o.n = some A) : A.block < W.heap.size := by
  rcases h with ⟨h, _⟩ | ⟨g, junk, h, _, _, _, hb⟩
  · rw [h] at hA; cases hA
  · rw [h] at hA; cases hA; exact hb.lt

theorem ObOk.below {B : Nat} {ρ : Rho} {o : Ob} {W W' : World} (h : ObOk B ρ o W) (hB : B ≤ W.heap.size) (hb : Below W.heap.size W W') : ObOk B ρ o W' := by
  unfold ObOk at *
  split
  · rename_i ho
    rw [if_pos ho] at h
    rcases h with h | ⟨g, junk, h1, h2, h3, h4, h5⟩
    · exact .inl h
    · exact .inr ⟨g, junk, h1, h2, h3, h4, h5.below hb h5.lt⟩
  · rename_i ho
    rw [if_neg ho] at h
    intro hl
    obtain ⟨b, off, h1, h2, h3⟩ := h hl
    have hlt : b < W.heap.size := by
      rcases h2 with h2 | h2
      · omega
      · exact h2.lt
    exact ⟨b, off, h1, h2.imp id (fun h => h.kept (hb.block b hlt)), fun j u hu => (hb.cell (p := ⟨b, off + j, none⟩) hlt).trans (h3 j u hu)⟩

theorem Hp.step {w : Ref} {ρ : Rho} {L : List Ob} {nx : Nat} {W W' : World} (h : Hp w ρ L nx W) (hb : Below W.heap.size W W') : Hp w ρ L nx W' :=
  ⟨h.bel.trans (hb.mono h.bel.size), fun o ho => (h.obj o ho).below h.bel.size hb, h.dis, h.lt, h.pin⟩
theorem Hp.drewN {w : Ref} {ρ : Rho} {L : List Ob} {nx : Nat} {W : World} (h : Hp w ρ L nx W) (n : Nat) : Hp w ρ L nx (W.drewN n) :=
  h.step ⟨rfl, rfl, rfl, Nat.le_refl _, fun _ _ => rfl⟩

theorem OwnOk.agree {nx B : Nat} {ρ ρ' : Rho} (ha : Agree nx ρ ρ') {o : Ob} {W : World} (hn : o.n < nx) (hc : o.c.lt nx = true) (h : OwnOk B ρ o W) : OwnOk B ρ' o W := by
  unfold OwnOk at *
  rw [ha o.n hn, o.c.cells_agree ha hc]
  exact h
theorem ObOk.agree {nx B : Nat} {ρ ρ' : Rho} (ha : Agree nx ρ ρ') {o : Ob} {W : World} (hn : o.n < nx) (hc : o.c.lt nx = true) (h : ObOk B ρ o W) : ObOk B ρ' o W := by
  unfold ObOk at *
  split
  · rename_i ho
    rw [if_pos ho] at h
    exact h.agree ha hn hc
  · rename_i ho
    rw [if_neg ho] at h
    unfold RoOk at *
    rw [ha o.n hn, o.c.cells_agree ha hc]
    exact h
theorem Hp.agree {w : Ref} {ρ ρ' : Rho} {L : List Ob} {nx : Nat} {W : World} (ha : Agree nx ρ ρ') (h : Hp w ρ L nx W) : Hp w ρ' L nx W :=
  ⟨h.bel, fun o ho => (h.obj o ho).agree ha (h.lt o ho).1 (h.lt o ho).2,
    h.dis.imp_of_mem (fun {o o'} ho ho' hh => by
      unfold Apart at *
      rw [ha o.n (h.lt o ho).1, ha o'.n (h.lt o' ho').1]
      exact hh), h.lt, h.pin.1, fun n hn => (ha n (Nat.lt_of_lt_of_le hn h.pin.1)).trans (h.pin.2 n hn)⟩

/-- A new owned object. -/
theorem Hp.new {w : Ref} {ρ : Rho} {L : List Ob} {nx : Nat} {W W' : World} (h : Hp w ρ L nx W) (hb : Below W.heap.size W W') (o : Ob) (A : Option Addr) (hn : o.n = nx) (ho : o.own = true) (hc : o.c.lt (nx + 1) = true)
    (hok : OwnOk W.heap.size (upd ρ nx A) o W') : Hp w (upd ρ nx A) (o :: L) (nx + 1) W' := by
  have h1 := (h.step hb).agree (agree_upd ρ nx A)
  have hB : w.heap.size ≤ W.heap.size := h.bel.size
  refine ⟨h1.bel, ?_, ?_, ?_, Nat.le_succ_of_le h1.pin.1, h1.pin.2⟩
  · intro o' ho'
    rcases List.mem_cons.1 ho' with rfl | ho'
    · unfold ObOk
      rw [if_pos ho]
      rcases hok with hok | ⟨g, junk, e1, e2, e3⟩
      · exact .inl hok
      · exact .inr ⟨g, junk, e1, by omega, e3⟩
    · exact h1.obj o' ho'
  · refine List.pairwise_cons.2 ⟨fun o' ho' _ hw' hne => ?_, h1.dis⟩
    intro he
    rcases hok with ⟨hok, _⟩ | ⟨g, junk, e1, e2, e3⟩
    · exact hne hok
    · have h2 := h.obj o' ho'
      unfold ObOk at h2
      rw [if_pos hw'] at h2
      have h3 := (h.lt o' ho').1
      have h4 : ρ o'.n = some ⟨g, 0, none⟩ := by rw [← upd_lt (ρ := ρ) (A := A) h3, ← he, e1]
      have := h2.blk_lt h4
      simp at this
      omega
  · intro o' ho'
    rcases List.mem_cons.1 ho' with rfl | ho'
    · exact ⟨by omega, hc⟩
    · obtain ⟨a1, a2⟩ := h.lt o' ho'
      refine ⟨by omega, ?_⟩
      cases h5 : o'.c with
      | cs l => rw [h5] at a2; exact ltL_mono (Nat.le_succ _) l a2
      | rows _ _ _ => rfl
end Go.Proofs.YtebfhljamoapjaaDoor
namespace Go.Proofs.YtebfhljamoapjaaDoor
open Go.RowKit

abbrev Pth := List (Nat × Bool)
abbrev Env := List (Nat × Pth × SV)
abbrev Gd := List (Nat × Bool)

def lk : Env → Nat → Option (Pth × SV)
  | [], _ => none
  | (t', p, v) :: r, t => bif Nat.beq t' t then some (p, v) else lk r t
def lkK : Env → Nat → (Pth → SV → Prop) → Prop
  | [], _, _ => False
  | (t', p, v) :: r, t, k => bif Nat.beq t' t then k p v else lkK r t k
theorem lkK_sound {t : Nat} {k : Pth → SV → Prop} : ∀ {env : Env}, lkK env t k → ∃ p v, lk env t = some (p, v) ∧ k p v
  | [], h => h.elim
  | (t', p, v) :: r, h => by
    simp only [lkK, lk] at *
    cases hb : Nat.beq t' t with
    | true => rw [hb] at h; exact ⟨p, v, rfl, h⟩
    | false => rw [hb] at h; exact lkK_sound h
def lkG : Gd → Nat → Option Bool
  | [], _ => none
  | (s, b) :: r, t => bif Nat.beq s t then some b else lkG r t
def subP (p cur : Pth) : Bool := p.all fun x => cur.any fun y => Nat.beq x.1 y.1 && (x.2 == y.2)
def holdsB (G : Gd) (p : Pth) : Bool := p.all fun x => match lkG G x.1 with | some b => b == x.2 | none => false
theorem holds_sub {G : Gd} {p cur : Pth} (h : subP p cur = true) (hc : holdsB G cur = true) : holdsB G p = true := by
  simp only [subP, holdsB, List.all_eq_true, List.any_eq_true, Bool.and_eq_true] at *
  intro x hx
  obtain ⟨y, hy, h1, h2⟩ := h x hx
  have h3 := hc y hy
  have e1 : x.1 = y.1 := Nat.eq_of_beq_eq_true h1
  have e2 : x.2 = y.2 := by simpa using h2
  rw [e1, e2]
  exact h3

/-- What is known of a frame. -/
structure Fk (ρ : Rho) (G : Gd) (env : Env) (nx : Nat) (a : Act) : Prop where
  slots : ∀ t p v, lk env t = some (p, v) → a.tmps[t]? = some (if holdsB G p then den ρ v else undef)
  gok : ∀ s b, lkG G s = some b → ∃ p, lk env s = some (p, .v (.bool b))
  clo : ∀ t p v, lk env t = some (p, v) → ∀ x ∈ p, (lkG G x.1).isSome = true
  lt : ∀ t p v, lk env t = some (p, v) → holdsB G p = true → v.lt nx = true

def evK (env : Env) (cur : Pth) : Operand → (SV → Prop) → Prop
  | .tmp t, k => lkK env t (fun p v => bif subP p cur then k v else False)
  | .const c, k => k (.v c)
  | .global g, k => k (.v (.pointer (some ⟨g, 0, none⟩)))
  | .func f, k => k (.f f [])

theorem Fk.eval {ρ : Rho} {G : Gd} {env : Env} {nx : Nat} {a : Act} (h : Fk ρ G env nx a) {cur : Pth} (hc : holdsB G cur = true) {x : Operand} {k : SV → Prop} (he : evK env cur x k) :
    ∃ v, k v ∧ v.lt nx = true ∧ a.eval x = den ρ v := by
  cases x with
  | tmp t =>
    obtain ⟨p, v, h1, h2⟩ := lkK_sound he
    cases hs : subP p cur with
    | false => rw [hs] at h2; exact h2.elim
    | true =>
      rw [hs] at h2
      refine ⟨v, h2, h.lt t p v h1 (holds_sub hs hc), ?_⟩
      have := h.slots t p v h1
      rw [holds_sub hs hc] at this
      simp [Act.eval, this]
  | const c => exact ⟨_, he, rfl, by simp [Act.eval, den]⟩
  | global g => exact ⟨_, he, rfl, by simp [Act.eval, den]⟩
  | func f => exact ⟨_, he, by simp [SV.lt, ltL], by simp [Act.eval, den, denL]⟩

/-- The operand's value, whatever the frame: for two uses. -/
def Ev (env : Env) (cur : Pth) (x : Operand) (v : SV) : Prop := ∀ ρ G nx a, Fk ρ G env nx a → holdsB G cur = true → a.eval x = den ρ v ∧ v.lt nx = true
theorem evK_sound {env : Env} {cur : Pth} {x : Operand} {k : SV → Prop} (he : evK env cur x k) : ∃ v, k v ∧ Ev env cur x v := by
  cases x with
  | tmp t =>
    obtain ⟨p, v, h1, h2⟩ := lkK_sound he
    cases hs : subP p cur with
    | false => rw [hs] at h2; exact h2.elim
    | true =>
      rw [hs] at h2
      refine ⟨v, h2, fun ρ G nx a h hc => ⟨?_, h.lt t p v h1 (holds_sub hs hc)⟩⟩
      have := h.slots t p v h1
      rw [holds_sub hs hc] at this
      simp [Act.eval, this]
  | const c => exact ⟨_, he, fun _ _ _ _ _ _ => ⟨by simp [Act.eval, den], rfl⟩⟩
  | global g => exact ⟨_, he, fun _ _ _ _ _ _ => ⟨by simp [Act.eval, den], rfl⟩⟩
  | func f => exact ⟨_, he, fun _ _ _ _ _ _ => ⟨by simp [Act.eval, den, denL], by simp [SV.lt, ltL]⟩⟩

/-- A row of the table of types. -/
structure TI where
  d : TypeDesc
  size : Nat
  bytes : Nat
  zero : Value
  eqok : Bool
abbrev Tab := List (Nat × TI)
def TyOk (P : Program) (t : Nat) (i : TI) : Prop := P.underlying t = some i.d ∧ ∃ j, P.info? t = some j ∧ j.size = i.size ∧ j.bytes = i.bytes ∧ j.zero = some i.zero ∧ (i.eqok = true → P.stoodInHeld t = false ∧ P.eqGuardType P.depth t = false ∧ ∀ fs, i.d = .struct fs → ∀ f ∈ fs.toList, f.name ≠ "_")
def TabOk (P : Program) (T : Tab) : Prop := ∀ e ∈ T, TyOk P e.1 e.2
def tyK : Tab → Nat → (TI → Prop) → Prop
  | [], _, _ => False
  | (t', i) :: r, t, k => bif Nat.beq t' t then k i else tyK r t k
theorem tyK_sound {P : Program} {t : Nat} {k : TI → Prop} : ∀ {T : Tab}, TabOk P T → tyK T t k → ∃ i, TyOk P t i ∧ k i
  | [], _, h => h.elim
  | (t', i) :: r, hT, h => by
    simp only [tyK] at h
    cases hb : Nat.beq t' t with
    | true => rw [hb] at h; obtain rfl := Nat.eq_of_beq_eq_true hb; exact ⟨i, hT _ (List.mem_cons_self ..), h⟩
    | false => rw [hb] at h; exact tyK_sound (fun e he => hT e (List.mem_cons_of_mem _ he)) h
theorem TyOk.under {P : Program} {t : Nat} {i : TI} (h : TyOk P t i) (W : World) : (underlying t).run P W = .ok i.d W := by simp [underlying, h.1]
theorem TyOk.sizeOf {P : Program} {t : Nat} {i : TI} (h : TyOk P t i) (W : World) : (Go.sizeOf t).run P W = .ok i.size W := by
  obtain ⟨_, j, h1, h2, _⟩ := h
  simp [Go.sizeOf, typeInfo, h1, h2]
theorem TyOk.zeroV {P : Program} {t : Nat} {i : TI} (h : TyOk P t i) (W : World) : (zeroValue t).run P W = .ok i.zero W := by
  obtain ⟨_, j, h1, _, _, h2, _⟩ := h
  simp [Go.zeroValue, typeInfo, h1, h2]
def aggD : TypeDesc → Bool
  | .struct _ => true
  | .array _ _ => true
  | _ => false
theorem TyOk.isAgg {P : Program} {t : Nat} {i : TI} (h : TyOk P t i) (W : World) : (isAgg t).run P W = .ok (aggD i.d) W := by
  have := h.1
  cases hd : i.d <;> simp [Go.isAgg, underlying, this, hd, aggD]

def obK : List Ob → Nat → (Ob → Prop) → Prop
  | [], _, _ => False
  | ⟨n', own, ty, size, cap, c⟩ :: r, n, k => bif Nat.beq n' n then k ⟨n', own, ty, size, cap, c⟩ else obK r n k
theorem obK_sound {n : Nat} {k : Ob → Prop} : ∀ {L : List Ob}, obK L n k → ∃ o ∈ L, o.n = n ∧ k o
  | [], h => h.elim
  | o :: r, h => by
    simp only [obK] at h
    cases hb : Nat.beq o.n n with
    | true => rw [hb] at h; exact ⟨o, List.mem_cons_self .., Nat.eq_of_beq_eq_true hb, h⟩
    | false =>
      rw [hb] at h
      obtain ⟨o', h1, h2⟩ := obK_sound h
      exact ⟨o', List.mem_cons_of_mem _ h1, h2⟩

universe u
def nthK {α : Type u} : List α → Nat → (α → Prop) → Prop
  | [], _, _ => False
  | x :: _, 0, k => k x
  | _ :: r, n + 1, k => nthK r n k
theorem nthK_sound {α : Type u} {k : α → Prop} : ∀ {l : List α} {n : Nat}, nthK l n k → ∃ x, l[n]? = some x ∧ k x
  | [], _, h => h.elim
  | x :: _, 0, h => ⟨x, rfl, h⟩
  | _ :: r, n + 1, h => by simpa using nthK_sound (l := r) h
def takeK {α : Type u} : List α → Nat → (List α → Prop) → Prop
  | _, 0, k => k []
  | [], _ + 1, _ => False
  | x :: r, n + 1, k => takeK r n (fun l => k (x :: l))
theorem takeK_sound {α : Type u} : ∀ {l : List α} {n : Nat} {k : List α → Prop}, takeK l n k → n ≤ l.length ∧ k (l.take n)
  | _, 0, k, h => by simpa [takeK] using h
  | [], _ + 1, _, h => h.elim
  | x :: r, n + 1, k, h => by
    have := takeK_sound (l := r) (n := n) h
    simpa using this
def cutK {α : Type u} : List α → Nat → Nat → (List α → Prop) → Prop
  | l, 0, n, k => takeK l n k
  | [], _ + 1, _, _ => False
  | _ :: r, m + 1, n, k => cutK r m n k
theorem cutK_sound {α : Type u} : ∀ {l : List α} {m n : Nat} {k : List α → Prop}, cutK l m n k → m + n ≤ l.length ∧ k ((l.drop m).take n)
  | l, 0, n, k, h => by
    have := takeK_sound (l := l) (n := n) (k := k) (by cases l <;> exact h)
    simpa using this
  | [], _ + 1, _, _, h => h.elim
  | _ :: r, m + 1, n, k, h => by
    have := cutK_sound (l := r) (m := m) (n := n) (k := k) h
    simp
    exact ⟨by omega, this.2⟩

/-- A plain cell, its head laid open. -/
def forceK (x : Value) (k : Value → Prop) : Prop :=
  match x with
  | .int kk z => k (.int kk z)
  | .string s => k (.string s)
  | .bool b => k (.bool b)
  | .slice a l c => k (.slice a l c)
  | y => k y
theorem forceK_sound {x : Value} {k : Value → Prop} (h : forceK x k) : k x := by
  unfold forceK at h
  split at h <;> exact h
def rowK {α : Type} (x : α) : List (α → Value) → (List SV → Prop) → Prop
  | [], k => k []
  | f :: r, k => forceK (f x) (fun y => rowK x r (fun l => k (.v y :: l)))
theorem rowK_sound {α : Type} {x : α} : ∀ {cols : List (α → Value)} {k : List SV → Prop}, rowK x cols k → k (cols.map (fun f => .v (f x)))
  | [], k, h => by simpa [rowK] using h
  | f :: r, k, h => by
    have := rowK_sound (forceK_sound h)
    simpa using this

/-- Cell j of an object. -/
theorem ObOk.cell {B : Nat} {ρ : Rho} {o : Ob} {W : World} (h : ObOk B ρ o W) {j : Nat} {u : Value} (hu : (o.c.cells ρ)[j]? = some u) :
    ∃ b off, ρ o.n = some ⟨b, off, none⟩ ∧ W.cell? ⟨b, off + j, none⟩ = some u := by
  have hl : j < (o.c.cells ρ).length := (List.getElem?_eq_some_iff.1 hu).1
  unfold ObOk at h
  split at h
  · rcases h with ⟨_, h, _⟩ | ⟨g, junk, h1, _, _, _, h2⟩
    · rw [h] at hl; simp at hl
    · refine ⟨g, 0, h1, ?_⟩
      rw [Nat.zero_add, h2.cell j]
      simp [List.getElem?_append_left hl, hu]
  · obtain ⟨b, off, h1, _, h2⟩ := h (by omega)
    exact ⟨b, off, h1, h2 j u hu⟩

theorem add_none (b off j : Nat) : (⟨b, off, none⟩ : Addr).add j = ⟨b, off + j, none⟩ := by
  unfold Addr.add
  split <;> simp_all
theorem flat_at {α : Type} (cols : List (α → Value)) (d : α) : ∀ (xs : List α) (i j : Nat) (f : α → Value), i < xs.length → cols[j]? = some f →
    (xs.flatMap (fun x => cols.map (fun g => g x)))[i * cols.length + j]? = some (f (xs.getD i d))
  | [], i, j, f, h, _ => by simp at h
  | x :: r, 0, j, f, _, hf => by
    obtain ⟨hj, rfl⟩ := List.getElem?_eq_some_iff.1 hf
    simp [List.getElem?_append_left, hj]
  | x :: r, i + 1, j, f, h, hf => by
    have ih := flat_at cols d r i j f (by simpa using h) hf
    have e : (i + 1) * cols.length + j = cols.length + (i * cols.length + j) := by rw [Nat.succ_mul]; omega
    rw [List.flatMap_cons, e, List.getElem?_append_right (by simp)]
    simpa using ih

theorem ObOk.load1 {B : Nat} {ρ : Rho} {o : Ob} {W : World} (h : ObOk B ρ o W) {j : Nat} {u : Value} (hu : (o.c.cells ρ)[j]? = some u) :
    W.cell? (((ρ o.n).getD default).add j) = some u := by
  obtain ⟨b, off, h1, h2⟩ := h.cell hu
  simp [h1, add_none, h2]
theorem ObOk.loadN {P : Program} {B : Nat} {ρ : Rho} {o : Ob} {W : World} (h : ObOk B ρ o W) {j n : Nat} (hn : 0 < n) (hu : j + n ≤ (o.c.cells ρ).length) :
    (loadCells (((ρ o.n).getD default).add j) n).run P W = .ok (((o.c.cells ρ).drop j).take n).toArray W := by
  obtain ⟨b, off, h1, _⟩ := h.cell (j := j) (List.getElem?_eq_getElem (by omega))
  simp only [h1, Option.getD_some, add_none]
  have hl : (((o.c.cells ρ).drop j).take n).length = n := by simp; omega
  have := run_loadCells_list (P := P) W ⟨b, off + j, none⟩ (((o.c.cells ρ).drop j).take n) (by
    intro i v hv
    rw [add_none]
    have : (o.c.cells ρ)[j + i]? = some v := by
      rw [List.getElem?_take] at hv
      split at hv
      · simpa using hv
      · cases hv
    obtain ⟨b', off', h1', h2'⟩ := h.cell this
    rw [h1] at h1'
    injection h1' with h1'
    injection h1' with e1 e2
    subst e1; subst e2
    rw [Nat.add_assoc]
    exact h2')
  rw [hl] at this
  exact this
end Go.Proofs.YtebfhljamoapjaaDoor
namespace Go.Proofs.YtebfhljamoapjaaDoor
open Go.RowKit
set_option linter.unusedVariables false
set_option linter.unusedSimpArgs false

def optP : Option Prop → Prop
  | none => True
  | some φ => φ
/-- An operation yields v under the condition φ, and leaves the world alone. -/
def QOk (P : Program) (w : Ref) (env : Env) (L : List Ob) (nx : Nat) (cur : Pth) (o : Op) (φ : Option Prop) (v : SV) : Prop :=
  ∀ ρ G a W, Fk ρ G env nx a → holdsB G cur = true → Hp w ρ L nx W → optP φ → v.lt nx = true ∧ ∀ oper : Oper, oper.op = o → (execOp a.eval oper).run P W = .ok (.value (den ρ v)) W

section
variable {P : Program} {w : Ref} {T : Tab} {env : Env} {L : List Ob} {nx : Nat} {cur : Pth} {k : Option Prop → SV → Prop}

/-! move, assign -/
theorem moveK_sound {x : Operand} (h : evK env cur x (fun v => k none v)) : ∃ φ v, QOk P w env L nx cur (.move x) φ v ∧ k φ v := by
  obtain ⟨v, h1, h2⟩ := evK_sound h
  refine ⟨none, v, fun ρ G a W hf hc _ _ => ⟨(h2 ρ G nx a hf hc).2, fun o ho => ?_⟩, h1⟩
  simp [execOp, ho, (h2 ρ G nx a hf hc).1]
theorem assignK_sound {x : Operand} (h : evK env cur x (fun v => k none v)) : ∃ φ v, QOk P w env L nx cur (.assign x) φ v ∧ k φ v := by
  obtain ⟨v, h1, h2⟩ := evK_sound h
  refine ⟨none, v, fun ρ G a W hf hc _ _ => ⟨(h2 ρ G nx a hf hc).2, fun o ho => ?_⟩, h1⟩
  simp [execOp, ho, (h2 ρ G nx a hf hc).1]

/-! pick -/
def asB (v : SV) (k : Bool → Prop) : Prop :=
  match v with
  | .v (.bool b) => k b
  | _ => False
theorem asB_sound {v : SV} {k : Bool → Prop} (h : asB v k) : ∃ b, v = .v (.bool b) ∧ k b := by
  unfold asB at h
  split at h
  · exact ⟨_, rfl, h⟩
  · exact h.elim
def pickB (x y : Operand) (b bx c : Bool) (k : Option Prop → SV → Prop) : Prop :=
  match x, y with
  | .const (.bool x'), _ => bif x' then k none (.v (.bool (b || c))) else False
  | _, .const (.bool y') => bif y' then False else k none (.v (.bool (b && bx)))
  | _, _ => k none (.v (.bool (if b then bx else c)))
def pickK (env : Env) (cur : Pth) (c x y : Operand) (k : Option Prop → SV → Prop) : Prop :=
  match c with
  | .tmp s => lkK env s (fun ps vs => bif subP ps cur then
      asB vs (fun b => evK env ((s, true) :: cur) x (fun vx => evK env ((s, false) :: cur) y (fun vy => asB vx (fun bx => asB vy (fun c => pickB x y b bx c k))))) else False)
  | _ => False
theorem pickB_sound {x y : Operand} {b bx c : Bool} (h : pickB x y b bx c k) (hx : ∀ q, x = .const (.bool q) → b = true → bx = q) (hy : ∀ q, y = .const (.bool q) → b = false → c = q) :
    ∃ r, r = (if b then bx else c) ∧ k none (.v (.bool r)) := by
  unfold pickB at h
  split at h
  · rename_i x'
    cases x' with
    | false => exact h.elim
    | true =>
      refine ⟨_, ?_, h⟩
      cases b with
      | true => simp [hx true rfl rfl]
      | false => simp
  · rename_i y' _
    cases y' with
    | true => exact h.elim
    | false =>
      refine ⟨_, ?_, h⟩
      cases b with
      | true => simp
      | false => simp [hy false rfl rfl]
  · exact ⟨_, rfl, h⟩
theorem evK_sound2 {s : Nat} {ps : Pth} {b want : Bool} {x : Operand} {k : SV → Prop} (hs : lk env s = some (ps, .v (.bool b))) (he : evK env ((s, want) :: cur) x k) :
    ∃ v, k v ∧ ∀ ρ G nx a, Fk ρ G env nx a → holdsB G cur = true → b = want → a.eval x = den ρ v ∧ v.lt nx = true := by
  cases x with
  | tmp t =>
    obtain ⟨p, v, h1, h2⟩ := lkK_sound he
    cases hsb : subP p ((s, want) :: cur) with
    | false => rw [hsb] at h2; exact h2.elim
    | true =>
      rw [hsb] at h2
      refine ⟨v, h2, fun ρ G nx a h hc hb => ?_⟩
      have hh : holdsB G p = true := by
        simp only [holdsB, List.all_eq_true] at *
        intro z hz
        have hcl := h.clo t p v h1 z hz
        simp only [subP, List.all_eq_true, List.any_eq_true, Bool.and_eq_true] at hsb
        obtain ⟨y, hy, e1, e2⟩ := hsb z hz
        have e1 : z.1 = y.1 := Nat.eq_of_beq_eq_true e1
        have e2 : z.2 = y.2 := by simpa using e2
        rcases List.mem_cons.1 hy with rfl | hy
        · obtain ⟨b', hb'⟩ := Option.isSome_iff_exists.1 hcl
          obtain ⟨p', hp'⟩ := h.gok z.1 b' hb'
          rw [e1] at hp'
          simp only [] at hp'
          rw [hs] at hp'
          simp at hp'
          rw [hb', e2]
          simp [← hp'.2, hb]
        · rw [e1, e2]; exact hc y hy
      have := h.slots t p v h1
      rw [hh] at this
      exact ⟨by simp [Act.eval, this], h.lt t p v h1 hh⟩
  | const c => exact ⟨_, he, fun _ _ _ _ _ _ _ => ⟨by simp [Act.eval, den], rfl⟩⟩
  | global g => exact ⟨_, he, fun _ _ _ _ _ _ _ => ⟨by simp [Act.eval, den], rfl⟩⟩
  | func f => exact ⟨_, he, fun _ _ _ _ _ _ _ => ⟨by simp [Act.eval, den, denL], by simp [SV.lt, ltL]⟩⟩
theorem pickK_sound {c x y : Operand} (h : pickK env cur c x y k) : ∃ φ v, QOk P w env L nx cur (.pick c x y) φ v ∧ k φ v := by
  cases c with
  | tmp s =>
    obtain ⟨ps, vs, hs, h1⟩ := lkK_sound h
    clear h
    cases hsb : subP ps cur with
    | false => rw [hsb] at h1; exact h1.elim
    | true =>
      rw [hsb] at h1
      obtain ⟨b, rfl, h2⟩ := asB_sound h1
      obtain ⟨vx, h3, hx⟩ := evK_sound2 hs h2
      obtain ⟨vy, h4, hy⟩ := evK_sound2 hs h3
      obtain ⟨bx, rfl, h5⟩ := asB_sound h4
      obtain ⟨c, rfl, h6⟩ := asB_sound h5
      clear h1 h2 h3 h4 h5
      by_cases hex : ∃ (ρ : Rho) (G : Gd) (a : Act), Fk ρ G env nx a ∧ holdsB G cur = true
      · obtain ⟨r, hr, hk⟩ := pickB_sound h6 (by
          rintro q rfl hb
          obtain ⟨ρ, G, a, hf, hc⟩ := hex
          have := (hx ρ G nx a hf hc hb).1
          simpa [Act.eval, den, eq_comm] using this) (by
          rintro q rfl hb
          obtain ⟨ρ, G, a, hf, hc⟩ := hex
          have := (hy ρ G nx a hf hc hb).1
          simpa [Act.eval, den, eq_comm] using this)
        refine ⟨none, _, fun ρ G a W hf hc _ _ => ⟨rfl, fun o ho => ?_⟩, hk⟩
        have e0 : a.eval (.tmp s) = .bool b := by
          have := hf.slots s ps _ hs
          rw [holds_sub hsb hc] at this
          simp [Act.eval, this, den]
        rw [hr]
        cases b with
        | true =>
          have := (hx ρ G nx a hf hc rfl).1
          simp [execOp, ho, e0, asBool, this, den]
        | false =>
          have := (hy ρ G nx a hf hc rfl).1
          simp [execOp, ho, e0, asBool, this, den]
      · have : ∃ r, k none (.v (.bool r)) := by
          unfold pickB at h6
          split at h6
          · rename_i x'
            cases x' with
            | false => exact h6.elim
            | true => exact ⟨_, h6⟩
          · rename_i y' _
            cases y' with
            | true => exact h6.elim
            | false => exact ⟨_, h6⟩
          · exact ⟨_, h6⟩
        obtain ⟨r, hk⟩ := this
        exact ⟨none, _, fun ρ G a W hf hc _ _ => absurd ⟨ρ, G, a, hf, hc⟩ hex, hk⟩
  | const c => exact h.elim
  | global g => exact h.elim
  | func f => exact h.elim

/-! load -/
/-- Rows of one cell, one by one. -/
def rowsAK {α : Type} (R : RowS α) (xs : List α) : Nat → Nat → (List SV → Prop) → Prop
  | _, 0, k => k []
  | i, n + 1, k => nthK R.cols 0 (fun f => forceK (f (xs.getD i R.d)) (fun y => rowsAK R xs (i + 1) n (fun l => k (.v y :: l))))
theorem rowsAK_sound {α : Type} {R : RowS α} {xs : List α} (hR : R.cols.length = 1) : ∀ {n i : Nat} {k : List SV → Prop}, rowsAK R xs i n k → i + n ≤ xs.length → ∃ l, k l ∧ (∀ nx, ltL nx l = true) ∧ ∀ ρ : Rho, denL ρ l = (((xs.flatMap (fun x => R.cols.map (fun g => g x)))).drop i).take n
  | 0, i, k, h, _ => ⟨[], h, fun _ => rfl, fun ρ => by simp [denL]⟩
  | n + 1, i, k, h, hi => by
    obtain ⟨f, h1, h2⟩ := nthK_sound h
    have h3 := forceK_sound h2
    obtain ⟨l, h4, h5, h6⟩ := rowsAK_sound hR h3 (by omega)
    refine ⟨_, h4, fun nx => by simp [ltL, SV.lt, h5 nx], fun ρ => ?_⟩
    have hf := flat_at R.cols R.d xs i 0 f (by omega) h1
    rw [hR, Nat.mul_one, Nat.add_zero] at hf
    have hlt := (List.getElem?_eq_some_iff.1 hf).1
    rw [List.drop_eq_getElem_cons hlt, List.take_succ_cons]
    simp only [denL, den, h6 ρ]
    congr 1
    have := (List.getElem?_eq_some_iff.1 hf).2
    exact this.symm
def loadSV (agg : Bool) (sz : Nat) (c : Ct) (addr : SV) (k : Option Prop → SV → Prop) : Prop :=
  match c, addr with
  | .cs l, .p _ off => bif agg then cutK l off sz (fun r => k none (.a r)) else nthK l off (fun v => k none v)
  | .cs l, .e _ size i j => bif agg then cutK l (i * size + j) sz (fun r => k none (.a r)) else nthK l (i * size + j) (fun v => k none v)
  | .rows _ R xs, .e _ size i j => bif Nat.beq R.cols.length size then
      (bif agg then cutK R.cols j sz (fun cs => rowK (xs.getD i R.d) cs (fun r => k (some (i < xs.length)) (.a r)))
       else nthK R.cols j (fun f => forceK (f (xs.getD i R.d)) (fun y => k (some (i < xs.length)) (.v y)))) else False
  | .rows _ R xs, .p _ off => bif agg && (Nat.beq off 0 && Nat.beq R.cols.length 1) then rowsAK R xs 0 sz (fun r => k (some (sz ≤ xs.length)) (.a r)) else False
  | _, _ => False
def nameOf : SV → Option Nat
  | .p n _ => some n
  | .e n _ _ _ => some n
  | _ => none
def loadK (T : Tab) (env : Env) (L : List Ob) (cur : Pth) (t : TypeId) (x : Operand) (k : Option Prop → SV → Prop) : Prop :=
  tyK T t (fun ti => evK env cur x (fun addr => match nameOf addr with
    | some n => obK L n (fun o => bif Nat.blt 0 ti.size then loadSV (aggD ti.d) ti.size o.c addr k else False)
    | none => False))
def offOf : SV → Nat
  | .p _ off => off
  | .e _ size i j => i * size + j
  | _ => 0
theorem den_addr {ρ : Rho} {addr : SV} {n : Nat} (h : nameOf addr = some n) : den ρ addr = .pointer (some (((ρ n).getD default).add (offOf addr))) := by
  cases addr <;> simp_all [nameOf, den, offOf]
theorem denL_cut (ρ : Rho) (l : List SV) (m n : Nat) : denL ρ ((l.drop m).take n) = ((denL ρ l).drop m).take n := by
  simp [denL_map, List.map_drop, List.map_take]
theorem ltL_cut {l : List SV} {m n : Nat} (h : ltL nx l = true) : ltL nx ((l.drop m).take n) = true := by
  rw [ltL_iff] at *
  intro x hx
  exact h x (List.mem_of_mem_drop (List.mem_of_mem_take hx))
theorem denL_vs (ρ : Rho) {α : Type} (x : α) (cols : List (α → Value)) : denL ρ (cols.map (fun f => SV.v (f x))) = cols.map (fun f => f x) := by
  rw [denL_map, List.map_map]
  apply List.map_congr_left
  intro f _
  simp [den]
theorem ltL_vs {α : Type} (x : α) (cols : List (α → Value)) : ltL nx (cols.map (fun f => SV.v (f x))) = true := by
  rw [ltL_iff]
  intro y hy
  obtain ⟨f, _, rfl⟩ := List.mem_map.1 hy
  rfl
theorem flat_cut {α : Type} (cols : List (α → Value)) (d : α) (xs : List α) (i j n : Nat) (hi : i < xs.length) (hj : j + n ≤ cols.length) :
    i * cols.length + j + n ≤ (xs.flatMap (fun x => cols.map (fun g => g x))).length ∧
    ((xs.flatMap (fun x => cols.map (fun g => g x))).drop (i * cols.length + j)).take n = ((cols.drop j).take n).map (fun f => f (xs.getD i d)) := by
  have hlen : (xs.flatMap (fun x => cols.map (fun g => g x))).length = xs.length * cols.length := by
    simp [List.length_flatMap, List.map_const', List.sum_replicate_nat]
  have hle : i * cols.length + cols.length ≤ xs.length * cols.length := by
    have := Nat.mul_le_mul_right cols.length (show i + 1 ≤ xs.length from hi)
    rw [Nat.succ_mul] at this
    exact this
  refine ⟨by rw [hlen]; omega, ?_⟩
  apply List.ext_getElem?
  intro m
  rw [List.getElem?_take, List.getElem?_map, List.getElem?_take]
  split
  · rename_i hm
    rw [List.getElem?_drop, List.getElem?_drop]
    have hjm : j + m < cols.length := by omega
    have := flat_at cols d xs i (j + m) cols[j + m] hi (List.getElem?_eq_getElem hjm)
    rw [Nat.add_assoc, this, List.getElem?_eq_getElem hjm]
    rfl
  · rfl
theorem loadSV_sound_all {agg : Bool} {sz : Nat} {o : Ob} {addr : SV} (hsz : 0 < sz) (hn : nameOf addr = some o.n) (h : loadSV agg sz o.c addr k) :
    ∃ φ v, k φ v ∧ ∀ nx, ∀ B ρ W, ObOk B ρ o W → o.c.lt nx = true → optP φ → v.lt nx = true ∧
      (if agg then (loadCells (((ρ o.n).getD default).add (offOf addr)) sz).run P W = .ok (den ρ v).cells W ∧ (∃ cs, den ρ v = .agg cs) else W.cell? (((ρ o.n).getD default).add (offOf addr)) = some (den ρ v)) := by
  have csCase : ∀ (l : List SV) (off : Nat), o.c = .cs l → offOf addr = off → (bif agg then cutK l off sz (fun r => k none (.a r)) else nthK l off (fun v => k none v)) →
      ∃ φ v, k φ v ∧ ∀ nx, ∀ B ρ W, ObOk B ρ o W → o.c.lt nx = true → optP φ → v.lt nx = true ∧
      (if agg then (loadCells (((ρ o.n).getD default).add (offOf addr)) sz).run P W = .ok (den ρ v).cells W ∧ (∃ cs, den ρ v = .agg cs) else W.cell? (((ρ o.n).getD default).add (offOf addr)) = some (den ρ v)) := by
    intro l off hc ho h
    rw [ho]
    cases agg with
    | true =>
      obtain ⟨h1, h2⟩ := cutK_sound h
      refine ⟨none, _, h2, fun nx B ρ W hok hlt _ => ⟨?_, ?_⟩⟩
      · rw [hc] at hlt; exact ltL_cut hlt
      · have := hok.loadN (P := P) (j := off) (n := sz) hsz (by rw [hc]; simpa [Ct.cells, denL_map] using h1)
        rw [this, hc]
        simp [den, denL_cut, Value.cells, Ct.cells]
    | false =>
      obtain ⟨v, h1, h2⟩ := nthK_sound h
      refine ⟨none, _, h2, fun nx B ρ W hok hlt _ => ⟨?_, ?_⟩⟩
      · rw [hc] at hlt; exact (ltL_iff _ _).1 hlt v (List.mem_of_getElem? h1)
      · have := hok.load1 (j := off) (u := den ρ v) (by rw [hc]; simp [Ct.cells, denL_map, h1])
        simpa using this
  unfold loadSV at h
  split at h
  · rename_i l n off hc
    exact csCase l off hc rfl h
  · rename_i l n size i j hc
    exact csCase l _ hc rfl h
  · rename_i α R xs n size i j hc
    cases hb : Nat.beq R.cols.length size with
    | false => rw [hb] at h; exact h.elim
    | true =>
      rw [hb] at h
      have hs := Nat.eq_of_beq_eq_true hb
      subst hs
      cases agg with
      | true =>
        simp only [cond_true] at h
        obtain ⟨h1, h2⟩ := cutK_sound h
        have h3 := rowK_sound h2
        refine ⟨_, _, h3, fun nx B ρ W hok hlt hφ => ⟨ltL_vs _ _, ?_⟩⟩
        obtain ⟨f1, f2⟩ := flat_cut R.cols R.d xs i j sz hφ h1
        have := hok.loadN (P := P) (j := i * R.cols.length + j) (n := sz) hsz (by rw [hc]; exact f1)
        rw [if_pos rfl]
        simp only [offOf]
        rw [this, hc]
        refine ⟨?_, _, rfl⟩
        simp only [Ct.cells, f2, den, denL_vs, Value.cells]
      | false =>
        simp only [cond_true, cond_false] at h
        obtain ⟨f, h1, h2⟩ := nthK_sound h
        have h3 := forceK_sound h2
        refine ⟨_, _, h3, fun nx B ρ W hok hlt hφ => ⟨rfl, ?_⟩⟩
        have := hok.load1 (j := i * R.cols.length + j) (u := f (xs.getD i R.d)) (by rw [hc]; exact flat_at R.cols R.d xs i j f hφ h1)
        rw [if_neg (by simp)]
        simpa [offOf, den] using this
  · rename_i α R xs n off hc
    cases hb : (agg && (Nat.beq off 0 && Nat.beq R.cols.length 1)) with
    | false => rw [hb] at h; exact h.elim
    | true =>
      rw [hb] at h
      simp only [Bool.and_eq_true] at hb
      obtain ⟨ha, ho, hr⟩ := hb
      obtain rfl := Nat.eq_of_beq_eq_true ho
      have hr := Nat.eq_of_beq_eq_true hr
      simp only [cond_true] at h
      by_cases hl : sz ≤ xs.length
      · obtain ⟨l, h1, h2, h3⟩ := rowsAK_sound hr h (by omega)
        refine ⟨_, _, h1, fun nx B ρ W hok hlt hφ => ⟨by simpa [SV.lt] using h2 nx, ?_⟩⟩
        have hlen : (xs.flatMap (fun x => R.cols.map (fun g => g x))).length = xs.length := by
          simp [List.length_flatMap, List.map_const', List.sum_replicate_nat, hr]
        have := hok.loadN (P := P) (j := 0) (n := sz) hsz (by rw [hc]; show 0 + sz ≤ _; simp only [Ct.cells]; rw [hlen]; omega)
        rw [if_pos ha]
        simp only [offOf]
        rw [this, hc]
        refine ⟨?_, _, rfl⟩
        simp only [Ct.cells, den, h3 ρ, Value.cells]
      · have : ∃ l, k (some (sz ≤ xs.length)) (.a l) := by
          have key : ∀ (n i : Nat) (q : List SV → Prop), rowsAK R xs i n q → ∃ l, q l := by
            intro n
            induction n with
            | zero => intro i q h; exact ⟨[], h⟩
            | succ n ih =>
              intro i q h
              obtain ⟨f, h1, h2⟩ := nthK_sound h
              obtain ⟨l, hl⟩ := ih _ _ (forceK_sound h2)
              exact ⟨_, hl⟩
          exact key _ _ _ h
        obtain ⟨l, h1⟩ := this
        exact ⟨_, _, h1, fun nx B ρ W hok hlt hφ => absurd hφ hl⟩
  · exact h.elim
theorem loadSV_sound {agg : Bool} {sz : Nat} {o : Ob} {addr : SV} (hsz : 0 < sz) (hn : nameOf addr = some o.n) (h : loadSV agg sz o.c addr k) :
    ∃ φ v, k φ v ∧ ∀ B ρ W, ObOk B ρ o W → o.c.lt nx = true → optP φ → v.lt nx = true ∧
      (if agg then (loadCells (((ρ o.n).getD default).add (offOf addr)) sz).run P W = .ok (den ρ v).cells W ∧ (∃ cs, den ρ v = .agg cs) else W.cell? (((ρ o.n).getD default).add (offOf addr)) = some (den ρ v)) := by
  obtain ⟨φ, v, h1, h2⟩ := loadSV_sound_all (P := P) hsz hn h
  exact ⟨φ, v, h1, fun B ρ W => h2 nx B ρ W⟩
theorem loadK_sound {t : TypeId} {x : Operand} (hT : TabOk P T) (h : loadK T env L cur t x k) : ∃ φ v, QOk P w env L nx cur (.load t x) φ v ∧ k φ v := by
  obtain ⟨ti, hti, h1⟩ := tyK_sound hT h
  obtain ⟨addr, h2, he⟩ := evK_sound h1
  clear h h1
  split at h2
  · rename_i n hn
    obtain ⟨o, ho, rfl, h3⟩ := obK_sound h2
    clear h2
    cases hb : Nat.blt 0 ti.size with
    | false => rw [hb] at h3; exact h3.elim
    | true =>
      rw [hb] at h3
      obtain ⟨φ, v, hk, hv⟩ := loadSV_sound (P := P) (nx := nx) (blt_iff.1 hb) hn h3
      refine ⟨φ, v, fun ρ G a W hf hc hp hφ => ?_, hk⟩
      obtain ⟨h4, h5⟩ := hv _ ρ W (hp.obj o ho) (hp.lt o ho).2 hφ
      refine ⟨h4, fun oper hop => ?_⟩
      have e := (he ρ G nx a hf hc).1
      rw [den_addr hn] at e
      split at h5
      · rename_i hag
        obtain ⟨h5, cs, h6⟩ := h5
        have e1 := hti.isAgg W
        rw [hag] at e1
        rw [h6] at h5 ⊢
        simp [execOp, hop, e, Instr.loadAt, Instr.sureAddr, loadVar, e1, hti.sizeOf W, h5, Value.cells]
      · rename_i hag
        have e1 := hti.isAgg W
        have hag : aggD ti.d = false := by simpa using hag
        rw [hag] at e1
        simp [execOp, hop, e, Instr.loadAt, Instr.sureAddr, loadVar, e1, Go.load, Sem.run, h5]
  · exact h2.elim
end
end Go.Proofs.YtebfhljamoapjaaDoor
namespace Go.Proofs.YtebfhljamoapjaaDoor
open Go.RowKit
set_option linter.unusedVariables false
set_option linter.unusedSimpArgs false

section
variable {P : Program} {w : Ref} {T : Tab} {env : Env} {L : List Ob} {nx : Nat} {cur : Pth} {k : Option Prop → SV → Prop}

/-! fieldAddr -/
def shiftA (v : SV) (d : Nat) (k : SV → Prop) : Prop :=
  match v with
  | .p n off => k (.p n (off + d))
  | .e n size i j => k (.e n size i (j + d))
  | _ => False
theorem add_add (A : Addr) (x d : Nat) : (A.add x).add d = A.add (x + d) := by
  unfold Addr.add
  split <;> split <;> split <;> simp_all <;> omega
theorem shiftA_den {v : SV} {d : Nat} {k : SV → Prop} (h : shiftA v d k) : ∃ u, k u ∧ (∀ nx, v.lt nx = true → u.lt nx = true) ∧ ∀ ρ : Rho, ∃ b, den ρ v = .pointer (some b) ∧ den ρ u = .pointer (some (b.add d)) := by
  unfold shiftA at h
  split at h
  · exact ⟨_, h, fun nx hx => by simpa [SV.lt] using hx, fun ρ => ⟨_, rfl, by simp [den, add_add]⟩⟩
  · exact ⟨_, h, fun nx hx => by simpa [SV.lt] using hx, fun ρ => ⟨_, rfl, by simp [den, add_add, Nat.add_assoc]⟩⟩
  · exact h.elim
def fldK (T : Tab) (d : TypeDesc) (f : Nat) (k : Field → TI → Prop) : Prop :=
  match d with
  | .struct fs => nthK fs.toList f (fun fd => tyK T fd.type (fun tf => k fd tf))
  | _ => False
theorem fldK_sound {d : TypeDesc} {f : Nat} {k : Field → TI → Prop} (hT : TabOk P T) (h : fldK T d f k) : ∃ fs fd tf, d = .struct fs ∧ fs[f]? = some fd ∧ TyOk P fd.type tf ∧ k fd tf := by
  unfold fldK at h
  split at h
  · rename_i fs
    obtain ⟨fd, h1, h2⟩ := nthK_sound h
    obtain ⟨tf, h3, h4⟩ := tyK_sound hT h2
    exact ⟨fs, fd, tf, rfl, by simpa using h1, h3, h4⟩
  · exact h.elim
def fieldAddrK (T : Tab) (env : Env) (cur : Pth) (s : TypeId) (x : Operand) (f : Nat) (k : Option Prop → SV → Prop) : Prop :=
  tyK T s (fun ti => fldK T ti.d f (fun fd tf => bif Nat.beq tf.size 0 then False else evK env cur x (fun v => shiftA v fd.offset (fun u => k none u))))
theorem fieldAddrK_sound {s : TypeId} {x : Operand} {f : Nat} (hT : TabOk P T) (h : fieldAddrK T env cur s x f k) : ∃ φ v, QOk P w env L nx cur (.fieldAddr s x f) φ v ∧ k φ v := by
  obtain ⟨ti, hti, h1⟩ := tyK_sound hT h
  obtain ⟨fs, fd, tf, hd, hf, htf, h2⟩ := fldK_sound hT h1
  cases hb : Nat.beq tf.size 0 with
  | true => rw [hb] at h2; exact h2.elim
  | false =>
    rw [hb] at h2
    obtain ⟨v, h3, he⟩ := evK_sound h2
    obtain ⟨u, h4, hlt, hu⟩ := shiftA_den h3
    refine ⟨none, u, fun ρ G a W hfk hc hp _ => ⟨hlt nx (he ρ G nx a hfk hc).2, fun o ho => ?_⟩, h4⟩
    obtain ⟨b, e1, e2⟩ := hu ρ
    have e := (he ρ G nx a hfk hc).1
    rw [e1] at e
    have hs : tf.size ≠ 0 := by intro h0; rw [h0] at hb; cases hb
    have u1 := hti.under W
    rw [hd] at u1
    simp [execOp, ho, e, Instr.fieldAt, u1, hf, Instr.sureAddr, fieldPlace, htf.sizeOf W, hs, e2]

/-! field, extract -/
def asA (v : SV) (k : List SV → Prop) : Prop :=
  match v with
  | .a l => k l
  | _ => False
theorem asA_sound {v : SV} {k : List SV → Prop} (h : asA v k) : ∃ l, v = .a l ∧ k l := by
  unfold asA at h
  split at h
  · exact ⟨_, rfl, h⟩
  · exact h.elim
def asT (v : SV) (k : List SV → Prop) : Prop :=
  match v with
  | .t l => k l
  | _ => False
theorem asT_sound {v : SV} {k : List SV → Prop} (h : asT v k) : ∃ l, v = .t l ∧ k l := by
  unfold asT at h
  split at h
  · exact ⟨_, rfl, h⟩
  · exact h.elim
def asI (v : SV) (k : IntKind → Int → Prop) : Prop :=
  match v with
  | .v (.int kk z) => k kk z
  | _ => False
theorem asI_sound {v : SV} {k : IntKind → Int → Prop} (h : asI v k) : ∃ kk z, v = .v (.int kk z) ∧ k kk z := by
  unfold asI at h
  split at h
  · exact ⟨_, _, rfl, h⟩
  · exact h.elim
def fieldK (T : Tab) (env : Env) (cur : Pth) (s : TypeId) (x : Operand) (f : Nat) (k : Option Prop → SV → Prop) : Prop :=
  tyK T s (fun ti => fldK T ti.d f (fun fd tf => evK env cur x (fun v => asA v (fun l => bif aggD tf.d then cutK l fd.offset tf.size (fun r => k none (.a r)) else nthK l fd.offset (fun u => k none u)))))
theorem fieldK_sound {s : TypeId} {x : Operand} {f : Nat} (hT : TabOk P T) (h : fieldK T env cur s x f k) : ∃ φ v, QOk P w env L nx cur (.field s x f) φ v ∧ k φ v := by
  obtain ⟨ti, hti, h1⟩ := tyK_sound hT h
  obtain ⟨fs, fd, tf, hd, hf, htf, h2⟩ := fldK_sound hT h1
  obtain ⟨v, h3, he⟩ := evK_sound h2
  obtain ⟨l, rfl, h4⟩ := asA_sound h3
  cases hb : aggD tf.d with
  | true =>
    rw [hb] at h4
    obtain ⟨hle, h5⟩ := cutK_sound h4
    refine ⟨none, _, fun ρ G a W hfk hc hp _ => ⟨(by simpa [SV.lt] using ltL_cut (nx := nx) (l := l) (by simpa [SV.lt] using (he ρ G nx a hfk hc).2)), fun o ho => ?_⟩, h5⟩
    have e := (he ρ G nx a hfk hc).1
    have u1 := hti.under W
    rw [hd] at u1
    have u2 := htf.isAgg W
    rw [hb] at u2
    simp [execOp, ho, e, Instr.field, u1, hf, den, asAgg, part, u2, htf.sizeOf W, denL_cut]
  | false =>
    rw [hb] at h4
    obtain ⟨u, hu, h5⟩ := nthK_sound h4
    refine ⟨none, _, fun ρ G a W hfk hc hp _ => ⟨(ltL_iff _ _).1 (by simpa [SV.lt] using (he ρ G nx a hfk hc).2) u (List.mem_of_getElem? hu), fun o ho => ?_⟩, h5⟩
    have e := (he ρ G nx a hfk hc).1
    have u1 := hti.under W
    rw [hd] at u1
    have u2 := htf.isAgg W
    rw [hb] at u2
    simp [execOp, ho, e, Instr.field, u1, hf, den, asAgg, part, u2, denL_map, hu]
def extractK (env : Env) (cur : Pth) (x : Operand) (i : Nat) (k : Option Prop → SV → Prop) : Prop := evK env cur x (fun v => asT v (fun l => nthK l i (fun u => k none u)))
theorem extractK_sound {x : Operand} {i : Nat} (h : extractK env cur x i k) : ∃ φ v, QOk P w env L nx cur (.extract x i) φ v ∧ k φ v := by
  obtain ⟨v, h3, he⟩ := evK_sound h
  obtain ⟨l, rfl, h4⟩ := asT_sound h3
  obtain ⟨u, hu, h5⟩ := nthK_sound h4
  refine ⟨none, _, fun ρ G a W hfk hc hp _ => ⟨(ltL_iff _ _).1 (by simpa [SV.lt] using (he ρ G nx a hfk hc).2) u (List.mem_of_getElem? hu), fun o ho => ?_⟩, h5⟩
  have e := (he ρ G nx a hfk hc).1
  simp [execOp, ho, e, den, Instr.extract, denL_map, hu]

/-! arithmetic -/
def kb : IntKind → Nat
  | .i8 => 0 | .i16 => 1 | .i32 => 2 | .i64 => 3 | .u8 => 4 | .u16 => 5 | .u32 => 6 | .u64 => 7
theorem kb_eq {a b : IntKind} (h : Nat.beq (kb a) (kb b) = true) : a = b := by
  cases a <;> cases b <;> first | rfl | (exact absurd h (by decide))
/-- A table whose first row stands twice says: sums of ints may wrap. -/
def wfl : Tab → Bool
  | (a, _) :: (b, _) :: _ => Nat.beq a b
  | _ => false
def wrapK (wf : Bool) (kk : IntKind) (z : Int) (k : Option Prop → SV → Prop) : Prop :=
  match kk with
  | .i64 => bif wf then k none (.v (.int .i64 (IntKind.wrap .i64 z))) else k (some (-9223372036854775808 ≤ z ∧ z ≤ 9223372036854775807)) (.v (.int .i64 z))
  | kk => k none (.v (.int kk (kk.wrap z)))
theorem wrapK_sound {wf : Bool} {kk : IntKind} {z : Int} (h : wrapK wf kk z k) : ∃ φ v, k φ v ∧ (∀ nx, v.lt nx = true) ∧ ∀ ρ : Rho, optP φ → den ρ v = .int kk (kk.wrap z) := by
  unfold wrapK at h
  split at h
  · cases wf with
    | true => exact ⟨_, _, h, fun _ => rfl, fun ρ _ => by simp [den]⟩
    | false => exact ⟨_, _, h, fun _ => rfl, fun ρ hφ => by simp [den, IntWalk.i64_in z hφ]⟩
  · exact ⟨_, _, h, fun _ => rfl, fun ρ _ => by simp [den]⟩
def quoK (kk : IntKind) (x y : Int) (k : Option Prop → SV → Prop) : Prop :=
  match kk with
  | .i64 => k (some (y ≠ 0 ∧ -9223372036854775808 ≤ x.tdiv y ∧ x.tdiv y ≤ 9223372036854775807)) (.v (.int .i64 (x.tdiv y)))
  | kk => k (some (y ≠ 0)) (.v (.int kk (kk.wrap (x.tdiv y))))
def binI (wf : Bool) (op : BinOp) (kk : IntKind) (x y : Int) (k : Option Prop → SV → Prop) : Prop :=
  match op with
  | .add => wrapK wf kk (x + y) k
  | .sub => wrapK wf kk (x - y) k
  | .mul => wrapK wf kk (x * y) k
  | .quo => quoK kk x y k
  | .rem => k (some (y ≠ 0)) (.v (.int kk (x.tmod y)))
  | .eql => k none (.v (.bool (decide (x = y))))
  | .neq => k none (.v (.bool (!decide (x = y))))
  | .lss => k none (.v (.bool (decide (x < y))))
  | .leq => k none (.v (.bool (decide (x ≤ y))))
  | .gtr => k none (.v (.bool (decide (y < x))))
  | .geq => k none (.v (.bool (decide (y ≤ x))))
  | .and => k none (.v (.int kk (kk.wrap (BitVec.ofInt kk.bits x &&& BitVec.ofInt kk.bits y).toNat)))
  | .or => k none (.v (.int kk (kk.wrap (BitVec.ofInt kk.bits x ||| BitVec.ofInt kk.bits y).toNat)))
  | .xor => k none (.v (.int kk (kk.wrap (BitVec.ofInt kk.bits x ^^^ BitVec.ofInt kk.bits y).toNat)))
  | _ => False
theorem beq_dec (x y : Int) : (x == y) = decide (x = y) := by
  by_cases h : x = y <;> simp [h]
theorem binI_sound {wf : Bool} {op : BinOp} {kk : IntKind} {x y : Int} (h : binI wf op kk x y k) : ∃ φ v, k φ v ∧ (∀ nx, v.lt nx = true) ∧
    ∀ (ρ : Rho) t (W : World), optP φ → (binOp op t (.int kk x) (.int kk y)).run P W = .ok (den ρ v) W := by
  unfold binI at h
  split at h
  · obtain ⟨φ, v, h1, h2, h3⟩ := wrapK_sound h
    exact ⟨φ, v, h1, h2, fun ρ t W hφ => by simp [binOp, Op.intArith, h3 ρ hφ]⟩
  · obtain ⟨φ, v, h1, h2, h3⟩ := wrapK_sound h
    exact ⟨φ, v, h1, h2, fun ρ t W hφ => by simp [binOp, Op.intArith, h3 ρ hφ]⟩
  · obtain ⟨φ, v, h1, h2, h3⟩ := wrapK_sound h
    exact ⟨φ, v, h1, h2, fun ρ t W hφ => by simp [binOp, Op.intArith, h3 ρ hφ]⟩
  · unfold quoK at h
    split at h
    · refine ⟨_, _, h, fun _ => rfl, fun ρ t W hφ => ?_⟩
      simp only [optP] at hφ
      simp [binOp, Op.intDiv, hφ.1, den, IntWalk.i64_in _ hφ.2]
    · refine ⟨_, _, h, fun _ => rfl, fun ρ t W hφ => ?_⟩
      simp only [optP] at hφ
      simp [binOp, Op.intDiv, hφ, den]
  · refine ⟨_, _, h, fun _ => rfl, fun ρ t W hφ => ?_⟩
    simp only [optP] at hφ
    simp [binOp, Op.intDiv, hφ, den]
  · exact ⟨_, _, h, fun _ => rfl, fun ρ t W hφ => by simp [binOp, Op.intCmp, den, beq_dec]⟩
  · exact ⟨_, _, h, fun _ => rfl, fun ρ t W hφ => by simp [binOp, Op.intCmp, den, bne, beq_dec]⟩
  · exact ⟨_, _, h, fun _ => rfl, fun ρ t W hφ => by simp [binOp, Op.intCmp, den]⟩
  · exact ⟨_, _, h, fun _ => rfl, fun ρ t W hφ => by simp [binOp, Op.intCmp, den]⟩
  · exact ⟨_, _, h, fun _ => rfl, fun ρ t W hφ => by simp [binOp, Op.intCmp, den]⟩
  · exact ⟨_, _, h, fun _ => rfl, fun ρ t W hφ => by simp [binOp, Op.intCmp, den]⟩
  · exact ⟨_, _, h, fun _ => rfl, fun ρ t W hφ => by simp [binOp, Op.intBits, den]⟩
  · exact ⟨_, _, h, fun _ => rfl, fun ρ t W hφ => by simp [binOp, Op.intBits, den]⟩
  · exact ⟨_, _, h, fun _ => rfl, fun ρ t W hφ => by simp [binOp, Op.intBits, den]⟩
  · exact h.elim
/-- Shifts: the count's kind may differ. -/
def shiftI (op : BinOp) (kk : IntKind) (x y : Int) (k : Option Prop → SV → Prop) : Prop :=
  match op with
  | .shl => k (some (0 ≤ y)) (.v (.int kk (kk.wrap (x * 2 ^ (min y.toNat kk.bits)))))
  | .shr => k (some (0 ≤ y)) (.v (.int kk (x.fdiv (2 ^ (min y.toNat kk.bits)))))
  | _ => False
theorem shiftI_sound {op : BinOp} {kk k2 : IntKind} {x y : Int} (h : shiftI op kk x y k) : ∃ φ v, k φ v ∧ (∀ nx, v.lt nx = true) ∧
    ∀ (ρ : Rho) t (W : World), optP φ → (binOp op t (.int kk x) (.int k2 y)).run P W = .ok (den ρ v) W := by
  unfold shiftI at h
  split at h
  · refine ⟨_, _, h, fun _ => rfl, fun ρ t W hφ => ?_⟩
    simp only [optP] at hφ
    have : ¬ y < 0 := by omega
    simp [binOp, Op.shift, this, den]
  · refine ⟨_, _, h, fun _ => rfl, fun ρ t W hφ => ?_⟩
    simp only [optP] at hφ
    have : ¬ y < 0 := by omega
    simp [binOp, Op.shift, this, den]
  · exact h.elim
def isSh : BinOp → Bool
  | .shl => true
  | .shr => true
  | _ => false
def binS (op : BinOp) (x y : ByteArray) (k : Option Prop → SV → Prop) : Prop :=
  match op with
  | .add => k (some (x.size + y.size ≤ 9223372036854775807)) (.v (.string (x ++ y)))
  | .eql => k none (.v (.bool (x.toList == y.toList)))
  | .neq => k none (.v (.bool (!(x.toList == y.toList))))
  | .lss => k none (.v (.bool (Op.bytesLess x.toList y.toList)))
  | .leq => k none (.v (.bool (Op.bytesLess x.toList y.toList || x.toList == y.toList)))
  | .gtr => k none (.v (.bool (!(Op.bytesLess x.toList y.toList || x.toList == y.toList))))
  | .geq => k none (.v (.bool (!(Op.bytesLess x.toList y.toList))))
  | _ => False
theorem binS_sound {op : BinOp} {x y : ByteArray} (h : binS op x y k) : ∃ φ v, k φ v ∧ (∀ nx, v.lt nx = true) ∧
    ∀ (ρ : Rho) t (W : World), optP φ → (binOp op t (.string x) (.string y)).run P W = .ok (den ρ v) W := by
  unfold binS at h
  split at h
  · refine ⟨_, _, h, fun _ => rfl, fun ρ t W hφ => ?_⟩
    simp only [optP] at hφ
    have : ¬ (IntKind.max .i64 < (x.size : Int) + y.size) := by
      have : IntKind.max .i64 = 9223372036854775807 := by decide
      rw [this]; omega
    simp [binOp, Op.stringOp, this, den]
    omega
  · exact ⟨_, _, h, fun _ => rfl, fun ρ t W hφ => by simp [binOp, Op.stringOp, den]⟩
  · exact ⟨_, _, h, fun _ => rfl, fun ρ t W hφ => by simp [binOp, Op.stringOp, den]⟩
  · exact ⟨_, _, h, fun _ => rfl, fun ρ t W hφ => by simp [binOp, Op.stringOp, den]⟩
  · exact ⟨_, _, h, fun _ => rfl, fun ρ t W hφ => by simp [binOp, Op.stringOp, den]⟩
  · exact ⟨_, _, h, fun _ => rfl, fun ρ t W hφ => by simp [binOp, Op.stringOp, den]⟩
  · exact ⟨_, _, h, fun _ => rfl, fun ρ t W hφ => by simp [binOp, Op.stringOp, den]⟩
  · exact h.elim
end
end Go.Proofs.YtebfhljamoapjaaDoor
namespace Go.Proofs.YtebfhljamoapjaaDoor
open Go.RowKit
set_option linter.unusedVariables false
set_option linter.unusedSimpArgs false

section
variable {P : Program} {w : Ref} {T : Tab} {env : Env} {L : List Ob} {nx : Nat} {cur : Pth} {k : Option Prop → SV → Prop}

/-! == -/
def partV (T : Tab) (f : Field) (l : List SV) (k : SV → Prop) : Prop := tyK T f.type (fun tf => bif aggD tf.d then cutK l f.offset tf.size (fun r => k (.a r)) else nthK l f.offset (fun u => k u))
def eqF (T : Tab) (E : TypeId → SV → SV → (Bool → Prop) → Prop) : List Field → List SV → List SV → (Bool → Prop) → Prop
  | [], _, _, k => k true
  | f :: r, l1, l2, k => partV T f l1 (fun a => partV T f l2 (fun b => E f.type a b (fun c => eqF T E r l1 l2 (fun c' => k (c && c')))))
/-- The elements of an array as fields. -/
def arrFs (len : Nat) (el : TypeId) (n : Nat) : List Field := (List.range' 0 len).map (fun i => { name := "", type := el, offset := i * n, embedded := false, tag := "", pkgPath := "", byteOffset := 0 })
def eqV (T : Tab) : Nat → TypeId → SV → SV → (Bool → Prop) → Prop
  | 0, _, _, _, _ => False
  | fuel + 1, t, x, y, k => tyK T t (fun ti => match ti.d, x, y with
    | .bool, .v (.bool a), .v (.bool b) => k (a == b)
    | .int _, .v (.int k1 a), .v (.int k2 b) => bif Nat.beq (kb k1) (kb k2) then k (decide (a = b)) else False
    | .string, .v (.string a), .v (.string b) => k (a == b)
    | .struct fs, .a l1, .a l2 => bif ti.eqok then eqF T (eqV T fuel) fs.toList l1 l2 k else False
    | .array len el, .a l1, .a l2 => tyK T el (fun te => eqF T (eqV T fuel) (arrFs len el te.size) l1 l2 k)
    | _, _, _ => False)
theorem partV_sound {f : Field} {l : List SV} {k : SV → Prop} (hT : TabOk P T) (h : partV T f l k) : ∃ u, k u ∧ ∀ (ρ : Rho) (W : World), (part f.type (denL ρ l).toArray f.offset).run P W = .ok (den ρ u) W := by
  obtain ⟨tf, htf, h1⟩ := tyK_sound hT h
  cases hb : aggD tf.d with
  | true =>
    rw [hb] at h1
    obtain ⟨hle, h5⟩ := cutK_sound h1
    refine ⟨_, h5, fun ρ W => ?_⟩
    have u2 := htf.isAgg W
    rw [hb] at u2
    simp [part, u2, htf.sizeOf W, denL_cut, den]
  | false =>
    rw [hb] at h1
    obtain ⟨u, hu, h5⟩ := nthK_sound h1
    refine ⟨u, h5, fun ρ W => ?_⟩
    have u2 := htf.isAgg W
    rw [hb] at u2
    simp [part, u2, denL_map, hu]
theorem eqF_sound (hT : TabOk P T) {d : Nat} {E : TypeId → SV → SV → (Bool → Prop) → Prop}
    (hE : ∀ t x y k, E t x y k → ∃ c, k c ∧ ∀ (ρ : Rho) (W : World), (Op.equalIn d t (den ρ x) (den ρ y)).run P W = .ok c W) {l1 l2 : List SV} :
    ∀ (fl : List Field) (k : Bool → Prop), (∀ f ∈ fl, f.name ≠ "_") → eqF T E fl l1 l2 k → ∃ c, k c ∧ ∀ (ρ : Rho) (W : World),
      (forIn fl ((none, ()) : Option Bool × Unit) fun f __s =>
              if f.name = "_" then pure (ForInStep.yield (none, ()))
              else do
                let __do_lift ← part f.type (denL ρ l1).toArray f.offset
                let __do_lift_1 ← part f.type (denL ρ l2).toArray f.offset
                let __do_lift ← Op.equalIn d f.type __do_lift __do_lift_1
                if __do_lift = false then pure (ForInStep.done (some false, ())) else pure (ForInStep.yield (none, ())) : Sem _).run P W = .ok (if c then (none, ()) else (some false, ())) W
  | [], k, _, h => ⟨true, h, fun ρ W => by simp⟩
  | f :: r, k, hn, h => by
    obtain ⟨a, h1, ha⟩ := partV_sound (P := P) hT h
    obtain ⟨b, h2, hb⟩ := partV_sound (P := P) hT h1
    obtain ⟨c, h3, hc⟩ := hE _ _ _ _ h2
    obtain ⟨c', h4, hc'⟩ := eqF_sound hT hE r _ (fun f hf => hn f (List.mem_cons_of_mem _ hf)) h3
    refine ⟨_, h4, fun ρ W => ?_⟩
    have e := hc' ρ W
    have hn1 := hn f (List.mem_cons_self ..)
    cases c with
    | true => simp [List.forIn_cons, hn1, ha ρ W, hb ρ W, hc ρ W, e]
    | false => simp [List.forIn_cons, hn1, ha ρ W, hb ρ W, hc ρ W]
theorem eqV_sound (hT : TabOk P T) : ∀ (fuel d : Nat), fuel ≤ d → ∀ t x y k, eqV T fuel t x y k → ∃ c, k c ∧ ∀ (ρ : Rho) (W : World), (Op.equalIn d t (den ρ x) (den ρ y)).run P W = .ok c W := by
  intro fuel
  induction fuel with
  | zero => intro d _ t x y k h; exact h.elim
  | succ fuel ih =>
    intro d hd t x y k h
    obtain ⟨e, rfl⟩ : ∃ e, d = e + 1 := ⟨d - 1, by omega⟩
    obtain ⟨ti, hti, h1⟩ := tyK_sound hT h
    clear h
    split at h1
    · rename_i hd1
      refine ⟨_, h1, fun ρ W => ?_⟩
      have u := hti.under W
      rw [hd1] at u
      rw [Op.equalIn]
      simp [u, den]
    · rename_i hd1
      rename_i k1 a k2 b
      cases hb : Nat.beq (kb k1) (kb k2) with
      | false => rw [hb] at h1; exact h1.elim
      | true =>
        rw [hb] at h1
        obtain rfl := kb_eq hb
        refine ⟨_, h1, fun ρ W => ?_⟩
        have u := hti.under W
        rw [hd1] at u
        rw [Op.equalIn]
        simp [u, den, beq_dec]
    · rename_i hd1
      refine ⟨_, h1, fun ρ W => ?_⟩
      have u := hti.under W
      rw [hd1] at u
      rw [Op.equalIn]
      simp [u, den]
    · rename_i fs l1 l2 hd1
      cases hb : ti.eqok with
      | false => rw [hb] at h1; exact h1.elim
      | true =>
        rw [hb] at h1
        obtain ⟨_, _, _, _, _, _, hq⟩ := hti
        obtain ⟨q1, q2, q3⟩ := hq hb
        obtain ⟨c, h2, hc⟩ := eqF_sound hT (ih e (by omega)) fs.toList _ (q3 fs hd1) h1
        refine ⟨c, h2, fun ρ W => ?_⟩
        have u : (underlying t).run P W = .ok (.struct fs) W := by simp [underlying, *]
        have e1 := hc ρ W
        rw [Op.equalIn]
        simp only [den]
        simp [u, q1]
        rw [← Array.forIn_toList, e1]
        cases c <;> simp
    · rename_i len el l1 l2 hd1
      obtain ⟨te, hte, h2⟩ := tyK_sound hT h1
      obtain ⟨c, h3, hc⟩ := eqF_sound hT (ih e (by omega)) (arrFs len el te.size) _ (by
        intro f hf
        unfold arrFs at hf
        obtain ⟨i, _, rfl⟩ := List.mem_map.1 hf
        show ("" : String) ≠ "_"
        decide) h2
      refine ⟨c, h3, fun ρ W => ?_⟩
      have u := hti.under W
      rw [hd1] at u
      have e1 := hc ρ W

      rw [Op.equalIn]
      simp only [den]
      simp [u, hte.sizeOf W]
      unfold arrFs at e1
      rw [List.forIn_map] at e1
      simp only [if_neg (show ¬ ("" : String) = "_" by decide)] at e1
      rw [e1]
      cases c <;> simp
    · exact h1.elim

/-! binOp, unOp -/
def eqOp (op : BinOp) (c : Bool) (k : Option Prop → SV → Prop) : Prop :=
  match op with
  | .eql => k none (.v (.bool c))
  | .neq => k none (.v (.bool (!c)))
  | _ => False
def binK (T : Tab) (env : Env) (L : List Ob) (cur : Pth) (op : BinOp) (t : TypeId) (x y : Operand) (k : Option Prop → SV → Prop) : Prop :=
  evK env cur x (fun vx => evK env cur y (fun vy =>
    match vx, vy with
    | .v (.int k1 a), .v (.int k2 b) => bif isSh op then shiftI op k1 a b k else (bif Nat.beq (kb k1) (kb k2) then binI (wfl T) op k1 a b k else False)
    | .v (.string a), .v (.string b) => binS op a b k
    | .v (.bool a), .v (.bool b) => eqV T 1 t (.v (.bool a)) (.v (.bool b)) (fun c => eqOp op c k)
    | .v (.slice A n c), .v (.slice none n2 c2) => tyK T t (fun ti => match ti.d with
      | .slice _ => eqOp op A.isNone k
      | _ => False)
    | .a l1, .a l2 => tyK T t (fun ti => bif ti.eqok then eqV T 4 t (.a l1) (.a l2) (fun c => eqOp op c k) else False)
    | .p n _, .v (.pointer none) => tyK T t (fun ti => match ti.d with
      | .pointer _ => obK L n (fun o => match o.own, o.c with
        | true, .cs (_ :: _) => eqOp op false k
        | _, _ => False)
      | _ => False)
    | .v (.pointer none), .v (.pointer none) => tyK T t (fun ti => match ti.d with
      | .pointer _ => eqOp op true k
      | _ => False)
    | _, _ => False))
theorem eqOp_sound {op : BinOp} {c : Bool} (h : eqOp op c k) : ∃ v, k none v ∧ (∀ nx, v.lt nx = true) ∧
    ∀ (ρ : Rho) t (W : World) (x y : Value), (∀ kk z, x ≠ .int kk z) → (∀ z, x ≠ .string z) → (∀ kk z, x ≠ .float kk z) → (∀ kk r z, x ≠ .complex kk r z) → (Op.equal t x y).run P W = .ok c W → (binOp op t x y).run P W = .ok (den ρ v) W := by
  unfold eqOp at h
  split at h
  · refine ⟨_, h, fun _ => rfl, fun ρ t W x y h1 h2 h3 h4 he => ?_⟩
    cases x <;> first | exact absurd rfl (h1 _ _) | exact absurd rfl (h2 _) | exact absurd rfl (h3 _ _) | exact absurd rfl (h4 _ _ _) | simp [binOp, he, den]
  · refine ⟨_, h, fun _ => rfl, fun ρ t W x y h1 h2 h3 h4 he => ?_⟩
    cases x <;> first | exact absurd rfl (h1 _ _) | exact absurd rfl (h2 _) | exact absurd rfl (h3 _ _) | exact absurd rfl (h4 _ _ _) | simp [binOp, he, den]
  · exact h.elim
theorem binK_sound {op : BinOp} {t t' : TypeId} {x y : Operand} (hT : TabOk P T) (h : binK T env L cur op t x y k) : ∃ φ v, QOk P w env L nx cur (.binOp op t x y t') φ v ∧ k φ v := by
  obtain ⟨vx, h1, hx⟩ := evK_sound h
  obtain ⟨vy, h2, hy⟩ := evK_sound h1
  clear h h1
  split at h2
  · rename_i k1 a k2 b
    cases hsh : isSh op with
    | true =>
      rw [hsh] at h2
      obtain ⟨φ, v, h3, h4, h5⟩ := shiftI_sound (P := P) (k2 := k2) h2
      refine ⟨φ, v, fun ρ G ac W hf hc _ hφ => ⟨h4 nx, fun o ho => ?_⟩, h3⟩
      have e1 := (hx ρ G nx ac hf hc).1
      have e2 := (hy ρ G nx ac hf hc).1
      have e3 := h5 ρ t W hφ
      simp [execOp, ho, e1, e2, den, eqGuard, e3]
    | false =>
    rw [hsh] at h2
    simp only [cond_false] at h2
    cases hb : Nat.beq (kb k1) (kb k2) with
    | false => rw [hb] at h2; exact h2.elim
    | true =>
      rw [hb] at h2
      obtain rfl := kb_eq hb
      obtain ⟨φ, v, h3, h4, h5⟩ := binI_sound (P := P) h2
      refine ⟨φ, v, fun ρ G ac W hf hc _ hφ => ⟨h4 nx, fun o ho => ?_⟩, h3⟩
      have e1 := (hx ρ G nx ac hf hc).1
      have e2 := (hy ρ G nx ac hf hc).1
      have e3 := h5 ρ t W hφ
      simp [execOp, ho, e1, e2, den, eqGuard, e3]
  · rename_i a b
    obtain ⟨φ, v, h3, h4, h5⟩ := binS_sound (P := P) h2
    refine ⟨φ, v, fun ρ G ac W hf hc _ hφ => ⟨h4 nx, fun o ho => ?_⟩, h3⟩
    have e1 := (hx ρ G nx ac hf hc).1
    have e2 := (hy ρ G nx ac hf hc).1
    have e3 := h5 ρ t W hφ
    simp [execOp, ho, e1, e2, den, eqGuard, e3]
  · rename_i a b
    obtain ⟨c, h3, hc3⟩ := eqV_sound (P := P) hT 1 Op.maxDepth (by decide) _ _ _ _ h2
    obtain ⟨v, h4, h5, h6⟩ := eqOp_sound (P := P) h3
    refine ⟨_, _, fun ρ G ac W hf hc _ hφ => ⟨h5 nx, fun o ho => ?_⟩, h4⟩
    have e1 := (hx ρ G nx ac hf hc).1
    have e2 := (hy ρ G nx ac hf hc).1
    have e3 := h6 ρ t W (.bool a) (.bool b) (by simp) (by simp) (by simp) (by simp) (by have := hc3 ρ W; simpa [den, Op.equal] using this)
    simp [execOp, ho, e1, e2, den, eqGuard, e3]
  · rename_i A n c n2 c2
    obtain ⟨ti, hti, h3⟩ := tyK_sound hT h2
    split at h3
    · rename_i el hd
      obtain ⟨v, h4, h5, h6⟩ := eqOp_sound (P := P) h3
      refine ⟨_, _, fun ρ G ac W hf hc _ hφ => ⟨h5 nx, fun o ho => ?_⟩, h4⟩
      have e1 := (hx ρ G nx ac hf hc).1
      have e2 := (hy ρ G nx ac hf hc).1
      have u := hti.under W
      rw [hd] at u
      have e3 := h6 ρ t W (.slice A n c) (.slice none n2 c2) (by simp) (by simp) (by simp) (by simp) (by
        obtain ⟨d, hd2⟩ : ∃ d, Op.maxDepth = d + 1 := ⟨_, rfl⟩
        unfold Op.equal
        rw [hd2]
        unfold Op.equalIn
        cases A <;> simp [u])
      simp [execOp, ho, e1, e2, den, eqGuard, e3]
    · exact h3.elim
  · rename_i l1 l2
    obtain ⟨ti, hti, h3⟩ := tyK_sound hT h2
    cases hb : ti.eqok with
    | false => rw [hb] at h3; exact h3.elim
    | true =>
      rw [hb] at h3
      simp only [cond_true] at h3
      obtain ⟨c, h3, hc3⟩ := eqV_sound (P := P) hT 4 Op.maxDepth (by decide) _ _ _ _ h3
      obtain ⟨v, h4, h5, h6⟩ := eqOp_sound (P := P) h3
      refine ⟨_, _, fun ρ G ac W hf hc _ hφ => ⟨h5 nx, fun o ho => ?_⟩, h4⟩
      have e1 := (hx ρ G nx ac hf hc).1
      have e2 := (hy ρ G nx ac hf hc).1
      obtain ⟨_, _, _, _, _, _, hq⟩ := hti
      obtain ⟨_, q2, _⟩ := hq hb
      have e3 := h6 ρ t W (.agg (denL ρ l1).toArray) (.agg (denL ρ l2).toArray) (by simp) (by simp) (by simp) (by simp) (by have := hc3 ρ W; simpa [den, Op.equal] using this)
      simp [execOp, ho, e1, e2, den, eqGuard, q2, e3]
  · rename_i n off
    obtain ⟨ti, hti, h3⟩ := tyK_sound hT h2
    split at h3
    · rename_i el hd
      obtain ⟨ob, hmem, hnn, h3⟩ := obK_sound h3
      split at h3
      · rename_i c0 cr how hoc
        obtain ⟨v, h4, h5, h6⟩ := eqOp_sound (P := P) h3
        refine ⟨_, _, fun ρ G ac W hf hc hp hφ => ⟨h5 nx, fun o ho => ?_⟩, h4⟩
        have e1 := (hx ρ G nx ac hf hc).1
        have e2 := (hy ρ G nx ac hf hc).1
        have u := hti.under W
        rw [hd] at u
        have hob := hp.obj _ hmem
        unfold ObOk at hob
        rw [if_pos how] at hob
        rcases hob with ⟨_, hc0, _⟩ | ⟨g, junk, hg, _⟩
        · rw [hoc] at hc0
          simp [Ct.cells, denL] at hc0
        · rw [hnn] at hg
          have e3 := h6 ρ t W (den ρ (.p n off)) (.pointer none) (by simp [den, hg]) (by simp [den, hg]) (by simp [den, hg]) (by simp [den, hg]) (by
            obtain ⟨d, hd2⟩ : ∃ d, Op.maxDepth = d + 1 := ⟨_, rfl⟩
            unfold Op.equal
            rw [hd2]
            unfold Op.equalIn
            simp [den, hg, u])
          simp only [den, hg, Option.getD_some] at e1 e3
          simp [execOp, ho, e1, e2, den, eqGuard, e3]
      · exact h3.elim
    · exact h3.elim
  · obtain ⟨ti, hti, h3⟩ := tyK_sound hT h2
    split at h3
    · rename_i el hd
      obtain ⟨v, h4, h5, h6⟩ := eqOp_sound (P := P) h3
      refine ⟨_, _, fun ρ G ac W hf hc _ hφ => ⟨h5 nx, fun o ho => ?_⟩, h4⟩
      have e1 := (hx ρ G nx ac hf hc).1
      have e2 := (hy ρ G nx ac hf hc).1
      have u := hti.under W
      rw [hd] at u
      have e3 := h6 ρ t W (.pointer none) (.pointer none) (by simp) (by simp) (by simp) (by simp) (by
        obtain ⟨d, hd2⟩ : ∃ d, Op.maxDepth = d + 1 := ⟨_, rfl⟩
        unfold Op.equal
        rw [hd2]
        unfold Op.equalIn
        simp [u])
      simp [execOp, ho, e1, e2, den, eqGuard, e3]
    · exact h3.elim
  · exact h2.elim
def unK (T : Tab) (env : Env) (cur : Pth) (op : UnOp) (x : Operand) (k : Option Prop → SV → Prop) : Prop :=
  evK env cur x (fun vx => match op, vx with
    | .neg, .v (.int kk n) => wrapK (wfl T) kk (-n) k
    | .not, .v (.bool b) => k none (.v (.bool (!b)))
    | _, _ => False)
theorem unK_sound {op : UnOp} {t : TypeId} {x : Operand} (h : unK T env cur op x k) : ∃ φ v, QOk P w env L nx cur (.unOp op t x) φ v ∧ k φ v := by
  obtain ⟨vx, h1, hx⟩ := evK_sound h
  clear h
  split at h1
  · rename_i kk n
    obtain ⟨φ, v, h3, h4, h5⟩ := wrapK_sound h1
    refine ⟨φ, v, fun ρ G ac W hf hc _ hφ => ⟨h4 nx, fun o ho => ?_⟩, h3⟩
    have e1 := (hx ρ G nx ac hf hc).1
    simp [execOp, ho, e1, den, Op.unary, Op.intArith, h5 ρ hφ]
  · refine ⟨_, _, fun ρ G ac W hf hc _ hφ => ⟨rfl, fun o ho => ?_⟩, h1⟩
    have e1 := (hx ρ G nx ac hf hc).1
    simp [execOp, ho, e1, den, Op.unary]
  · exact h1.elim

end
end Go.Proofs.YtebfhljamoapjaaDoor
namespace Go.Proofs.YtebfhljamoapjaaDoor
open Go.RowKit
set_option linter.unusedVariables false
set_option linter.unusedSimpArgs false

section
variable {P : Program} {w : Ref} {T : Tab} {env : Env} {L : List Ob} {nx : Nat} {cur : Pth} {k : Option Prop → SV → Prop}

/-! indexAddr -/
def elemN (c : Ct) (size : Nat) (i : Nat) : Prop :=
  match c with
  | .cs l => (i + 1) * size ≤ l.length
  | .rows _ _ xs => i < xs.length
def rowsB (c : Ct) (size : Nat) : Bool :=
  match c with
  | .cs _ => Nat.blt 0 size
  | .rows _ R _ => Nat.beq R.cols.length size && Nat.blt 0 size
/-- Object n is known by rows of this size. -/
def arrB : List Ob → Nat → Nat → Bool
  | [], _, _ => false
  | ⟨n', _, _, _, _, c⟩ :: r, n, size => bif Nat.beq n' n then (match c with | .rows _ R _ => Nat.beq R.cols.length size | .cs _ => false) else arrB r n size
def idxK (T : Tab) (L : List Ob) (d : TypeDesc) (v : SV) (z : Int) (k : Option Prop → SV → Prop) : Prop :=
  match d, v with
  | .slice el, .s n size len _ => tyK T el (fun te => bif Nat.beq te.size size then obK L n (fun o => bif rowsB o.c size then k (some (0 ≤ z ∧ z < len ∧ elemN o.c size z.toNat)) (.e n size z.toNat 0) else False) else False)
  | .slice el, .so n size eo len _ => tyK T el (fun te => bif Nat.beq te.size size then obK L n (fun o => bif rowsB o.c size then k (some (0 ≤ z ∧ z < len ∧ elemN o.c size (eo + z.toNat))) (.e n size (eo + z.toNat) 0) else False) else False)
  | .array len el, .p n off => tyK T el (fun te => bif Nat.beq off 0 && arrB L n te.size then k (some (0 ≤ z ∧ z < len)) (.e n te.size z.toNat 0) else k (some (0 ≤ z ∧ z < len)) (.p n (off + z.toNat * te.size)))
  | _, _ => False
def indexAddrK (T : Tab) (env : Env) (L : List Ob) (cur : Pth) (t : TypeId) (x i : Operand) (k : Option Prop → SV → Prop) : Prop :=
  tyK T t (fun ti => evK env cur x (fun v => evK env cur i (fun vi => asI vi (fun kk z => idxK T L ti.d v z k))))
theorem ObOk.some_of {B : Nat} {ρ : Rho} {o : Ob} {W : World} (h : ObOk B ρ o W) {size i : Nat} (hb : rowsB o.c size = true) (hl : elemN o.c size i) : ∃ b off, ρ o.n = some ⟨b, off, none⟩ := by
  have hne : 0 < (o.c.cells ρ).length := by
    cases hc : o.c with
    | cs l =>
      rw [hc] at hl hb
      simp only [elemN, rowsB, blt_iff] at hl hb
      simp only [Ct.cells, denL_map, List.length_map]
      have := Nat.mul_le_mul_right size (show 1 ≤ i + 1 by omega)
      omega
    | rows α R xs =>
      rw [hc] at hl hb
      simp only [elemN, rowsB, Bool.and_eq_true, blt_iff] at hl hb
      have hs := Nat.eq_of_beq_eq_true hb.1
      have := flat_cut R.cols R.d xs i 0 R.cols.length hl (by omega)
      simp only [Ct.cells]
      omega
  cases hc : o.c.cells ρ with
  | nil => rw [hc] at hne; simp at hne
  | cons x r =>
    obtain ⟨b, off, h1, _⟩ := h.cell (j := 0) (u := x) (by rw [hc]; rfl)
    exact ⟨b, off, h1⟩
theorem indexAddrK_sound {t : TypeId} {x i : Operand} (hT : TabOk P T) (h : indexAddrK T env L cur t x i k) : ∃ φ v, QOk P w env L nx cur (.indexAddr t x i) φ v ∧ k φ v := by
  obtain ⟨ti, hti, h1⟩ := tyK_sound hT h
  obtain ⟨v, h2, hx⟩ := evK_sound h1
  obtain ⟨vi, h3, hi⟩ := evK_sound h2
  obtain ⟨kk, z, rfl, h4⟩ := asI_sound h3
  clear h h1 h2 h3
  unfold idxK at h4
  split at h4
  · rename_i el n size len cp hd
    obtain ⟨te, hte, h5⟩ := tyK_sound hT h4
    cases hb : Nat.beq te.size size with
    | false => rw [hb] at h5; exact h5.elim
    | true =>
      rw [hb] at h5
      obtain rfl := Nat.eq_of_beq_eq_true hb
      obtain ⟨o, ho, rfl, h6⟩ := obK_sound h5
      cases hr : rowsB o.c te.size with
      | false => rw [hr] at h6; exact h6.elim
      | true =>
        rw [hr] at h6
        refine ⟨_, _, fun ρ G a W hf hc hp hφ => ⟨by simpa [SV.lt, blt_iff] using (hp.lt o ho).1, fun op hop => ?_⟩, h6⟩
        obtain ⟨p1, p2, p3⟩ := hφ
        obtain ⟨b, off, hs⟩ := (hp.obj o ho).some_of hr p3
        have e1 := (hx ρ G nx a hf hc).1
        have e2 := (hi ρ G nx a hf hc).1
        have u := hti.under W
        rw [hd] at u
        simp [execOp, hop, e1, e2, den, Instr.indexAt, asIntOf, u, hs, p1, p2, hte.sizeOf W, add_none]
  · rename_i el n size eo len cp hd
    obtain ⟨te, hte, h5⟩ := tyK_sound hT h4
    cases hb : Nat.beq te.size size with
    | false => rw [hb] at h5; exact h5.elim
    | true =>
      rw [hb] at h5
      obtain rfl := Nat.eq_of_beq_eq_true hb
      obtain ⟨o, ho, rfl, h6⟩ := obK_sound h5
      cases hr : rowsB o.c te.size with
      | false => rw [hr] at h6; exact h6.elim
      | true =>
        rw [hr] at h6
        refine ⟨_, _, fun ρ G a W hf hc hp hφ => ⟨by simpa [SV.lt, blt_iff] using (hp.lt o ho).1, fun op hop => ?_⟩, h6⟩
        obtain ⟨p1, p2, p3⟩ := hφ
        obtain ⟨b, off, hs⟩ := (hp.obj o ho).some_of hr p3
        have e1 := (hx ρ G nx a hf hc).1
        have e2 := (hi ρ G nx a hf hc).1
        have u := hti.under W
        rw [hd] at u
        simp [execOp, hop, e1, e2, den, Instr.indexAt, asIntOf, u, hs, p1, p2, hte.sizeOf W, add_none, Nat.add_mul, Nat.add_assoc]
  · rename_i len el n off hd
    obtain ⟨te, hte, h5⟩ := tyK_sound hT h4
    cases hb : (Nat.beq off 0 && arrB L n te.size) with
    | false =>
      rw [hb] at h5
      refine ⟨_, _, fun ρ G a W hf hc hp hφ => ⟨by simpa [SV.lt] using (hx ρ G nx a hf hc).2, fun op hop => ?_⟩, h5⟩
      obtain ⟨p1, p2⟩ := hφ
      have e1 := (hx ρ G nx a hf hc).1
      have e2 := (hi ρ G nx a hf hc).1
      have u := hti.under W
      rw [hd] at u
      simp [execOp, hop, e1, e2, den, Instr.indexAt, asIntOf, u, Instr.sureAddr, p1, p2, hte.sizeOf W, add_add]
    | true =>
      rw [hb] at h5
      simp only [Bool.and_eq_true] at hb
      obtain rfl := Nat.eq_of_beq_eq_true hb.1
      refine ⟨_, _, fun ρ G a W hf hc hp hφ => ⟨by simpa [SV.lt] using (hx ρ G nx a hf hc).2, fun op hop => ?_⟩, h5⟩
      obtain ⟨p1, p2⟩ := hφ
      have e1 := (hx ρ G nx a hf hc).1
      have e2 := (hi ρ G nx a hf hc).1
      have u := hti.under W
      rw [hd] at u
      simp [execOp, hop, e1, e2, den, Instr.indexAt, asIntOf, u, Instr.sureAddr, p1, p2, hte.sizeOf W, add_add]
  · exact h4.elim

/-! builtins -/
def lenV (d : TypeDesc) (v : SV) (k : Option Prop → SV → Prop) : Prop :=
  match d, v with
  | .slice _, .s _ _ len _ => k none (.v (.int .i64 (len : Int)))
  | .slice _, .so _ _ _ len _ => k none (.v (.int .i64 (len : Int)))
  | .slice _, .v (.slice _ len _) => k none (.v (.int .i64 (len : Int)))
  | .string, .v (.string s) => k none (.v (.int .i64 (s.size : Int)))
  | _, _ => False
def mm (b : Bool) (acc : Int) : List SV → (Int → Prop) → Prop
  | [], k => k acc
  | .v (.int .i64 y) :: r, k => bif b then mm b (max acc y) r k else mm b (min acc y) r k
  | _ :: _, _ => False
def evsK (env : Env) (cur : Pth) : List Operand → (List SV → Prop) → Prop
  | [], k => k []
  | x :: r, k => evK env cur x (fun v => evsK env cur r (fun l => k (v :: l)))
theorem evsK_sound {l : List Operand} : ∀ {k : List SV → Prop}, evsK env cur l k → ∃ vs, k vs ∧ ∀ ρ G nx a, Fk ρ G env nx a → holdsB G cur = true → l.map a.eval = denL ρ vs ∧ ltL nx vs = true := by
  induction l with
  | nil => intro k h; exact ⟨[], h, fun _ _ _ _ _ _ => ⟨by simp [denL], by simp [ltL]⟩⟩
  | cons x r ih =>
    intro k h
    obtain ⟨v, h1, hv⟩ := evK_sound h
    obtain ⟨vs, h2, hvs⟩ := ih h1
    refine ⟨_, h2, fun ρ G nx a hf hc => ?_⟩
    have e1 := hv ρ G nx a hf hc
    have e2 := hvs ρ G nx a hf hc
    exact ⟨by simp [denL, e1.1, e2.1], by simp [ltL, e1.2, e2.2]⟩
def biK (T : Tab) (env : Env) (cur : Pth) (b : Builtin) (args : List Operand) (ts : List TypeId) (k : Option Prop → SV → Prop) : Prop :=
  match b, args, ts with
  | .len, [x], [t] => tyK T t (fun ti => evK env cur x (fun v => lenV ti.d v k))
  | .max, args, _ => evsK env cur args (fun vs => match vs with
    | .v (.int .i64 x) :: r => mm true x r (fun z => k none (.v (.int .i64 z)))
    | _ => False)
  | .min, args, _ => evsK env cur args (fun vs => match vs with
    | .v (.int .i64 x) :: r => mm false x r (fun z => k none (.v (.int .i64 z)))
    | _ => False)
  | _, _, _ => False
theorem mm_max {P : Program} : ∀ {l : List SV} {acc : Int} {k : Int → Prop}, mm true acc l k → ∃ z, k z ∧ ∀ (ρ : Rho) (W : World), ((denL ρ l).foldlM Builtin.max2 (.int .i64 acc)).run P W = .ok (.int .i64 z) W
  | [], acc, k, h => ⟨acc, h, fun ρ W => by simp [denL]⟩
  | x :: r, acc, k, h => by
    unfold mm at h
    split at h
    · exact ⟨_, h, fun ρ W => by simp_all⟩
    · rename_i y r' heq
      simp only [List.cons.injEq] at heq
      obtain ⟨rfl, rfl⟩ := heq
      obtain ⟨z, h1, h2⟩ := mm_max h
      refine ⟨z, h1, fun ρ W => ?_⟩
      have := h2 ρ W
      have e : (if acc < y then y else acc) = max acc y := by rw [Int.max_def]; split <;> split <;> omega
      simp [denL, den, Builtin.max2, e]
      exact this
    · exact h.elim
theorem mm_min {P : Program} : ∀ {l : List SV} {acc : Int} {k : Int → Prop}, mm false acc l k → ∃ z, k z ∧ ∀ (ρ : Rho) (W : World), ((denL ρ l).foldlM Builtin.min2 (.int .i64 acc)).run P W = .ok (.int .i64 z) W
  | [], acc, k, h => ⟨acc, h, fun ρ W => by simp [denL]⟩
  | x :: r, acc, k, h => by
    unfold mm at h
    split at h
    · exact ⟨_, h, fun ρ W => by simp_all⟩
    · rename_i y r' heq
      simp only [List.cons.injEq] at heq
      obtain ⟨rfl, rfl⟩ := heq
      obtain ⟨z, h1, h2⟩ := mm_min h
      refine ⟨z, h1, fun ρ W => ?_⟩
      have := h2 ρ W
      have e : (if y < acc then y else acc) = min acc y := by rw [Int.min_def]; split <;> split <;> omega
      simp [denL, den, Builtin.min2, e]
      exact this
    · exact h.elim
theorem biK_sound {b : Builtin} {args : Array Operand} {ts : Array TypeId} (hT : TabOk P T) (h : biK T env cur b args.toList ts.toList k) :
    ∃ φ v, QOk P w env L nx cur (.call { callee := .builtin b, args := args, argTypes := ts }) φ v ∧ k φ v := by
  obtain ⟨args, rfl⟩ : ∃ l : List Operand, args = l.toArray := ⟨args.toList, by simp⟩
  obtain ⟨ts, rfl⟩ : ∃ l : List TypeId, ts = l.toArray := ⟨ts.toList, by simp⟩
  simp only at h
  unfold biK at h
  split at h
  · rename_i x t _
    obtain ⟨ti, hti, h1⟩ := tyK_sound hT h
    obtain ⟨v, h2, hx⟩ := evK_sound h1
    clear h h1
    unfold lenV at h2
    split at h2
    all_goals try exact h2.elim
    all_goals
      rename_i hd
      refine ⟨_, _, fun ρ G a W hf hc _ hφ => ⟨rfl, fun o ho => ?_⟩, h2⟩
      have e1 := (hx ρ G nx a hf hc).1
      have u := hti.under W
      rw [hd] at u
      simp [execOp, ho, resolve, invoke, builtin, Builtin.len_, e1, u, den, goInt]
  · rename_i args' _
    obtain ⟨vs, h1, hv⟩ := evsK_sound h
    clear h
    split at h1
    · rename_i x r
      obtain ⟨z, h2, h3⟩ := mm_max (P := P) h1
      refine ⟨_, _, fun ρ G a W hf hc _ hφ => ⟨rfl, fun o ho => ?_⟩, h2⟩
      have e1 := (hv ρ G nx a hf hc).1
      have e2 := h3 ρ W
      simp only [denL, den] at e1
      simp [execOp, ho, resolve, invoke, builtin, Builtin.max_, e1]
      rw [e2]
      simp [den]
    · exact h1.elim
  · rename_i args' _
    obtain ⟨vs, h1, hv⟩ := evsK_sound h
    clear h
    split at h1
    · rename_i x r
      obtain ⟨z, h2, h3⟩ := mm_min (P := P) h1
      refine ⟨_, _, fun ρ G a W hf hc _ hφ => ⟨rfl, fun o ho => ?_⟩, h2⟩
      have e1 := (hv ρ G nx a hf hc).1
      have e2 := h3 ρ W
      simp only [denL, den] at e1
      simp [execOp, ho, resolve, invoke, builtin, Builtin.min_, e1]
      rw [e2]
      simp [den]
    · exact h1.elim
  · exact h.elim

/-! slice -/
def sOff (eo m l : Nat) : Nat := if m = l then eo else eo + l
def optK (env : Env) (cur : Pth) : Option Operand → (Option Int → Prop) → Prop
  | none, k => k none
  | some x, k => evK env cur x (fun v => asI v (fun _ z => k (some z)))
theorem optK_sound {x : Option Operand} {k : Option Int → Prop} (h : optK env cur x k) : ∃ z, k z ∧ ∀ ρ G nx a, Fk ρ G env nx a → holdsB G cur = true → ∃ kk, x.map a.eval = z.map (fun z => .int kk z) := by
  cases x with
  | none => exact ⟨none, h, fun _ _ _ _ _ _ => ⟨.i64, rfl⟩⟩
  | some x =>
    obtain ⟨v, h1, hv⟩ := evK_sound h
    obtain ⟨kk, z, rfl, h2⟩ := asI_sound h1
    exact ⟨some z, h2, fun ρ G nx a hf hc => ⟨kk, by simp [(hv ρ G nx a hf hc).1, den]⟩⟩
/-- Where a slice lies: its object, the size of an element, its first element, length and capacity. -/
def asS (v : SV) (k : Nat → Nat → Option Nat → Nat → Nat → Prop) : Prop :=
  match v with
  | .s n size len cap => k n size none len cap
  | .so n size eo len cap => k n size (some eo) len cap
  | _ => False
def slV (n size : Nat) (eo : Option Nat) (len cap : Nat) : SV :=
  match eo with
  | none => .s n size len cap
  | some e => .so n size e len cap
theorem asS_sound {v : SV} {k : Nat → Nat → Option Nat → Nat → Nat → Prop} (h : asS v k) : ∃ n size eo len cap, v = slV n size eo len cap ∧ k n size eo len cap := by
  unfold asS at h
  split at h
  · exact ⟨_, _, _, _, _, rfl, h⟩
  · exact ⟨_, _, _, _, _, rfl, h⟩
  · exact h.elim
theorem den_slV (ρ : Rho) (n size : Nat) (eo : Option Nat) (len cap : Nat) : den ρ (slV n size eo len cap) = .slice ((ρ n).map (·.add (eo.getD 0 * size))) len cap := by
  cases eo with
  | none => cases h : ρ n <;> simp [slV, den, Addr.add, h]
  | some e => simp [slV, den]
def sliceV (n size : Nat) (eo : Option Nat) (len cap : Nat) (lo hi : Option Int) (mx : Option Int) (k : Option Prop → SV → Prop) : Prop :=
  match lo, hi, mx with
  | none, some h, none => k (some (0 ≤ h ∧ h ≤ cap)) (slV n size eo h.toNat cap)
  | some l, none, none => k (some (0 ≤ l ∧ l ≤ len ∧ len ≤ cap)) (.so n size (sOff (eo.getD 0) cap l.toNat) (len - l.toNat) (cap - l.toNat))
  | some l, some h, none => k (some (0 ≤ l ∧ l ≤ h ∧ h ≤ cap)) (.so n size (sOff (eo.getD 0) cap l.toNat) (h.toNat - l.toNat) (cap - l.toNat))
  | none, some h, some m => k (some (0 ≤ h ∧ h ≤ m ∧ m ≤ cap)) (slV n size eo h.toNat m.toNat)
  | _, _, _ => False
def slK (d : TypeDesc) (T : Tab) (L : List Ob) (v : SV) (lo hi mx : Option Int) (k : Option Prop → SV → Prop) : Prop :=
  match d, v with
  | .slice el, v => tyK T el (fun te => asS v (fun n size eo len cap => bif Nat.beq te.size size then sliceV n size eo len cap lo hi mx k else False))
  | .string, .v (.string s) => (match lo, hi, mx with
    | none, some h, none => k (some (0 ≤ h ∧ h ≤ s.size)) (.v (.string (s.extract 0 h.toNat)))
    | some l, none, none => k (some (0 ≤ l ∧ l ≤ s.size)) (.v (.string (s.extract l.toNat s.size)))
    | some l, some h, none => k (some (0 ≤ l ∧ l ≤ h ∧ h ≤ s.size)) (.v (.string (s.extract l.toNat h.toNat)))
    | _, _, _ => False)
  | .array len el, .p n off => (match lo, hi, mx with
    | some l, none, none => tyK T el (fun te => bif Nat.beq off 0 then obK L n (fun o => bif rowsB o.c te.size then k (some (0 ≤ l ∧ l ≤ len ∧ elemN o.c te.size 0)) (.so n te.size (sOff 0 len l.toNat) (len - l.toNat) (len - l.toNat)) else False) else False)
    | _, _, _ => False)
  | _, _ => False
def sliceK (T : Tab) (L : List Ob) (env : Env) (cur : Pth) (t : TypeId) (x : Operand) (lo hi mx : Option Operand) (k : Option Prop → SV → Prop) : Prop :=
  tyK T t (fun ti => evK env cur x (fun v => optK env cur lo (fun lo => optK env cur hi (fun hi => optK env cur mx (fun mx => slK ti.d T L v lo hi mx k)))))
theorem sliceK_sound {t : TypeId} {x : Operand} {lo hi mx : Option Operand} (hT : TabOk P T) (h : sliceK T L env cur t x lo hi mx k) : ∃ φ v, QOk P w env L nx cur (.slice t x lo hi mx) φ v ∧ k φ v := by
  obtain ⟨ti, hti, h1⟩ := tyK_sound hT h
  obtain ⟨v, h2, hx⟩ := evK_sound h1
  obtain ⟨zl, h3, hl⟩ := optK_sound h2
  obtain ⟨zh, h4, hh⟩ := optK_sound h3
  obtain ⟨zm, h5, hm⟩ := optK_sound h4
  clear h h1 h2 h3 h4
  unfold slK at h5
  split at h5
  · rename_i el hd
    obtain ⟨te, hte, h6⟩ := tyK_sound hT h5
    obtain ⟨n, size, eo, len, cap, rfl, h7⟩ := asS_sound h6
    clear h5 h6
    cases hb : Nat.beq te.size size with
    | false => rw [hb] at h7; exact h7.elim
    | true =>
      rw [hb] at h7
      obtain rfl := Nat.eq_of_beq_eq_true hb
      have nlt : ∀ nx eo' len' cap', (slV n te.size eo len cap).lt nx = true → (slV n te.size eo' len' cap').lt nx = true := by
        intro nx eo' len' cap' hh
        cases eo <;> cases eo' <;> simpa [slV, SV.lt] using hh
      simp only [cond_true] at h7
      unfold sliceV at h7
      split at h7
      · rename_i h
        refine ⟨_, _, fun ρ G a W hf hc _ hφ => ⟨by first | exact nlt nx _ _ _ (hx ρ G nx a hf hc).2 | (have := nlt nx (some 0) 0 0 (hx ρ G nx a hf hc).2; simpa [slV, SV.lt] using this), fun o ho => ?_⟩, h7⟩
        have e1 := (hx ρ G nx a hf hc).1
        rw [den_slV] at e1
        obtain ⟨kl, el⟩ := hl ρ G nx a hf hc
        obtain ⟨kh, eh⟩ := hh ρ G nx a hf hc
        obtain ⟨km, em⟩ := hm ρ G nx a hf hc
        have u := hti.under W
        rw [hd] at u
        simp only [optP] at hφ
        obtain ⟨h, rfl⟩ := Int.eq_ofNat_of_zero_le (show 0 ≤ h by omega)
        have q0 : h ≤ cap := by omega
        clear hφ
        simp only [execOp, ho, e1, el, eh, em, Instr.sliceAt]
        simp [u, Instr.slice, Instr.sliceBounds, Instr.sliceBound, asIntOf, q0, hte.sizeOf W, den_slV]
        try (intro _; cases ρ n <;> simp [add_add])
      · rename_i l
        refine ⟨_, _, fun ρ G a W hf hc _ hφ => ⟨by first | exact nlt nx _ _ _ (hx ρ G nx a hf hc).2 | (have := nlt nx (some 0) 0 0 (hx ρ G nx a hf hc).2; simpa [slV, SV.lt] using this), fun o ho => ?_⟩, h7⟩
        have e1 := (hx ρ G nx a hf hc).1
        rw [den_slV] at e1
        obtain ⟨kl, el⟩ := hl ρ G nx a hf hc
        obtain ⟨kh, eh⟩ := hh ρ G nx a hf hc
        obtain ⟨km, em⟩ := hm ρ G nx a hf hc
        have u := hti.under W
        rw [hd] at u
        simp only [optP] at hφ
        obtain ⟨l, rfl⟩ := Int.eq_ofNat_of_zero_le (show 0 ≤ l by omega)
        have q0 : l ≤ len := by omega
        have q1 : len ≤ cap := by omega
        clear hφ
        simp only [execOp, ho, e1, el, eh, em, Instr.sliceAt]
        simp [u, Instr.slice, Instr.sliceBounds, Instr.sliceBound, asIntOf, q0, q1, hte.sizeOf W, den_slV]
        simp only [den, sOff]
        by_cases hcl : cap = l <;> cases ρ n <;> simp [hcl, add_add, Nat.add_mul]
      · rename_i l h
        refine ⟨_, _, fun ρ G a W hf hc _ hφ => ⟨by first | exact nlt nx _ _ _ (hx ρ G nx a hf hc).2 | (have := nlt nx (some 0) 0 0 (hx ρ G nx a hf hc).2; simpa [slV, SV.lt] using this), fun o ho => ?_⟩, h7⟩
        have e1 := (hx ρ G nx a hf hc).1
        rw [den_slV] at e1
        obtain ⟨kl, el⟩ := hl ρ G nx a hf hc
        obtain ⟨kh, eh⟩ := hh ρ G nx a hf hc
        obtain ⟨km, em⟩ := hm ρ G nx a hf hc
        have u := hti.under W
        rw [hd] at u
        simp only [optP] at hφ
        obtain ⟨l, rfl⟩ := Int.eq_ofNat_of_zero_le (show 0 ≤ l by omega)
        obtain ⟨h, rfl⟩ := Int.eq_ofNat_of_zero_le (show 0 ≤ h by omega)
        have q0 : l ≤ h := by omega
        have q1 : h ≤ cap := by omega
        clear hφ
        simp only [execOp, ho, e1, el, eh, em, Instr.sliceAt]
        simp [u, Instr.slice, Instr.sliceBounds, Instr.sliceBound, asIntOf, q0, q1, hte.sizeOf W, den_slV]
        simp only [den, sOff]
        by_cases hcl : cap = l <;> cases ρ n <;> simp [hcl, add_add, Nat.add_mul]
      · rename_i h m
        refine ⟨_, _, fun ρ G a W hf hc _ hφ => ⟨by first | exact nlt nx _ _ _ (hx ρ G nx a hf hc).2 | (have := nlt nx (some 0) 0 0 (hx ρ G nx a hf hc).2; simpa [slV, SV.lt] using this), fun o ho => ?_⟩, h7⟩
        have e1 := (hx ρ G nx a hf hc).1
        rw [den_slV] at e1
        obtain ⟨kl, el⟩ := hl ρ G nx a hf hc
        obtain ⟨kh, eh⟩ := hh ρ G nx a hf hc
        obtain ⟨km, em⟩ := hm ρ G nx a hf hc
        have u := hti.under W
        rw [hd] at u
        simp only [optP] at hφ
        obtain ⟨h, rfl⟩ := Int.eq_ofNat_of_zero_le (show 0 ≤ h by omega)
        obtain ⟨m, rfl⟩ := Int.eq_ofNat_of_zero_le (show 0 ≤ m by omega)
        have q0 : h ≤ m := by omega
        have q1 : m ≤ cap := by omega
        clear hφ
        simp only [execOp, ho, e1, el, eh, em, Instr.sliceAt]
        simp [u, Instr.slice, Instr.sliceBounds, Instr.sliceBound, asIntOf, q0, q1, hte.sizeOf W, den_slV]
        try (intro _; cases ρ n <;> simp [add_add])
      · exact h7.elim
  · rename_i s hd
    split at h5
    · rename_i h
      refine ⟨_, _, fun ρ G a W hf hc _ hφ => ⟨rfl, fun o ho => ?_⟩, h5⟩
      have e1 := (hx ρ G nx a hf hc).1
      obtain ⟨kl, el⟩ := hl ρ G nx a hf hc
      obtain ⟨kh, eh⟩ := hh ρ G nx a hf hc
      obtain ⟨km, em⟩ := hm ρ G nx a hf hc
      have u := hti.under W
      rw [hd] at u
      simp only [optP] at hφ
      obtain ⟨h, rfl⟩ := Int.eq_ofNat_of_zero_le (show 0 ≤ h by omega)
      have q0 : h ≤ s.size := by omega
      clear hφ
      simp only [execOp, ho, e1, el, eh, em, Instr.sliceAt]
      simp [u, Instr.slice, Instr.sliceBounds, Instr.sliceBound, asIntOf, q0, den]
    · rename_i l
      refine ⟨_, _, fun ρ G a W hf hc _ hφ => ⟨rfl, fun o ho => ?_⟩, h5⟩
      have e1 := (hx ρ G nx a hf hc).1
      obtain ⟨kl, el⟩ := hl ρ G nx a hf hc
      obtain ⟨kh, eh⟩ := hh ρ G nx a hf hc
      obtain ⟨km, em⟩ := hm ρ G nx a hf hc
      have u := hti.under W
      rw [hd] at u
      simp only [optP] at hφ
      obtain ⟨l, rfl⟩ := Int.eq_ofNat_of_zero_le (show 0 ≤ l by omega)
      have q0 : l ≤ s.size := by omega
      clear hφ
      simp only [execOp, ho, e1, el, eh, em, Instr.sliceAt]
      simp [u, Instr.slice, Instr.sliceBounds, Instr.sliceBound, asIntOf, q0, den]
    · rename_i l h
      refine ⟨_, _, fun ρ G a W hf hc _ hφ => ⟨rfl, fun o ho => ?_⟩, h5⟩
      have e1 := (hx ρ G nx a hf hc).1
      obtain ⟨kl, el⟩ := hl ρ G nx a hf hc
      obtain ⟨kh, eh⟩ := hh ρ G nx a hf hc
      obtain ⟨km, em⟩ := hm ρ G nx a hf hc
      have u := hti.under W
      rw [hd] at u
      simp only [optP] at hφ
      obtain ⟨l, rfl⟩ := Int.eq_ofNat_of_zero_le (show 0 ≤ l by omega)
      obtain ⟨h, rfl⟩ := Int.eq_ofNat_of_zero_le (show 0 ≤ h by omega)
      have q0 : l ≤ h := by omega
      have q1 : h ≤ s.size := by omega
      clear hφ
      simp only [execOp, ho, e1, el, eh, em, Instr.sliceAt]
      simp [u, Instr.slice, Instr.sliceBounds, Instr.sliceBound, asIntOf, q0, q1, den]
    · exact h5.elim
  · rename_i len el n off hd
    split at h5
    · rename_i l
      obtain ⟨te, hte, h6⟩ := tyK_sound hT h5
      cases hb : Nat.beq off 0 with
      | false => rw [hb] at h6; exact h6.elim
      | true =>
        rw [hb] at h6
        obtain rfl := Nat.eq_of_beq_eq_true hb
        obtain ⟨o, ho, rfl, h7⟩ := obK_sound h6
        cases hr : rowsB o.c te.size with
        | false => rw [hr] at h7; exact h7.elim
        | true =>
          rw [hr] at h7
          refine ⟨_, _, fun ρ G a W hf hc hp hφ => ⟨by simpa [SV.lt, blt_iff] using (hp.lt o ho).1, fun op hop => ?_⟩, h7⟩
          obtain ⟨p1, p2, p3⟩ := hφ
          obtain ⟨b, off, hs⟩ := (hp.obj o ho).some_of hr p3
          have e1 := (hx ρ G nx a hf hc).1
          obtain ⟨kl, el⟩ := hl ρ G nx a hf hc
          obtain ⟨kh, eh⟩ := hh ρ G nx a hf hc
          obtain ⟨km, em⟩ := hm ρ G nx a hf hc
          have u := hti.under W
          rw [hd] at u
          obtain ⟨l, rfl⟩ := Int.eq_ofNat_of_zero_le p1
          have q0 : l ≤ len := by omega
          simp only [execOp, hop, e1, el, eh, em, Instr.sliceAt]
          simp [u, den, Instr.sureAddr, Instr.sliceBounds, Instr.sliceBound, asIntOf, q0, hte.sizeOf W, hs, sOff]
          by_cases hcl : len = l <;> simp [hcl, add_none]
    · exact h5.elim
  · exact h5.elim
end
end Go.Proofs.YtebfhljamoapjaaDoor
