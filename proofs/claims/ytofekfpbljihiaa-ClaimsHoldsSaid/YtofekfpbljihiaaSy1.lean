/- A small symbolic machine for walks: values whose memory has names, what is known of a frame and of the heap. No program in sight. -/
import Derived.Test.YtofekfpbljihiaaMem
import Derived.Lib.Hide
namespace Go.Proofs.Ytofekfpbljihiaa
open Go.RowKit

abbrev Rho := Nat → Option Addr
/-- A value of a walk: plain; a pointer to a cell of object n; a pointer to cell j of element i of object n; a slice from the object's head; a slice from element eo on; an aggregate; a tuple; a function with captured values. -/
inductive SV where
  | v (x : Value)
  | p (n off : Nat)
  | e (n size i j : Nat)
  | s (n size len cap : Nat)
  | so (n size eo len cap : Nat)
  | a (l : List SV)
  | t (l : List SV)
  | f (fn : FuncId) (l : List SV)

mutual
def den (ρ : Rho) : SV → Value
  | .v x => x
  | .p n off => .pointer (some (((ρ n).getD default).add off))
  | .e n size i j => .pointer (some (((ρ n).getD default).add (i * size + j)))
  | .s n _ len cap => .slice (ρ n) len cap
  | .so n size eo len cap => .slice ((ρ n).map (·.add (eo * size))) len cap
  | .a l => .agg (denL ρ l).toArray
  | .t l => .tuple (denL ρ l).toArray
  | .f fn l => .func (.func fn) #[] (denL ρ l).toArray
def denL (ρ : Rho) : List SV → List Value
  | [] => []
  | x :: r => den ρ x :: denL ρ r
end
theorem denL_map (ρ : Rho) (l : List SV) : denL ρ l = l.map (den ρ) := by
  induction l with
  | nil => simp [denL]
  | cons x r ih => simp [denL, ih]

mutual
def SV.lt (nx : Nat) : SV → Bool
  | .v _ => true
  | .p n _ => Nat.blt n nx
  | .e n _ _ _ => Nat.blt n nx
  | .s n _ _ _ => Nat.blt n nx
  | .so n _ _ _ _ => Nat.blt n nx
  | .a l => ltL nx l
  | .t l => ltL nx l
  | .f _ l => ltL nx l
def ltL (nx : Nat) : List SV → Bool
  | [] => true
  | x :: r => x.lt nx && ltL nx r
end
theorem ltL_iff (nx : Nat) (l : List SV) : ltL nx l = true ↔ ∀ x ∈ l, x.lt nx = true := by
  induction l with
  | nil => simp [ltL]
  | cons x r ih => simp [ltL, ih]

def upd (ρ : Rho) (n : Nat) (A : Option Addr) : Rho := fun m => if m = n then A else ρ m
theorem blt_iff {a b : Nat} : Nat.blt a b = true ↔ a < b := by
  simp [Nat.blt]; omega
theorem upd_lt {ρ : Rho} {n m : Nat} {A : Option Addr} (h : m < n) : upd ρ n A m = ρ m := by
  simp [upd]; omega
theorem upd_same (ρ : Rho) (n : Nat) (A : Option Addr) : upd ρ n A n = A := by simp [upd]

/-- ρ and ρ' name the same things below nx. -/
def Agree (nx : Nat) (ρ ρ' : Rho) : Prop := ∀ m, m < nx → ρ' m = ρ m
theorem agree_upd (ρ : Rho) (n : Nat) (A : Option Addr) : Agree n ρ (upd ρ n A) := fun _ h => upd_lt h

mutual
theorem den_agree {nx : Nat} {ρ ρ' : Rho} (h : Agree nx ρ ρ') : ∀ (x : SV), x.lt nx = true → den ρ' x = den ρ x
  | .v _, _ => by simp [den]
  | .p n _, hx => by simp [den, h n (blt_iff.1 (by simpa [SV.lt] using hx))]
  | .e n _ _ _, hx => by simp [den, h n (blt_iff.1 (by simpa [SV.lt] using hx))]
  | .s n _ _ _, hx => by simp [den, h n (blt_iff.1 (by simpa [SV.lt] using hx))]
  | .so n _ _ _ _, hx => by simp [den, h n (blt_iff.1 (by simpa [SV.lt] using hx))]
  | .a l, hx => by simp [den, denL_agree h l (by simpa [SV.lt] using hx)]
  | .t l, hx => by simp [den, denL_agree h l (by simpa [SV.lt] using hx)]
  | .f _ l, hx => by simp [den, denL_agree h l (by simpa [SV.lt] using hx)]
theorem denL_agree {nx : Nat} {ρ ρ' : Rho} (h : Agree nx ρ ρ') : ∀ (l : List SV), ltL nx l = true → denL ρ' l = denL ρ l
  | [], _ => by simp [denL]
  | x :: r, hx => by
    simp only [ltL, Bool.and_eq_true] at hx
    simp [denL, den_agree h x hx.1, denL_agree h r hx.2]
end
mutual
theorem lt_mono {nx ny : Nat} (h : nx ≤ ny) : ∀ (x : SV), x.lt nx = true → x.lt ny = true
  | .v _, _ => by simp [SV.lt]
  | .p n _, hx => by simp only [SV.lt, blt_iff] at *; omega
  | .e n _ _ _, hx => by simp only [SV.lt, blt_iff] at *; omega
  | .s n _ _ _, hx => by simp only [SV.lt, blt_iff] at *; omega
  | .so n _ _ _ _, hx => by simp only [SV.lt, blt_iff] at *; omega
  | .a l, hx => by simp only [SV.lt] at *; exact ltL_mono h l hx
  | .t l, hx => by simp only [SV.lt] at *; exact ltL_mono h l hx
  | .f _ l, hx => by simp only [SV.lt] at *; exact ltL_mono h l hx
theorem ltL_mono {nx ny : Nat} (h : nx ≤ ny) : ∀ (l : List SV), ltL nx l = true → ltL ny l = true
  | [], _ => by simp [ltL]
  | x :: r, hx => by
    simp only [ltL, Bool.and_eq_true] at *
    exact ⟨lt_mono h x hx.1, ltL_mono h r hx.2⟩
end

/-- How an element lies in memory: its cells, a default, and the element out of its cells. -/
structure RowS (α : Type) where
  cols : List (α → Value)
  d : α
  of : List Value → Option α
  law : ∀ cs x, of cs = some x → cols.map (fun f => f x) = cs
  one : ∀ x, ∀ f ∈ cols, (f x).oneCell' = true
/-- What an object holds: cells one by one, or rows of plain cells. -/
inductive Ct : Type 1 where
  | cs (l : List SV)
  | rows (α : Type) (R : RowS α) (xs : List α)
def Ct.cells (ρ : Rho) : Ct → List Value
  | .cs l => denL ρ l
  | .rows _ R xs => xs.flatMap (fun x => R.cols.map (fun f => f x))
def Ct.lt (nx : Nat) : Ct → Bool
  | .cs l => ltL nx l
  | .rows _ _ _ => true
theorem Ct.cells_agree {nx : Nat} {ρ ρ' : Rho} (h : Agree nx ρ ρ') (c : Ct) (hc : c.lt nx = true) : c.cells ρ' = c.cells ρ := by
  cases c with
  | cs l => exact denL_agree h l hc
  | rows _ _ _ => rfl

/-- An object of a walk: its name; whether the call owns it; its element's type and number of cells; its capacity; what it holds. -/
structure Ob : Type 1 where
  n : Nat
  own : Bool
  ty : TypeId
  size : Nat
  cap : Nat
  c : Ct

/-- An owned object in memory. -/
def OwnOk (B : Nat) (ρ : Rho) (o : Ob) (W : World) : Prop :=
  (ρ o.n = none ∧ o.c.cells ρ = [] ∧ o.cap = 0) ∨
  ∃ g junk, ρ o.n = some ⟨g, 0, none⟩ ∧ B ≤ g ∧ (o.c.cells ρ).length + junk.length = o.cap * o.size ∧ o.cap ≤ maxLen ∧ Blk W g o.ty (o.c.cells ρ ++ junk).toArray
/-- An object that came in. -/
def RoOk (B : Nat) (ρ : Rho) (o : Ob) (W : World) : Prop :=
  0 < (o.c.cells ρ).length → ∃ b off, ρ o.n = some ⟨b, off, none⟩ ∧ b < B ∧ ∀ j u, (o.c.cells ρ)[j]? = some u → W.cell? ⟨b, off + j, none⟩ = some u
def ObOk (B : Nat) (ρ : Rho) (o : Ob) (W : World) : Prop := if o.own then OwnOk B ρ o W else RoOk B ρ o W

def Apart (ρ : Rho) (o o' : Ob) : Prop := o.own = true → o'.own = true → ρ o.n ≠ none → ρ o.n ≠ ρ o'.n

/-- What is known of the heap. -/
structure Hp (w : World) (ρ : Rho) (L : List Ob) (nx : Nat) (W : World) : Prop where
  bel : Below w.heap.size w W
  obj : ∀ o ∈ L, ObOk w.heap.size ρ o W
  dis : L.Pairwise (Apart ρ)
  lt : ∀ o ∈ L, o.n < nx ∧ o.c.lt nx = true

theorem OwnOk.blk_lt {B : Nat} {ρ : Rho} {o : Ob} {W : World} (h : OwnOk B ρ o W) {A : Addr} (hA : ρ o.n = some A) : A.block < W.heap.size := by
  rcases h with ⟨h, _⟩ | ⟨g, junk, h, _, _, _, hb⟩
  · rw [h] at hA; cases hA
  · rw [h] at hA; cases hA; exact hb.lt

theorem ObOk.below {B : Nat} {ρ : Rho} {o : Ob} {W W' : World} (h : ObOk B ρ o W) (hB : B ≤ W.heap.size) (hb : Below W.heap.size W W') : ObOk B ρ o W' := by
  unfold ObOk at *
  split
  · rename_i ho
    rw [if_pos ho] at h
    rcases h with h | ⟨g, junk, h1, h2, h3, h4, h5⟩
    · exact .inl h
    · exact .inr ⟨g, junk, h1, h2, h3, h4, h5.below hb h5.lt⟩
  · rename_i ho
    rw [if_neg ho] at h
    intro hl
    obtain ⟨b, off, h1, h2, h3⟩ := h hl
    exact ⟨b, off, h1, h2, fun j u hu => (hb.cell (p := ⟨b, off + j, none⟩) (by simp; omega)).trans (h3 j u hu)⟩

theorem Hp.step {w : World} {ρ : Rho} {L : List Ob} {nx : Nat} {W W' : World} (h : Hp w ρ L nx W) (hb : Below W.heap.size W W') : Hp w ρ L nx W' :=
  ⟨h.bel.trans (hb.mono h.bel.size), fun o ho => (h.obj o ho).below h.bel.size hb, h.dis, h.lt⟩
theorem Hp.drewN {w : World} {ρ : Rho} {L : List Ob} {nx : Nat} {W : World} (h : Hp w ρ L nx W) (n : Nat) : Hp w ρ L nx (W.drewN n) :=
  h.step ⟨rfl, rfl, rfl, Nat.le_refl _, fun _ _ => rfl⟩

theorem OwnOk.agree {nx B : Nat} {ρ ρ' : Rho} (ha : Agree nx ρ ρ') {o : Ob} {W : World} (hn : o.n < nx) (hc : o.c.lt nx = true) (h : OwnOk B ρ o W) : OwnOk B ρ' o W := by
  unfold OwnOk at *
  rw [ha o.n hn, o.c.cells_agree ha hc]
  exact h
theorem ObOk.agree {nx B : Nat} {ρ ρ' : Rho} (ha : Agree nx ρ ρ') {o : Ob} {W : World} (hn : o.n < nx) (hc : o.c.lt nx = true) (h : ObOk B ρ o W) : ObOk B ρ' o W := by
  unfold ObOk at *
  split
  · rename_i ho
    rw [if_pos ho] at h
    exact h.agree ha hn hc
  · rename_i ho
    rw [if_neg ho] at h
    unfold RoOk at *
    rw [ha o.n hn, o.c.cells_agree ha hc]
    exact h
theorem Hp.agree {w : World} {ρ ρ' : Rho} {L : List Ob} {nx : Nat} {W : World} (ha : Agree nx ρ ρ') (h : Hp w ρ L nx W) : Hp w ρ' L nx W :=
  ⟨h.bel, fun o ho => (h.obj o ho).agree ha (h.lt o ho).1 (h.lt o ho).2,
    h.dis.imp_of_mem (fun {o o'} ho ho' hh => by
      unfold Apart at *
      rw [ha o.n (h.lt o ho).1, ha o'.n (h.lt o' ho').1]
      exact hh), h.lt⟩

/-- A new owned object. -/
theorem Hp.new {w : World} {ρ : Rho} {L : List Ob} {nx : Nat} {W W' : World} (h : Hp w ρ L nx W) (hb : Below W.heap.size W W') (o : Ob) (A : Option Addr) (hn : o.n = nx) (ho : o.own = true) (hc : o.c.lt (nx + 1) = true)
    (hok : OwnOk W.heap.size (upd ρ nx A) o W') : Hp w (upd ρ nx A) (o :: L) (nx + 1) W' := by
  have h1 := (h.step hb).agree (agree_upd ρ nx A)
  have hB : w.heap.size ≤ W.heap.size := h.bel.size
  refine ⟨h1.bel, ?_, ?_, ?_⟩
  · intro o' ho'
    rcases List.mem_cons.1 ho' with rfl | ho'
    · unfold ObOk
      rw [if_pos ho]
      rcases hok with hok | ⟨g, junk, e1, e2, e3⟩
      · exact .inl hok
      · exact .inr ⟨g, junk, e1, by omega, e3⟩
    · exact h1.obj o' ho'
  · refine List.pairwise_cons.2 ⟨fun o' ho' _ hw' hne => ?_, h1.dis⟩
    intro he
    rcases hok with ⟨hok, _⟩ | ⟨g, junk, e1, e2, e3⟩
    · exact hne hok
    · have h2 := h.obj o' ho'
      unfold ObOk at h2
      rw [if_pos hw'] at h2
      have h3 := (h.lt o' ho').1
      have h4 : ρ o'.n = some ⟨g, 0, none⟩ := by rw [← upd_lt (ρ := ρ) (A := A) h3, ← he, e1]
      have := h2.blk_lt h4
      simp at this
      omega
  · intro o' ho'
    rcases List.mem_cons.1 ho' with rfl | ho'
    · exact ⟨by omega, hc⟩
    · obtain ⟨a1, a2⟩ := h.lt o' ho'
      refine ⟨by omega, ?_⟩
      cases h5 : o'.c with
      | cs l => rw [h5] at a2; exact ltL_mono (Nat.le_succ _) l a2
      | rows _ _ _ => rfl
end Go.Proofs.Ytofekfpbljihiaa
