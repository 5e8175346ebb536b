
/- The symbolic machine: composite values. No program in sight. The symbolic machine: every operation that leaves the heap as it is. No program in sight. The symbolic machine: the operations that change the heap. No program in sight. The symbolic machine: stores. No program in sight. The symbolic machine: new objects, stores, calls. No program in sight. The symbolic machine: a region in the order of its text. No program in sight. The symbolic machine: a region whose order is drawn, walked in one order that serves for all. No program in sight. -/
import Derived.Test.YtebfhljamoapjaaDoorSyA
import Derived.Tactics
import Derived.OrdersHeld
namespace Go.Proofs.YtebfhljamoapjaaDoor
open Go.RowKit
set_option linter.unusedVariables false
set_option linter.unusedSimpArgs false
set_option linter.unnecessarySimpa false

section
variable {P : Program} {w : Ref} {T : Tab} {env : Env} {L : List Ob} {nx : Nat} {cur : Pth} {k : Option Prop → SV → Prop}

def spliceK : List SV → Nat → List SV → (List SV → Prop) → Prop
  | l, 0, [], k => k l
  | [], 0, _ :: _, _ => False
  | _ :: r, 0, x :: xs, k => spliceK r 0 xs (fun l => k (x :: l))
  | [], _ + 1, _, _ => False
  | y :: r, n + 1, xs, k => spliceK r n xs (fun l => k (y :: l))
def splice {α : Type} (l : List α) (off : Nat) (news : List α) : List α := l.take off ++ news ++ l.drop (off + news.length)
theorem spliceK_sound : ∀ {l : List SV} {off : Nat} {news : List SV} {k : List SV → Prop}, spliceK l off news k → off + news.length ≤ l.length ∧ k (splice l off news)
  | l, 0, [], k, h => by
    simp only [spliceK] at h
    simpa [splice] using h
  | [], 0, _ :: _, _, h => h.elim
  | y :: r, 0, x :: xs, k, h => by
    have := spliceK_sound (l := r) (off := 0) (news := xs) h
    simp [splice] at this ⊢
    exact ⟨by omega, this.2⟩
  | [], _ + 1, _, _, h => by
    unfold spliceK at h
    exact h.elim
  | y :: r, n + 1, xs, k, h => by
    have h' : spliceK r n xs (fun l => k (y :: l)) := by
      cases xs <;> exact h
    have := spliceK_sound (l := r) (off := n) (news := xs) h'
    have e : n + 1 + xs.length = (n + xs.length) + 1 := by omega
    simp only [splice, List.take_succ_cons, e, List.drop_succ_cons, List.cons_append, List.length_cons] at *
    exact ⟨by omega, this.2⟩
theorem splice_len {α : Type} (l : List α) (off : Nat) (news : List α) (h : off + news.length ≤ l.length) : (splice l off news).length = l.length := by
  simp [splice]; omega
theorem denL_splice (ρ : Rho) (l : List SV) (off : Nat) (news : List SV) : denL ρ (splice l off news) = splice (denL ρ l) off (denL ρ news) := by
  simp [denL_map, splice, List.map_take, List.map_drop]
theorem ltL_splice {l : List SV} {off : Nat} {news : List SV} (h : ltL nx l = true) (h' : ltL nx news = true) : ltL nx (splice l off news) = true := by
  rw [ltL_iff] at *
  intro x hx
  simp only [splice, List.mem_append] at hx
  rcases hx with (hx | hx) | hx
  · exact h x (List.mem_of_mem_take hx)
  · exact h' x hx
  · exact h x (List.mem_of_mem_drop hx)

/-- The cells of a value, one by one. -/
def flatK (v : SV) (k : List SV → Prop) : Prop :=
  match v with
  | .a l => k l
  | .v (.int kk z) => k [.v (.int kk z)]
  | .v (.string s) => k [.v (.string s)]
  | .v (.bool b) => k [.v (.bool b)]
  | .v (.slice a l c) => k [.v (.slice a l c)]
  | .v (.pointer a) => k [.v (.pointer a)]
  | .v .nilFunc => k [.v .nilFunc]
  | .p n off => k [.p n off]
  | .s n size len cap => k [.s n size len cap]
  | .so n size eo len cap => k [.so n size eo len cap]
  | .f fn l => k [.f fn l]
  | _ => False
theorem flatK_sound {v : SV} {k : List SV → Prop} (h : flatK v k) : ∃ l, k l ∧ (∀ nx, v.lt nx = true → ltL nx l = true) ∧ (∀ ρ : Rho, (den ρ v).cells = (denL ρ l).toArray) := by
  unfold flatK at h
  split at h
  all_goals first | exact h.elim | skip
  all_goals refine ⟨_, h, fun nx hx => by simpa [ltL, SV.lt] using hx, fun ρ => ?_⟩
  all_goals simp [den, denL, Value.cells]

theorem splice_set {α : Type} (l : List α) (n : Nat) (v : α) (vs : List α) (h : n < l.length) : splice (l.set n v) (n + 1) vs = splice l n (v :: vs) := by
  have hl : (l.take n).length = n := by simp; omega
  have e1 : (l.set n v).take (n + 1) = l.take n ++ [v] := by
    rw [List.set_eq_take_append_cons_drop, if_pos h, List.take_append, hl]
    simp [List.take_take, Nat.add_sub_cancel_left]
  have e2 : ∀ m, (l.set n v).drop (n + 1 + m) = l.drop (n + 1 + m) := by
    intro m
    rw [List.set_eq_take_append_cons_drop, if_pos h, List.drop_append, hl, List.drop_eq_nil_of_le (by rw [hl]; omega)]
    have : n + 1 + m - n = m + 1 := by omega
    rw [this]
    simp
  simp only [splice, e1, e2, List.length_cons]
  have : n + (vs.length + 1) = n + 1 + vs.length := by omega
  rw [this]
  simp
theorem fold_set (off : Nat) : ∀ (vs : List Value) (s : Nat) (cs : Array Value), off + s + vs.length ≤ cs.size →
    ((vs.zipIdx s).foldl (fun (cs : Array Value) (x : Value × Nat) => cs.setIfInBounds (off + x.2) x.1) cs).toList = splice cs.toList (off + s) vs
  | [], s, cs, _ => by simp [splice]
  | v :: vs, s, cs, h => by
    have ih := fold_set off vs (s + 1) (cs.setIfInBounds (off + s) v) (by simp at h ⊢; omega)
    simp only [List.zipIdx_cons, List.foldl_cons]
    rw [ih]
    simp at h
    rw [Array.toList_setIfInBounds, ← Nat.add_assoc, splice_set _ _ _ _ (by simp; omega)]

/-- The parts of a composite literal, laid into the zero value. -/
def fillK (pl : Nat → (Nat → Nat → Prop) → Prop) : List SV → List (Nat × SV) → (List SV → Prop) → Prop
  | cells, [], k => k cells
  | cells, (i, v) :: r, k => pl i (fun off size => flatK v (fun l => bif Nat.beq l.length size then spliceK cells off l (fun cells' => fillK pl cells' r k) else False))
theorem fillK_sound {pl : Nat → (Nat → Nat → Prop) → Prop} {place : Nat → Option (Nat × Nat)} (hpl : ∀ i k, pl i k → ∃ o s, place i = some (o, s) ∧ k o s) :
    ∀ {parts : List (Nat × SV)} {cells : List SV} {k : List SV → Prop}, fillK pl cells parts k → ∃ r, k r ∧ (∀ nx, ltL nx cells = true → (∀ x ∈ parts, x.2.lt nx = true) → ltL nx r = true) ∧
      ∀ ρ : Rho, Instr.fill place (denL ρ cells).toArray (parts.map (fun x => (x.1, den ρ x.2))) = some (denL ρ r).toArray
  | [], cells, k, h => ⟨cells, h, fun _ h _ => h, fun ρ => by simp [Instr.fill]⟩
  | (i, v) :: r, cells, k, h => by
    obtain ⟨off, size, h1, h2⟩ := hpl _ _ h
    obtain ⟨l, h3, h4, h5⟩ := flatK_sound h2
    cases hb : Nat.beq l.length size with
    | false => rw [hb] at h3; exact h3.elim
    | true =>
      rw [hb] at h3
      have hs := Nat.eq_of_beq_eq_true hb
      obtain ⟨h6, h7⟩ := spliceK_sound h3
      obtain ⟨r', h8, h9, h10⟩ := fillK_sound hpl h7
      refine ⟨r', h8, fun nx hc hp => h9 nx (ltL_splice hc (h4 nx (hp _ (List.mem_cons_self ..)))) (fun x hx => hp x (List.mem_cons_of_mem _ hx)), fun ρ => ?_⟩
      have hz : (denL ρ l).length = l.length := by simp [denL_map]
      have hz2 : (denL ρ cells).length = cells.length := by simp [denL_map]
      have h11 := h10 ρ
      rw [denL_splice] at h11
      simp only [List.map_cons, Instr.fill, h1, h5 ρ]
      have hc1 : ¬ ((denL ρ l).toArray.size ≠ size ∨ off + (denL ρ l).toArray.size > (denL ρ cells).toArray.size) := by
        simp [hz, hz2, hs]; omega
      simp only [ne_eq, Bool.or_eq_true, decide_eq_true_eq] at hc1 ⊢
      rw [if_neg (by simpa using hc1)]
      have hfold := fold_set off (denL ρ l) 0 (denL ρ cells).toArray (by simp [hz, hz2]; omega)
      have e : ((denL ρ l).toArray.zipIdx.foldl (fun (cs : Array Value) (x : Value × Nat) => cs.setIfInBounds (off + x.2) x.1) (denL ρ cells).toArray) = (splice (denL ρ cells) off (denL ρ l)).toArray := by
        apply Array.ext'
        simpa using hfold
      rw [← h11, ← e]
def vsK : List Value → (List SV → Prop) → Prop
  | [], k => k []
  | x :: r, k => vsK r (fun l => k (.v x :: l))
theorem vsK_sound : ∀ {l : List Value} {k : List SV → Prop}, vsK l k → k (l.map SV.v)
  | [], k, h => h
  | x :: r, k, h => by
    have := vsK_sound (l := r) h
    simpa using this
theorem denL_v (ρ : Rho) (l : List Value) : denL ρ (l.map SV.v) = l := by
  induction l with
  | nil => simp [denL]
  | cons x r ih => simp [denL, den, ih]
theorem ltL_v (l : List Value) : ltL nx (l.map SV.v) = true := by
  rw [ltL_iff]
  intro x hx
  obtain ⟨y, _, rfl⟩ := List.mem_map.1 hx
  rfl
def zerosK (v : Value) (k : List SV → Prop) : Prop :=
  match v with
  | .agg cs => vsK cs.toList k
  | _ => False
theorem zerosK_sound {v : Value} {k : List SV → Prop} (h : zerosK v k) : ∃ cs, v = .agg cs ∧ k (cs.toList.map SV.v) := by
  unfold zerosK at h
  split at h
  · exact ⟨_, rfl, vsK_sound h⟩
  · exact h.elim

/-! build -/
def placesK (T : Tab) : List Field → (List (Nat × Nat) → Prop) → Prop
  | [], k => k []
  | f :: r, k => tyK T f.type (fun tf => placesK T r (fun l => k ((f.offset, tf.size) :: l)))
theorem placesK_sound (hT : TabOk P T) : ∀ {fl : List Field} {k : List (Nat × Nat) → Prop}, placesK T fl k → ∃ l, k l ∧ ∀ W : World, (fl.mapM (fun f => do pure (f.offset, ← Go.sizeOf f.type)) : Sem (List (Nat × Nat))).run P W = .ok l W
  | [], k, h => ⟨[], h, fun W => by simp⟩
  | f :: r, k, h => by
    obtain ⟨tf, htf, h1⟩ := tyK_sound hT h
    obtain ⟨l, h2, h3⟩ := placesK_sound hT h1
    refine ⟨_, h2, fun W => ?_⟩
    have e := h3 W
    simp only [bind_pure_comp] at e
    simp [List.mapM_cons, htf.sizeOf W, e]
def partsK (env : Env) (cur : Pth) : List (Nat × Operand) → (List (Nat × SV) → Prop) → Prop
  | [], k => k []
  | (i, x) :: r, k => evK env cur x (fun v => partsK env cur r (fun l => k ((i, v) :: l)))
theorem partsK_sound : ∀ {l : List (Nat × Operand)} {k : List (Nat × SV) → Prop}, partsK env cur l k → ∃ vs, k vs ∧ ∀ ρ G nx a, Fk ρ G env nx a → holdsB G cur = true →
    l.map (fun x => (x.1, a.eval x.2)) = vs.map (fun x => (x.1, den ρ x.2)) ∧ ∀ x ∈ vs, x.2.lt nx = true
  | [], k, h => ⟨[], h, fun _ _ _ _ _ _ => ⟨rfl, by simp⟩⟩
  | (i, x) :: r, k, h => by
    obtain ⟨v, h1, hv⟩ := evK_sound h
    obtain ⟨vs, h2, hvs⟩ := partsK_sound h1
    refine ⟨_, h2, fun ρ G nx a hf hc => ?_⟩
    have e1 := hv ρ G nx a hf hc
    have e2 := hvs ρ G nx a hf hc
    refine ⟨by simp only [List.map_cons, e1.1, e2.1], fun y hy => ?_⟩
    rcases List.mem_cons.1 hy with rfl | hy
    · exact e1.2
    · exact e2.2 y hy
def buildK (T : Tab) (env : Env) (cur : Pth) (t : TypeId) (parts : List (Nat × Operand)) (k : Option Prop → SV → Prop) : Prop :=
  tyK T t (fun ti => partsK env cur parts (fun vs => zerosK ti.zero (fun zs => match ti.d with
    | .struct fs => placesK T fs.toList (fun pl => fillK (fun i k => nthK pl i (fun x => k x.1 x.2)) zs vs (fun r => k none (.a r)))
    | .array _ el => tyK T el (fun te => fillK (fun i k => k (i * te.size) te.size) zs vs (fun r => k none (.a r)))
    | _ => False)))
theorem buildK_sound {t : TypeId} {parts : Array (Nat × Operand)} (hT : TabOk P T) (h : buildK T env cur t parts.toList k) : ∃ φ v, QOk P w env L nx cur (.build t parts) φ v ∧ k φ v := by
  obtain ⟨ti, hti, h1⟩ := tyK_sound hT h
  obtain ⟨vs, h2, hv⟩ := partsK_sound h1
  obtain ⟨zs, hz, h3⟩ := zerosK_sound h2
  clear h h1 h2
  split at h3
  · rename_i fs hd
    obtain ⟨pl, h4, h5⟩ := placesK_sound (P := P) hT h3
    obtain ⟨r, h6, h7, h8⟩ := fillK_sound (place := fun i => pl.toArray[i]?) (by
      intro i k hk
      obtain ⟨x, hx, hk⟩ := nthK_sound hk
      exact ⟨x.1, x.2, by simpa using hx, hk⟩) h4
    refine ⟨none, _, fun ρ G a W hf hc _ _ => ⟨?_, fun o ho => ?_⟩, h6⟩
    · simpa [SV.lt] using h7 nx (ltL_v _) (hv ρ G nx a hf hc).2
    · have u := hti.under W
      rw [hd] at u
      have e1 := (hv ρ G nx a hf hc).1
      have e2 := h8 ρ
      have e3 := h5 W
      rw [← e1, denL_v] at e2
      simp only [bind_pure_comp] at e3
      simp [execOp, ho, Instr.build, hti.zeroV W, u, hz, Value.cells]
      rw [Array.mapM_eq_mapM_toList]
      simp [e3]
      have e4 : (fun x : Nat => pl[x]?) = fun i => pl.toArray[i]? := by funext i; simp
      simp only [Array.toArray_toList] at e2
      rw [e4, e2]
      simp [den]
  · rename_i n el hd
    obtain ⟨te, hte, h4⟩ := tyK_sound hT h3
    obtain ⟨r, h6, h7, h8⟩ := fillK_sound (place := fun i => some (i * te.size, te.size)) (by
      intro i k hk
      exact ⟨_, _, rfl, hk⟩) h4
    refine ⟨none, _, fun ρ G a W hf hc _ _ => ⟨?_, fun o ho => ?_⟩, h6⟩
    · simpa [SV.lt] using h7 nx (ltL_v _) (hv ρ G nx a hf hc).2
    · have u := hti.under W
      rw [hd] at u
      have e1 := (hv ρ G nx a hf hc).1
      have e2 := h8 ρ
      rw [← e1, denL_v] at e2
      simp only [Array.toArray_toList] at e2
      simp [execOp, ho, Instr.build, hti.zeroV W, u, hz, Value.cells, hte.sizeOf W, e2, den]
  · exact h3.elim
end
end Go.Proofs.YtebfhljamoapjaaDoor
namespace Go.Proofs.YtebfhljamoapjaaDoor
open Go.RowKit
set_option linter.unusedVariables false
set_option linter.unusedSimpArgs false
set_option linter.unnecessarySimpa false

section
variable {P : Program} {w : Ref} {T : Tab} {env : Env} {L : List Ob} {nx : Nat} {cur : Pth} {k : Option Prop → SV → Prop}

def nilK (env : Env) (cur : Pth) (x : Operand) (k : Option Prop → SV → Prop) : Prop :=
  evK env cur x (fun v => match v with
    | .p n off => k none (.p n off)
    | .e n size i j => k none (.e n size i j)
    | .f fn l => k none (.f fn l)
    | _ => False)
theorem nilK_sound {x : Operand} (h : nilK env cur x k) : ∃ φ v, QOk P w env L nx cur (.nilCheck x) φ v ∧ k φ v := by
  obtain ⟨v, h1, hx⟩ := evK_sound h
  clear h
  split at h1
  all_goals first | exact h1.elim | skip
  all_goals
    refine ⟨_, _, fun ρ G a W hf hc _ _ => ⟨(hx ρ G nx a hf hc).2, fun o ho => ?_⟩, h1⟩
    have e := (hx ρ G nx a hf hc).1
    simp [execOp, ho, e, den]
def convK (T : Tab) (env : Env) (cur : Pth) (src dst : TypeId) (x : Operand) (k : Option Prop → SV → Prop) : Prop :=
  tyK T src (fun ts => tyK T dst (fun td => evK env cur x (fun v => match td.d, v with
    | .int kk, .v (.int _ n) => wrapK (wfl T) kk n k
    | .string, .v (.string s) => k none (.v (.string s))
    | _, _ => False)))
theorem convK_sound {src dst : TypeId} {x : Operand} (hT : TabOk P T) (h : convK T env cur src dst x k) : ∃ φ v, QOk P w env L nx cur (.convert src dst x) φ v ∧ k φ v := by
  obtain ⟨ts, hts, h1⟩ := tyK_sound hT h
  obtain ⟨td, htd, h2⟩ := tyK_sound hT h1
  obtain ⟨v, h3, hx⟩ := evK_sound h2
  clear h h1 h2
  split at h3
  · rename_i kk k' n hd
    obtain ⟨φ, v, h4, h5, h6⟩ := wrapK_sound h3
    refine ⟨φ, v, fun ρ G a W hf hc _ hφ => ⟨h5 nx, fun o ho => ?_⟩, h4⟩
    have e := (hx ρ G nx a hf hc).1
    have u1 := hts.under W
    have u2 := htd.under W
    rw [hd] at u2
    simp [execOp, ho, e, den, convert, u1, u2, Conv.intToInt, h6 ρ hφ]
  · rename_i s hd
    refine ⟨_, _, fun ρ G a W hf hc _ hφ => ⟨rfl, fun o ho => ?_⟩, h3⟩
    have e := (hx ρ G nx a hf hc).1
    have u1 := hts.under W
    have u2 := htd.under W
    rw [hd] at u2
    simp [execOp, ho, e, den, convert, u1, u2]
  · exact h3.elim
def indexK (T : Tab) (env : Env) (cur : Pth) (t : TypeId) (x i : Operand) (k : Option Prop → SV → Prop) : Prop :=
  tyK T t (fun ti => evK env cur x (fun v => evK env cur i (fun vi => asI vi (fun kk z => match ti.d, v with
    | .string, .v (.string s) => k (some (0 ≤ z ∧ z < s.size)) (.v (.int .u8 ((s.data.toList.getD z.toNat 0).toNat : Int)))
    | .array len el, .a l => tyK T el (fun te => bif aggD te.d then cutK l (z.toNat * te.size) te.size (fun r => k (some (0 ≤ z ∧ z < len)) (.a r)) else nthK l (z.toNat * te.size) (fun u => k (some (0 ≤ z ∧ z < len)) u))
    | _, _ => False))))
theorem indexK_sound {t : TypeId} {x i : Operand} (hT : TabOk P T) (h : indexK T env cur t x i k) : ∃ φ v, QOk P w env L nx cur (.index t x i) φ v ∧ k φ v := by
  obtain ⟨ti, hti, h1⟩ := tyK_sound hT h
  obtain ⟨v, h2, hx⟩ := evK_sound h1
  obtain ⟨vi, h3, hi⟩ := evK_sound h2
  obtain ⟨kk, z, rfl, h4⟩ := asI_sound h3
  clear h h1 h2 h3
  split at h4
  · rename_i s hd
    refine ⟨_, _, fun ρ G a W hf hc _ hφ => ⟨rfl, fun o ho => ?_⟩, h4⟩
    obtain ⟨p1, p2⟩ := hφ
    obtain ⟨j, rfl⟩ := Int.eq_ofNat_of_zero_le p1
    have e1 := (hx ρ G nx a hf hc).1
    have e2 := (hi ρ G nx a hf hc).1
    have u := hti.under W
    rw [hd] at u
    have hj : j < s.size := by omega
    have hg : s[j]? = some s[j] := by simp [hj]
    simp [execOp, ho, e1, e2, den, Instr.index, asIntOf, u, hg]
    have hj2 : j < s.data.size := hj
    rw [Array.getElem?_eq_getElem hj2]
    rfl
  · rename_i len el l hd
    obtain ⟨te, hte, h5⟩ := tyK_sound hT h4
    cases hb : aggD te.d with
    | true =>
      rw [hb] at h5
      obtain ⟨hle, h6⟩ := cutK_sound h5
      refine ⟨_, _, fun ρ G a W hf hc _ hφ => ⟨(by simpa [SV.lt] using ltL_cut (nx := nx) (l := l) (by simpa [SV.lt] using (hx ρ G nx a hf hc).2)), fun o ho => ?_⟩, h6⟩
      obtain ⟨p1, p2⟩ := hφ
      have e1 := (hx ρ G nx a hf hc).1
      have e2 := (hi ρ G nx a hf hc).1
      have u := hti.under W
      rw [hd] at u
      have u2 := hte.isAgg W
      rw [hb] at u2
      simp [execOp, ho, e1, e2, den, Instr.index, asIntOf, u, p1, p2, part, u2, hte.sizeOf W, denL_cut]
    | false =>
      rw [hb] at h5
      obtain ⟨u', hu', h6⟩ := nthK_sound h5
      refine ⟨_, _, fun ρ G a W hf hc _ hφ => ⟨(ltL_iff _ _).1 (by simpa [SV.lt] using (hx ρ G nx a hf hc).2) u' (List.mem_of_getElem? hu'), fun o ho => ?_⟩, h6⟩
      obtain ⟨p1, p2⟩ := hφ
      have e1 := (hx ρ G nx a hf hc).1
      have e2 := (hi ρ G nx a hf hc).1
      have u := hti.under W
      rw [hd] at u
      have u2 := hte.isAgg W
      rw [hb] at u2
      simp [execOp, ho, e1, e2, den, Instr.index, asIntOf, u, p1, p2, part, u2, hte.sizeOf W, denL_map, hu']
  · exact h4.elim
def mkFnK (env : Env) (cur : Pth) (fn : Fn) (first captured : List Operand) (k : Option Prop → SV → Prop) : Prop :=
  match fn, first, captured with
  | .func f, [], captured => evsK env cur captured (fun vs => k none (.f f vs))
  | .func f, first, [] => evsK env cur first (fun vs => k none (.m f vs))
  | _, _, _ => False
theorem mkFnK_sound {fn : Fn} {first captured : Array Operand} (h : mkFnK env cur fn first.toList captured.toList k) : ∃ φ v, QOk P w env L nx cur (.makeFunc fn first captured) φ v ∧ k φ v := by
  obtain ⟨first, rfl⟩ : ∃ l : List Operand, first = l.toArray := ⟨first.toList, by simp⟩
  obtain ⟨captured, rfl⟩ : ∃ l : List Operand, captured = l.toArray := ⟨captured.toList, by simp⟩
  simp only at h
  unfold mkFnK at h
  split at h
  · obtain ⟨vs, h1, hv⟩ := evsK_sound h
    refine ⟨_, _, fun ρ G a W hf hc _ hφ => ⟨by simpa [SV.lt] using (hv ρ G nx a hf hc).2, fun o ho => ?_⟩, h1⟩
    have e := (hv ρ G nx a hf hc).1
    simp [execOp, ho, Instr.makeFunc, den, e]
  · obtain ⟨vs, h1, hv⟩ := evsK_sound h
    refine ⟨_, _, fun ρ G a W hf hc _ hφ => ⟨by simpa [SV.lt] using (hv ρ G nx a hf hc).2, fun o ho => ?_⟩, h1⟩
    have e := (hv ρ G nx a hf hc).1
    simp [execOp, ho, Instr.makeFunc, den, e]
  · exact h.elim
def quietK (T : Tab) (env : Env) (L : List Ob) (cur : Pth) (o : Op) (k : Option Prop → SV → Prop) : Prop :=
  match o with
  | .move x => evK env cur x (fun v => k none v)
  | .assign x => evK env cur x (fun v => k none v)
  | .pick c a b => pickK env cur c a b k
  | .load t a => loadK T env L cur t a k
  | .fieldAddr s x f => fieldAddrK T env cur s x f k
  | .field s x f => fieldK T env cur s x f k
  | .indexAddr t x i => indexAddrK T env L cur t x i k
  | .index t x i => indexK T env cur t x i k
  | .extract x i => extractK env cur x i k
  | .binOp op t x y _ => binK T env L cur op t x y k
  | .unOp op _ x => unK T env cur op x k
  | .slice t x lo hi mx => sliceK T L env cur t x lo hi mx k
  | .build t parts => buildK T env cur t parts.toList k
  | .nilCheck x => nilK env cur x k
  | .convert s d x => convK T env cur s d x k
  | .makeFunc fn fi ca => mkFnK env cur fn fi.toList ca.toList k
  | .call c => (match c.callee with
    | .builtin b => biK T env cur b c.args.toList c.argTypes.toList k
    | _ => False)
  | _ => False
theorem quietK_sound {o : Op} (hT : TabOk P T) (h : quietK T env L cur o k) : ∃ φ v, QOk P w env L nx cur o φ v ∧ k φ v := by
  unfold quietK at h
  split at h
  · exact moveK_sound h
  · exact assignK_sound h
  · exact pickK_sound h
  · exact loadK_sound hT h
  · exact fieldAddrK_sound hT h
  · exact fieldK_sound hT h
  · exact indexAddrK_sound hT h
  · exact indexK_sound hT h
  · exact extractK_sound h
  · exact binK_sound hT h
  · exact unK_sound h
  · exact sliceK_sound hT h
  · exact buildK_sound hT h
  · exact nilK_sound h
  · exact convK_sound hT h
  · exact mkFnK_sound h
  · rename_i c
    split at h
    · rename_i b hb
      obtain ⟨callee, args, ts⟩ := c
      simp only at hb
      subst hb
      exact biK_sound hT h
    · exact h.elim
  · exact h.elim
/-- The type of slices of bytes: what is turned into one, or out of one, is no quiet operation. -/
def byT : Nat := 39
/-- Does an operation leave the heap as it is? -/
def isQ (o : Op) : Bool :=
  match o with
  | .move _ => true
  | .assign _ => true
  | .pick _ _ _ => true
  | .load _ _ => true
  | .fieldAddr _ _ _ => true
  | .field _ _ _ => true
  | .indexAddr _ _ _ => true
  | .index _ _ _ => true
  | .extract _ _ => true
  | .binOp _ _ _ _ _ => true
  | .unOp _ _ _ => true
  | .slice _ _ _ _ _ => true
  | .build _ _ => true
  | .nilCheck _ => true
  | .convert s d _ => !(Nat.beq s byT || Nat.beq d byT)
  | .makeFunc _ _ _ => true
  | .call c => (match c.callee with
    | .builtin .len => true
    | .builtin .max => true
    | .builtin .min => true
    | _ => false)
  | _ => false
end
end Go.Proofs.YtebfhljamoapjaaDoor
namespace Go.Proofs.YtebfhljamoapjaaDoor
open Go.RowKit
set_option linter.unusedVariables false
set_option linter.unusedSimpArgs false
set_option linter.unnecessarySimpa false

/-- What is known of a frame and of the heap. -/
structure Kn (w : Ref) (N : Nat) (ρ : Rho) (G : Gd) (env : Env) (L : List Ob) (nx : Nat) (a : Act) (W : World) : Prop where
  fk : Fk ρ G env nx a
  hp : Hp w ρ L nx W
  dfr : a.defers = w.dfr
  size : a.tmps.size = N

theorem Fk.agree {ρ ρ' : Rho} {G : Gd} {env : Env} {nx ny : Nat} {a : Act} (h : Fk ρ G env nx a) (ha : Agree nx ρ ρ') (hn : nx ≤ ny) : Fk ρ' G env ny a :=
  ⟨fun t p v hv => by
    have h1 := h.slots t p v hv
    cases hh : holdsB G p with
    | true => rw [hh] at h1; simpa [den_agree ha v (h.lt t p v hv hh)] using h1
    | false => rw [hh] at h1; simpa using h1, h.gok, h.clo, fun t p v hv hh => lt_mono hn v (h.lt t p v hv hh)⟩
theorem Fk.put {ρ : Rho} {G : Gd} {env : Env} {nx : Nat} {a : Act} (h : Fk ρ G env nx a) {d : Nat} {p : Pth} {v : SV} (hd : d < a.tmps.size) (hg : lkG G d = none) (hv : holdsB G p = true → v.lt nx = true) (hp : ∀ x ∈ p, (lkG G x.1).isSome = true) :
    Fk ρ G ((d, p, v) :: env) nx (a.put (some d) (if holdsB G p then den ρ v else undef)) := by
  have hlk : ∀ t, lk ((d, p, v) :: env) t = if d = t then some (p, v) else lk env t := by
    intro t
    simp only [lk]
    cases hb : Nat.beq d t with
    | true => simp [Nat.eq_of_beq_eq_true hb]
    | false => simp [Nat.ne_of_beq_eq_false hb]
  refine ⟨?_, ?_, ?_, ?_⟩
  · intro t p' v' ht
    rw [hlk] at ht
    simp only [Act.put]
    split at ht
    · rename_i hdt
      subst hdt
      simp at ht
      obtain ⟨rfl, rfl⟩ := ht
      simp [hd]
    · rename_i hdt
      rw [Array.getElem?_setIfInBounds_ne hdt]
      exact h.slots t p' v' ht
  · intro s b hs
    obtain ⟨p', hp'⟩ := h.gok s b hs
    refine ⟨p', ?_⟩
    rw [hlk, if_neg (by rintro rfl; rw [hg] at hs; cases hs)]
    exact hp'
  · intro t p' v' ht x hx
    rw [hlk] at ht
    split at ht
    · simp at ht
      obtain ⟨rfl, rfl⟩ := ht
      exact hp x hx
    · exact h.clo t p' v' ht x hx
  · intro t p' v' ht hb
    rw [hlk] at ht
    split at ht
    · simp at ht
      obtain ⟨rfl, rfl⟩ := ht
      exact hv hb
    · exact h.lt t p' v' ht hb
theorem Fk.addG {ρ : Rho} {G : Gd} {env : Env} {nx : Nat} {a : Act} (h : Fk ρ G env nx a) {s : Nat} {ps : Pth} {b : Bool} (hg : lkG G s = none) (hs : lk env s = some (ps, .v (.bool b))) : Fk ρ ((s, b) :: G) env nx a := by
  have hlk : ∀ t, lkG ((s, b) :: G) t = if s = t then some b else lkG G t := by
    intro t
    simp only [lkG]
    cases hb : Nat.beq s t with
    | true => simp [Nat.eq_of_beq_eq_true hb]
    | false => simp [Nat.ne_of_beq_eq_false hb]
  have hh : ∀ t p v, lk env t = some (p, v) → holdsB ((s, b) :: G) p = holdsB G p := by
    intro t p v ht
    have hc := h.clo t p v ht
    rw [Bool.eq_iff_iff]
    simp only [holdsB, List.all_eq_true]
    have : ∀ x ∈ p, lkG ((s, b) :: G) x.1 = lkG G x.1 := by
      intro x hx
      rw [hlk, if_neg]
      rintro rfl
      have := hc x hx
      rw [hg] at this
      cases this
    constructor
    · intro h1 x hx
      rw [← this x hx]
      exact h1 x hx
    · intro h1 x hx
      rw [this x hx]
      exact h1 x hx
  refine ⟨?_, ?_, ?_, fun t p v ht hb => h.lt t p v ht (by rw [← hh t p v ht]; exact hb)⟩
  · intro t p v ht
    rw [hh t p v ht]
    exact h.slots t p v ht
  · intro s' b' hs'
    rw [hlk] at hs'
    split at hs'
    · rename_i e
      subst e
      simp at hs'
      subst hs'
      exact ⟨ps, hs⟩
    · exact h.gok s' b' hs'
  · intro t p v ht x hx
    rw [hlk]
    split
    · rfl
    · exact h.clo t p v ht x hx

/-- What comes back: a value, a heap; if kp, with every block as it was. -/
def Res (w : Ref) (ρ : Rho) (nx : Nat) (kp : Bool) (W : World) (k : SV → List Ob → Nat → Prop) (v : Value) (W' : World) : Prop :=
  (kp = true → Below W.heap.size W W') ∧ ∃ ρ' sv L' nx', v = den ρ' sv ∧ Agree nx ρ ρ' ∧ nx ≤ nx' ∧ sv.lt nx' = true ∧ Hp w ρ' L' nx' W' ∧ k sv L' nx'
def ResE (w : Ref) (ρ : Rho) (nx : Nat) (kp : Bool) (W : World) (k : SV → List Ob → Nat → Prop) (e : Ending) (W' : World) : Prop := ∃ v, e = .returned v ∧ Res w ρ nx kp W k v W'

/-- A call of a Go function stands next. -/
structure EvCall (kp : Bool) (P : Program) (w : Ref) (f : FuncId) (args : List SV) (L : List Ob) (nx : Nat) (k : SV → List Ob → Nat → Prop) : Prop where
  ent : ∀ args W, (callFunc f args).run P W = .ok (.enter f args) W
  go : ∀ ρ W, Hp w ρ L nx W → ltL nx args = true → Calls P f (denL ρ args).toArray W (ResE w ρ nx kp W k)
/-- A builtin that may change the heap stands next. -/
structure EvBi (kp : Bool) (P : Program) (w : Ref) (b : Builtin) (args : List SV) (ts : List TypeId) (L : List Ob) (nx : Nat) (k : SV → List Ob → Nat → Prop) : Prop where
  go : ∀ ρ W, Hp w ρ L nx W → ltL nx args = true → ∀ ty c, ∃ v W', (builtin b ts.toArray ty c (denL ρ args).toArray).run P W = .ok (.value v) W' ∧ Res w ρ nx kp W k v W'
/-- A make stands next. -/
structure EvMake (kp : Bool) (P : Program) (w : Ref) (t : TypeId) (len cap : SV) (L : List Ob) (nx : Nat) (k : SV → List Ob → Nat → Prop) : Prop where
  go : ∀ ρ W, Hp w ρ L nx W → ∃ v W', (Instr.makeSlice t (den ρ len) (den ρ cap)).run P W = .ok v W' ∧ Res w ρ nx kp W k v W'
/-- An operation that the machine does not know stands next. -/
structure EvOp (kp : Bool) (P : Program) (w : Ref) (env : Env) (cur : Pth) (o : Oper) (L : List Ob) (nx : Nat) (k : SV → List Ob → Nat → Prop) : Prop where
  go : ∀ ρ G a W, Fk ρ G env nx a → holdsB G cur = true → Hp w ρ L nx W → ∃ v W', (execOp a.eval o).run P W = .ok (.value v) W' ∧ Res w ρ nx kp W k v W'

def appK : List SV → List SV → (List SV → Prop) → Prop
  | [], r, k => k r
  | x :: l, r, k => appK l r (fun m => k (x :: m))
theorem appK_sound : ∀ {l r : List SV} {k : List SV → Prop}, appK l r k → k (l ++ r)
  | [], r, k, h => h
  | x :: l, r, k, h => by
    have := appK_sound (l := l) (r := r) h
    simpa using this
def scal (v : SV) : Bool :=
  match v with
  | .v (.int _ _) => true
  | .v (.string _) => true
  | .v (.bool _) => true
  | .v (.slice _ _ _) => true
  | .v (.pointer _) => true
  | .v .nilFunc => true
  | .p _ _ => true
  | .e _ _ _ _ => true
  | .s _ _ _ _ => true
  | .so _ _ _ _ _ => true
  | .f _ _ => true
  | _ => false
theorem scal_one {v : SV} (h : scal v = true) (ρ : Rho) : (den ρ v).oneCell' = true := by
  unfold scal at h
  split at h
  all_goals first | (simp [den, Value.oneCell']; done) | cases h
def updK : List Ob → Nat → Ct → (List Ob → Prop) → Prop
  | [], _, _, _ => False
  | ⟨n', own, ty, size, cap, c'⟩ :: r, n, c, k => bif Nat.beq n' n then k (⟨n', own, ty, size, cap, c⟩ :: r) else updK r n c (fun l => k (⟨n', own, ty, size, cap, c'⟩ :: l))
def plainK : List SV → (List Value → Prop) → Prop
  | [], k => k []
  | .v x :: r, k => plainK r (fun l => k (x :: l))
  | _ :: _, _ => False
theorem plainK_sound : ∀ {l : List SV} {k : List Value → Prop}, plainK l k → ∃ vs, l = vs.map SV.v ∧ k vs
  | [], k, h => ⟨[], rfl, h⟩
  | x :: r, k, h => by
    unfold plainK at h
    split at h
    · rename_i heq
      exact absurd heq (by simp)
    · rename_i y r' heq
      simp only [List.cons.injEq] at heq
      obtain ⟨rfl, rfl⟩ := heq
      obtain ⟨vs, rfl, h2⟩ := plainK_sound h
      exact ⟨y :: vs, rfl, h2⟩
    · exact h.elim
universe u
def ofK {α : Type u} (x : Option α) (k : α → Prop) : Prop :=
  match x with
  | some y => k y
  | none => False
theorem ofK_sound {α : Type u} {x : Option α} {k : α → Prop} (h : ofK x k) : ∃ y, x = some y ∧ k y := by
  cases x with
  | none => exact h.elim
  | some y => exact ⟨y, rfl, h⟩
/-- What an object holds once cells are stored into it. -/
def stC (c : Ct) (addr : SV) (cells : List SV) (k : Option Prop → Ct → Prop) : Prop :=
  match c, addr with
  | .cs l, .p _ off => spliceK l off cells (fun l' => k none (.cs l'))
  | .cs l, .e _ size i j => spliceK l (i * size + j) cells (fun l' => k none (.cs l'))
  | .rows α R xs, .e _ size i j => bif Nat.beq R.cols.length size then rowK (xs.getD i R.d) R.cols (fun row => spliceK row j cells (fun row' => plainK row' (fun vs => ofK (R.of vs) (fun x' => k (some (i < xs.length)) (.rows α R (xs.set i x')))))) else False
  | _, _ => False
def storeK (L : List Ob) (addr : SV) (cells : List SV) (k : Option Prop → List Ob → Prop) : Prop :=
  match nameOf addr with
  | some n => obK L n (fun o => bif o.own && (cells.all scal && Nat.blt 0 cells.length) then stC o.c addr cells (fun φ c' => updK L n c' (fun L' => k φ L')) else False)
  | none => False
end Go.Proofs.YtebfhljamoapjaaDoor
namespace Go.Proofs.YtebfhljamoapjaaDoor
open Go.RowKit
set_option linter.unusedVariables false
set_option linter.unusedSimpArgs false
set_option linter.unnecessarySimpa false

theorem splice_left {α : Type} (l r : List α) (off : Nat) (c : List α) (h : off + c.length ≤ l.length) : splice (l ++ r) off c = splice l off c ++ r := by
  simp only [splice]
  rw [List.take_append_of_le_length (by omega), List.drop_append_of_le_length (by omega)]
  simp
theorem splice_right {α : Type} (l r : List α) (off : Nat) (c : List α) : splice (l ++ r) (l.length + off) c = l ++ splice r off c := by
  simp only [splice]
  rw [List.take_append, List.take_of_length_le (by omega), Nat.add_sub_cancel_left, List.drop_append, List.drop_eq_nil_of_le (by omega)]
  have : l.length + off + c.length - l.length = off + c.length := by omega
  rw [this]
  simp
theorem flat_set {α : Type} (row : α → List Value) (m : Nat) (hm : ∀ x, (row x).length = m) (d x' : α) : ∀ (xs : List α) (i j : Nat) (c : List Value), i < xs.length → j + c.length ≤ m → row x' = splice (row (xs.getD i d)) j c →
    (xs.set i x').flatMap row = splice (xs.flatMap row) (i * m + j) c
  | [], i, j, c, h, _, _ => by simp at h
  | x :: r, 0, j, c, h, hj, hr => by
    simp only [List.set_cons_zero, List.flatMap_cons, Nat.zero_mul, Nat.zero_add]
    rw [splice_left _ _ _ _ (by rw [hm]; exact hj), hr]
    simp
  | x :: r, i + 1, j, c, h, hj, hr => by
    have ih := flat_set row m hm d x' r i j c (by simpa using h) hj (by simpa using hr)
    have e : (i + 1) * m + j = (row x).length + (i * m + j) := by rw [hm, Nat.succ_mul]; omega
    simp only [List.set_cons_succ, List.flatMap_cons]
    rw [e, splice_right, ih]

theorem stC_sound {c : Ct} {addr : SV} {cells : List SV} {k : Option Prop → Ct → Prop} (h : stC c addr cells k) :
    ∃ φ c', k φ c' ∧ (∀ nx, c.lt nx = true → ltL nx cells = true → c'.lt nx = true) ∧
      ∀ ρ : Rho, optP φ → offOf addr + cells.length ≤ (c.cells ρ).length ∧ c'.cells ρ = splice (c.cells ρ) (offOf addr) (denL ρ cells) := by
  have csCase : ∀ (l : List SV) (off : Nat), offOf addr = off → spliceK l off cells (fun l' => k none (.cs l')) →
     ∃ φ c', k φ c' ∧ (∀ nx, (Ct.cs l).lt nx = true → ltL nx cells = true → c'.lt nx = true) ∧
      ∀ ρ : Rho, optP φ → offOf addr + cells.length ≤ ((Ct.cs l).cells ρ).length ∧ c'.cells ρ = splice ((Ct.cs l).cells ρ) (offOf addr) (denL ρ cells) := by
    intro l off ho h
    obtain ⟨h1, h2⟩ := spliceK_sound h
    refine ⟨_, _, h2, fun nx h3 h4 => ltL_splice h3 h4, fun ρ _ => ?_⟩
    rw [ho]
    simp only [Ct.cells]
    exact ⟨by simpa [denL_map] using h1, denL_splice ρ l off cells⟩
  unfold stC at h
  split at h
  · exact csCase _ _ rfl h
  · exact csCase _ _ rfl h
  · rename_i α R xs n size i j
    cases hb : Nat.beq R.cols.length size with
    | false => rw [hb] at h; exact h.elim
    | true =>
      rw [hb] at h
      have hs := Nat.eq_of_beq_eq_true hb
      subst hs
      have h1 := rowK_sound h
      obtain ⟨h2, h3⟩ := spliceK_sound h1
      obtain ⟨vs, h4, h5⟩ := plainK_sound h3
      obtain ⟨x', h6, h7⟩ := ofK_sound h5
      refine ⟨_, _, h7, fun _ _ _ => rfl, fun ρ hφ => ?_⟩
      have hrow : ∀ x : α, (R.cols.map (fun f => f x)).length = R.cols.length := by simp
      have e1 := congrArg (denL ρ) h4
      rw [denL_splice, denL_vs, denL_v] at e1
      have e2 := R.law vs x' h6
      simp only [List.length_map] at h2
      have hcl : (denL ρ cells).length = cells.length := by simp [denL_map]
      refine ⟨?_, ?_⟩
      · simp only [offOf, Ct.cells]
        have := (flat_cut R.cols R.d xs i j cells.length hφ h2).1
        omega
      · simp only [offOf, Ct.cells]
        exact flat_set _ R.cols.length hrow R.d x' xs i j _ hφ (by rw [hcl]; exact h2) (by rw [e2, ← e1])
  · exact h.elim

def fnd : List Ob → Nat → Option Ob
  | [], _ => none
  | o :: r, n => bif Nat.beq o.n n then some o else fnd r n
def updL : List Ob → Nat → Ct → List Ob
  | [], _, _ => []
  | o :: r, n, c => bif Nat.beq o.n n then ⟨o.n, o.own, o.ty, o.size, o.cap, c⟩ :: r else o :: updL r n c
theorem obK_fnd {n : Nat} {k : Ob → Prop} : ∀ {L : List Ob}, obK L n k → ∃ o, fnd L n = some o ∧ k o
  | [], h => h.elim
  | o :: r, h => by
    simp only [obK, fnd] at *
    cases hb : Nat.beq o.n n with
    | true => rw [hb] at h; exact ⟨o, rfl, h⟩
    | false => rw [hb] at h; exact obK_fnd h
theorem updK_sound {n : Nat} {c : Ct} : ∀ {L : List Ob} {k : List Ob → Prop}, updK L n c k → k (updL L n c)
  | [], _, h => h.elim
  | o :: r, k, h => by
    simp only [updK, updL] at *
    cases hb : Nat.beq o.n n with
    | true => rw [hb] at h; exact h
    | false => rw [hb] at h; exact updK_sound h
theorem fnd_split {n : Nat} {o : Ob} : ∀ {L : List Ob}, fnd L n = some o → o.n = n ∧ ∃ l1 l2, L = l1 ++ o :: l2 ∧ ∀ c, updL L n c = l1 ++ ⟨o.n, o.own, o.ty, o.size, o.cap, c⟩ :: l2
  | [], h => by cases h
  | x :: r, h => by
    simp only [fnd] at h
    cases hb : Nat.beq x.n n with
    | true =>
      rw [hb] at h
      simp at h
      subst h
      exact ⟨Nat.eq_of_beq_eq_true hb, [], r, rfl, fun c => by simp [updL, hb]⟩
    | false =>
      rw [hb] at h
      obtain ⟨h1, l1, l2, h2, h3⟩ := fnd_split (L := r) h
      exact ⟨h1, x :: l1, l2, by simp [h2], fun c => by simp [updL, hb, h3 c]⟩

theorem setRow_below {w W : World} {g : Nat} {cs : Array Value} (h : Below w.heap.size w W) (hg : w.heap.size ≤ g) : Below w.heap.size w (W.setRow g cs) :=
  ⟨h.os, h.tape, h.output, by simpa [World.setRow] using h.size, fun k hk => by
    have : (W.setRow g cs).heap[k]? = W.heap[k]? := by
      simp only [World.setRow, Array.getElem?_modify]
      rw [if_neg (by omega)]
    rw [this]
    exact h.block k hk⟩
theorem setRow_other {W : World} {g k : Nat} {cs : Array Value} (hk : g ≠ k) : (W.setRow g cs).heap[k]? = W.heap[k]? := by
  simp only [World.setRow, Array.getElem?_modify]
  rw [if_neg hk]
theorem ObOk.setRow {B : Nat} {ρ : Rho} {o : Ob} {W : World} {g : Nat} {cs : Array Value} (h : ObOk B ρ o W) (hg : B ≤ g) (hne : o.own = true → ∀ A, ρ o.n = some A → A.block ≠ g) (hz : ∀ b, Mk W b → b ≠ g) : ObOk B ρ o (W.setRow g cs) := by
  unfold ObOk at *
  split
  · rename_i ho
    rw [if_pos ho] at h
    rcases h with h | ⟨g', junk, h1, h2, h3, h4, h5⟩
    · exact .inl h
    · refine .inr ⟨g', junk, h1, h2, h3, h4, ?_⟩
      unfold Blk at *
      rw [setRow_other (Ne.symm (hne ho _ h1))]
      exact h5
  · rename_i ho
    rw [if_neg ho] at h
    intro hl
    obtain ⟨b, off, h1, h2, h3⟩ := h hl
    have hbg : g ≠ b := by
      rcases h2 with h2 | h2
      · omega
      · exact (hz b h2).symm
    refine ⟨b, off, h1, h2.imp id (fun h => h.kept (setRow_other hbg)), fun j u hu => ?_⟩
    rw [World.cell?_of_block (w := W) (a := ⟨b, off + j, none⟩) (setRow_other hbg)]
    exact h3 j u hu
/-- A store into an owned object. -/
theorem Hp.store {w : Ref} {ρ : Rho} {L : List Ob} {nx : Nat} {W : World} (h : Hp w ρ L nx W) {n : Nat} {o : Ob} (ho : fnd L n = some o) (hown : o.own = true) {c' : Ct} (hc' : c'.lt nx = true) {off : Nat} {vs : List Value}
    (hv : 0 < vs.length) (hoff : off + vs.length ≤ (o.c.cells ρ).length) (hcells : c'.cells ρ = splice (o.c.cells ρ) off vs) (h1 : ∀ v ∈ vs, v.oneCell' = true) (P : Program) :
    ∃ W', (storeCells (((ρ n).getD default).add off) vs).run P W = .ok () W' ∧ Hp w ρ (updL L n c') nx W' := by
  obtain ⟨hn, l1, l2, hL, hU⟩ := fnd_split ho
  have hmem : o ∈ L := by rw [hL]; simp
  have hok := h.obj o hmem
  unfold ObOk at hok
  rw [if_pos hown] at hok
  rcases hok with ⟨_, hnil, _⟩ | ⟨g, junk, hg, hB, hlen, hcap, hblk⟩
  · rw [hnil] at hoff
    simp only [List.length_nil] at hoff
    omega
  · have hst := run_storeCells_at P g off o.ty vs 0 (o.c.cells ρ ++ junk).toArray W hblk (by simp; omega) h1
    have hnew : ((o.c.cells ρ ++ junk).toArray.toList.take (off + 0) ++ vs ++ (o.c.cells ρ ++ junk).toArray.toList.drop (off + 0 + vs.length)) = c'.cells ρ ++ junk := by
      rw [hcells]
      have := splice_left (o.c.cells ρ) junk off vs hoff
      simpa [splice] using this
    rw [hnew] at hst
    refine ⟨_, by rw [← hn, hg]; simpa only [Option.getD_some, add_none, Nat.zero_add] using hst, ?_⟩
    rw [hU]
    have hdis := h.dis
    rw [hL] at hdis
    have hd1 := List.pairwise_append.1 hdis
    have hd2 := List.pairwise_cons.1 hd1.2.1
    have hfar : ∀ o', o' ∈ l1 ∨ o' ∈ l2 → o'.own = true → ∀ A, ρ o'.n = some A → A.block ≠ g := by
      intro o' ho' hw' A hA he
      have hobj := h.obj o' (by rw [hL]; rcases ho' with h | h <;> simp [h])
      unfold ObOk at hobj
      rw [if_pos hw'] at hobj
      rcases hobj with ⟨hx, _⟩ | ⟨g', _, hx, _⟩
      · rw [hx] at hA; cases hA
      · rw [hx] at hA
        cases hA
        simp at he
        subst he
        rcases ho' with h' | h'
        · exact hd1.2.2 o' h' o (by simp) hw' hown (by rw [hx]; simp) (by rw [hx, hg])
        · exact hd2.1 o' h' hown hw' (by rw [hg]; simp) (by rw [hx, hg])
    refine ⟨setRow_below h.bel hB, ?_, ?_, ?_, h.pin⟩
    · intro o' ho'
      simp only [List.mem_append, List.mem_cons] at ho'
      rcases ho' with h' | rfl | h'
      · exact (h.obj o' (by rw [hL]; simp [h'])).setRow hB (hfar o' (.inl h')) (fun b hb => hb.ne hblk)
      · unfold ObOk
        simp only [hown, if_true]
        refine .inr ⟨g, junk, hg, hB, ?_, hcap, setRow_heap W g _ _ _ _ hblk⟩
        rw [hcells, splice_len _ _ _ hoff]
        exact hlen
      · exact (h.obj o' (by rw [hL]; simp [h'])).setRow hB (hfar o' (.inr h')) (fun b hb => hb.ne hblk)
    · refine List.pairwise_append.2 ⟨hd1.1, List.pairwise_cons.2 ⟨fun o' h' => hd2.1 o' h', hd2.2⟩, ?_⟩
      intro a ha b hb
      rcases List.mem_cons.1 hb with rfl | hb
      · exact hd1.2.2 a ha o (by simp)
      · exact hd1.2.2 a ha b (by simp [hb])
    · intro o' ho'
      simp only [List.mem_append, List.mem_cons] at ho'
      rcases ho' with h' | rfl | h'
      · exact h.lt o' (by rw [hL]; simp [h'])
      · exact ⟨(h.lt o hmem).1, hc'⟩
      · exact h.lt o' (by rw [hL]; simp [h'])
theorem storeK_sound {L : List Ob} {addr : SV} {cells : List SV} {k : Option Prop → List Ob → Prop} (h : storeK L addr cells k) :
    ∃ φ L', k φ L' ∧ ∀ (P : Program) w ρ nx W, Hp w ρ L nx W → ltL nx cells = true → optP φ → ∃ A W', den ρ addr = .pointer (some A) ∧ (storeCells A (denL ρ cells)).run P W = .ok () W' ∧ Hp w ρ L' nx W' := by
  unfold storeK at h
  split at h
  · rename_i n hn
    obtain ⟨o, ho, h1⟩ := obK_fnd h
    cases hb : (o.own && (cells.all scal && Nat.blt 0 cells.length)) with
    | false => rw [hb] at h1; exact h1.elim
    | true =>
      rw [hb] at h1
      simp only [cond_true] at h1
      simp only [Bool.and_eq_true, blt_iff, List.all_eq_true] at hb
      obtain ⟨φ, c', h2, h3, h4⟩ := stC_sound h1
      have h5 := updK_sound h2
      refine ⟨φ, _, h5, fun P w ρ nx W hp hlt hφ => ?_⟩
      obtain ⟨h6, h7⟩ := h4 ρ hφ
      have hcl : (denL ρ cells).length = cells.length := by simp [denL_map]
      obtain ⟨hnn, l1, l2, hL, _⟩ := fnd_split ho
      obtain ⟨W', h8, h9⟩ := hp.store ho hb.1 (h3 nx (hp.lt o (by rw [hL]; simp)).2 hlt) (off := offOf addr) (vs := denL ρ cells) (by omega) (by omega) h7 (by
        intro v hv
        rw [denL_map] at hv
        obtain ⟨x, hx, rfl⟩ := List.mem_map.1 hv
        exact scal_one (hb.2.1 x hx) ρ) P
      exact ⟨_, W', den_addr hn, h8, h9⟩
  · exact h.elim
end Go.Proofs.YtebfhljamoapjaaDoor
namespace Go.Proofs.YtebfhljamoapjaaDoor
open Go.RowKit
set_option linter.unusedVariables false
set_option linter.unusedSimpArgs false
set_option linter.unnecessarySimpa false

def obE (φ : Option Prop) (X : Prop) : Prop :=
  match φ with
  | none => X
  | some φ => φ ∧ X
theorem obE_sound {φ : Option Prop} {X : Prop} (h : obE φ X) : optP φ ∧ X := by
  cases φ with
  | none => exact ⟨trivial, h⟩
  | some φ => exact h

section
variable {P : Program} {w : Ref} {T : Tab} {env : Env} {L : List Ob} {nx : Nat} {cur : Pth} {k : SV → List Ob → Nat → Prop}

def zcK (v : Value) (k : List SV → Prop) : Prop :=
  match v with
  | .agg cs => vsK cs.toList k
  | .int kk z => k [.v (.int kk z)]
  | .string s => k [.v (.string s)]
  | .bool b => k [.v (.bool b)]
  | .slice a l c => k [.v (.slice a l c)]
  | .pointer a => k [.v (.pointer a)]
  | .nilFunc => k [.v .nilFunc]
  | _ => False
theorem zcK_sound {v : Value} {k : List SV → Prop} (h : zcK v k) : k (v.cells.toList.map SV.v) := by
  unfold zcK at h
  split at h
  · exact vsK_sound h
  all_goals first | exact h.elim | simpa [Value.cells] using h
def appLK : List SV → List SV → (List SV → Prop) → Prop := appK
def repK : Nat → List SV → (List SV → Prop) → Prop
  | 0, _, k => k []
  | n + 1, zs, k => repK n zs (fun l => appK zs l k)
theorem repK_sound : ∀ {n : Nat} {zs : List SV} {k : List SV → Prop}, repK n zs k → k ((List.replicate n zs).flatten)
  | 0, zs, k, h => by simpa [repK] using h
  | n + 1, zs, k, h => by
    have := appK_sound (repK_sound (n := n) h)
    simpa [List.replicate_succ] using this
theorem range_rep (zs : List Value) (hz : 0 < zs.length) : ∀ n : Nat, ((Array.range (n * zs.length)).map (fun i => zs.toArray[i % zs.toArray.size]!)).toList = (List.replicate n zs).flatten := by
  intro n
  have hlen : ((List.replicate n zs).flatten).length = n * zs.length := by simp [List.sum_replicate_nat]
  apply List.ext_getElem
  · simp [hlen]
  · intro i h1 h2
    simp at h1
    have hm : i % zs.length < zs.length := Nat.mod_lt _ hz
    simp only [Array.toList_map, Array.toList_range, List.getElem_map, List.getElem_range, List.size_toArray]
    have key : ∀ (n i : Nat), i < n * zs.length → ((List.replicate n zs).flatten)[i]? = some zs[i % zs.length]! := by
      intro n
      induction n with
      | zero => intro i hi; simp at hi
      | succ n ih =>
        intro i hi
        simp only [List.replicate_succ, List.flatten_cons]
        by_cases hlt : i < zs.length
        · rw [List.getElem?_append_left hlt, Nat.mod_eq_of_lt hlt]
          simp [hlt]
        · rw [List.getElem?_append_right (by omega), ih _ (by rw [Nat.succ_mul] at hi; omega)]
          congr 2
          exact (Nat.mod_eq_sub_mod (by omega)).symm
    have h3 := key n i h1
    rw [List.getElem?_eq_getElem h2] at h3
    injection h3 with h3
    rw [h3]
    simp [hm]

/-- Functions without a text of their own. -/
def extF : List Nat := [0, 1, 65, 76, 78, 84, 86, 87, 88, 89, 90, 91, 92, 93, 94, 95, 96, 97, 98, 99, 100, 101, 102, 103, 104, 105, 106]
def nqK (kp : Bool) (P : Program) (w : Ref) (T : Tab) (env : Env) (L : List Ob) (nx : Nat) (cur : Pth) (o : Oper) (k : SV → List Ob → Nat → Prop) : Prop :=
  match o.op with
  | .alloc t => tyK T t (fun ti => zcK ti.zero (fun cs => bif Nat.beq cs.length ti.size then k (.p nx 0) (⟨nx, true, t, ti.size, 1, .cs cs⟩ :: L) (nx + 1) else False))
  | .box t x => tyK T t (fun ti => evK env cur x (fun v => flatK v (fun cs => bif Nat.beq cs.length ti.size then k (.p nx 0) (⟨nx, true, t, ti.size, 1, .cs cs⟩ :: L) (nx + 1) else False)))
  | .buildSlice t len parts => tyK T t (fun ti => match ti.d with
    | .slice el => tyK T el (fun te => bif Nat.blt 0 te.size && Nat.ble (len * te.size) 16777216 then partsK env cur parts.toList (fun vs => zcK te.zero (fun zs => bif Nat.beq zs.length te.size then repK len zs (fun cs0 =>
        fillK (fun i k => k (i * te.size) te.size) cs0 vs (fun cs => bif Nat.beq cs.length (len * te.size) then k (.s nx te.size len len) (⟨nx, true, el, te.size, len, .cs cs⟩ :: L) (nx + 1) else False)) else False)) else False)
    | _ => False)
  | .store t a x => bif kp then False else tyK T t (fun ti => evK env cur a (fun addr => evK env cur x (fun v => flatK v (fun cs => bif Nat.beq cs.length ti.size then storeK L addr cs (fun φ L' => obE φ (k (.v undef) L' nx)) else False))))
  | .makeSlice t l c => evK env cur l (fun l => evK env cur c (fun c => EvMake kp P w t l c L nx k))
  | .call c => (match c.callee with
    | .value f => evK env cur f (fun fv => match fv with
      | .f fn caps => bif extF.any (Nat.beq fn) then EvOp kp P w env cur o L nx k else evsK env cur c.args.toList (fun vs => appK vs caps (fun as => EvCall kp P w fn as L nx k))
      | .m fn fst => evsK env cur c.args.toList (fun vs => appK fst vs (fun as => EvCall kp P w fn as L nx k))
      | _ => False)
    | .builtin b => evsK env cur c.args.toList (fun vs => EvBi kp P w b vs c.argTypes.toList L nx k)
    | _ => False)
  | _ => EvOp kp P w env cur o L nx k

/-- The step is sound. -/
def NqOk (kp : Bool) (P : Program) (w : Ref) (env : Env) (L : List Ob) (nx : Nat) (cur : Pth) (o : Oper) (k : SV → List Ob → Nat → Prop) : Prop :=
  ∀ ρ G a W, Fk ρ G env nx a → holdsB G cur = true → Hp w ρ L nx W → ∀ (next : Act → World → Prop) (Q : Exit → Act → World → Prop), (∀ v W', Res w ρ nx kp W k v W' → next (a.put o.dst v) W') → o.wp P a W next Q
theorem nq_new {kp : Bool} {ρ : Rho} {W : World} (hp : Hp w ρ L nx W) {t : TypeId} {size cap : Nat} {cs : List SV} {v : SV} (hlt : ltL nx cs = true) (hv : v.lt (nx + 1) = true) (hl : cs.length = cap * size) (hcap : cap ≤ maxLen)
    (h : k v (⟨nx, true, t, size, cap, .cs cs⟩ :: L) (nx + 1)) : Res w ρ nx kp W k (den (upd ρ nx (some ⟨W.heap.size, 0, none⟩)) v) (W.alloc (.cells (denL ρ cs).toArray t)) := by
  have e : denL (upd ρ nx (some ⟨W.heap.size, 0, none⟩)) cs = denL ρ cs := denL_agree (agree_upd ρ nx _) cs hlt
  refine ⟨fun _ => (Below.refl _ _).alloc (Nat.le_refl _) _, _, v, _, _, rfl, agree_upd ρ nx _, by omega, hv, ?_, h⟩
  refine hp.new ((Below.refl _ _).alloc (Nat.le_refl _) _) _ _ rfl rfl (ltL_mono (by omega) _ hlt) (.inr ⟨W.heap.size, [], upd_same _ _ _, Nat.le_refl _, ?_, hcap, ?_⟩)
  · simp only [Ct.cells, e]
    simp [denL_map, hl]
  · simp only [Ct.cells, e, List.append_nil]
    exact Blk.new W t _
theorem nqK_sound {kp : Bool} {o : Oper} (hT : TabOk P T) (h : nqK kp P w T env L nx cur o k) : NqOk kp P w env L nx cur o k := by
  intro ρ G a W hf hg hp next Q hn
  have val : ∀ v W', (execOp a.eval o).run P W = .ok (.value v) W' → Res w ρ nx kp W k v W' → o.wp P a W next Q := by
    intro v W' he hr
    unfold Oper.wp
    rw [he]
    exact hn v W' hr
  unfold nqK at h
  split at h
  · rename_i t hop
    obtain ⟨ti, hti, h1⟩ := tyK_sound hT h
    have h2 := zcK_sound h1
    cases hb : Nat.beq (ti.zero.cells.toList.map SV.v).length ti.size with
    | false => rw [hb] at h2; exact h2.elim
    | true =>
      rw [hb] at h2
      have hs := Nat.eq_of_beq_eq_true hb
      have hr := nq_new (kp := kp) (k := k) hp (t := t) (size := ti.size) (cap := 1) (v := .p nx 0) (ltL_v _) (by simp [SV.lt, blt_iff]) (by simpa using hs) (by simp [maxLen]) h2
      refine val _ _ ?_ hr
      simp [execOp, hop, Instr.alloc, hti.zeroV W, newVar, newRow, newObj, Sem.run, den, upd_same, denL_v, Addr.add]
  · rename_i t x hop
    obtain ⟨ti, hti, h1⟩ := tyK_sound hT h
    obtain ⟨v, h2, hx⟩ := evK_sound h1
    obtain ⟨cs, h3, h4, h5⟩ := flatK_sound h2
    cases hb : Nat.beq cs.length ti.size with
    | false => rw [hb] at h3; exact h3.elim
    | true =>
      rw [hb] at h3
      have hs := Nat.eq_of_beq_eq_true hb
      have e := hx ρ G nx a hf hg
      have hr := nq_new (kp := kp) (k := k) hp (t := t) (size := ti.size) (cap := 1) (v := .p nx 0) (h4 nx e.2) (by simp [SV.lt, blt_iff]) (by simpa using hs) (by simp [maxLen]) h3
      refine val _ _ ?_ hr
      simp [execOp, hop, Instr.box, newVar, newRow, newObj, Sem.run, den, upd_same, e.1, h5, Addr.add]
  · rename_i t len parts hop
    obtain ⟨ti, hti, h1⟩ := tyK_sound hT h
    split at h1
    · rename_i el hd
      obtain ⟨te, hte, h2⟩ := tyK_sound hT h1
      cases hb : (Nat.blt 0 te.size && Nat.ble (len * te.size) 16777216) with
      | false => rw [hb] at h2; exact h2.elim
      | true =>
        rw [hb] at h2
        simp only [Bool.and_eq_true, blt_iff, Nat.ble_eq] at hb
        obtain ⟨vs, h3, hv⟩ := partsK_sound h2
        have h4 := zcK_sound h3
        cases hb2 : Nat.beq (te.zero.cells.toList.map SV.v).length te.size with
        | false => rw [hb2] at h4; exact h4.elim
        | true =>
          rw [hb2] at h4
          have hs := Nat.eq_of_beq_eq_true hb2
          simp only [List.length_map, Array.length_toList] at hs
          have h5 := repK_sound h4
          obtain ⟨cs, h6, h7, h8⟩ := fillK_sound (place := fun i => some (i * te.size, te.size)) (by
            intro i k hk
            exact ⟨_, _, rfl, hk⟩) h5
          cases hb3 : Nat.beq cs.length (len * te.size) with
          | false => rw [hb3] at h6; exact h6.elim
          | true =>
            rw [hb3] at h6
            have hl := Nat.eq_of_beq_eq_true hb3
            have e := hv ρ G nx a hf hg
            have e8 := h8 ρ
            have hrep : (List.replicate len (te.zero.cells.toList.map SV.v)).flatten = ((List.replicate len te.zero.cells.toList).flatten).map SV.v := by
              simp [List.map_flatten]
            rw [hrep, denL_v, ← e.1] at e8
            have hlt : ltL nx cs = true := h7 nx (by rw [hrep]; exact ltL_v _) e.2
            have hlen : len ≤ 16777216 := Nat.le_trans (Nat.le_mul_of_pos_right len hb.1) hb.2
            have hr := nq_new (kp := kp) (k := k) hp (t := el) (size := te.size) (cap := len) (v := .s nx te.size len len) hlt (by simp [SV.lt, blt_iff]) hl (by simp [maxLen]; omega) h6
            refine val _ _ ?_ hr
            have u := hti.under W
            rw [hd] at u
            have hzl : te.zero.cells.toList.length = te.size := by simpa using hs
            have hrr := range_rep te.zero.cells.toList (by rw [hzl]; exact hb.1) len
            rw [hzl] at hrr
            have hcells : (Array.range (len * te.size)).map (fun x => te.zero.cells[x % te.zero.cells.size]!) = ((List.replicate len te.zero.cells.toList).flatten).toArray := by
              apply Array.ext'
              rw [← hrr]
            have hbig : ¬ (16777216 < len * te.size) := by omega
            simp only [execOp, hop, Instr.buildSlice]
            simp only [Sem.run_bind, u, hte.sizeOf W, Result.andThen_ok, Sem.run_pure]
            simp [hbig, hte.sizeOf W, newRow, newObj, Sem.run, den, upd_same, -Array.size_range]
            by_cases h0 : len * te.size = 0
            · have hl0 : len = 0 := by
                rcases Nat.mul_eq_zero.1 h0 with h0 | h0
                · exact h0
                · omega
              subst hl0
              have hr0 : Array.map (fun x : Nat => (default : Value)) (Array.range 0) = #[] := by simp
              simp at e8
              simp [hr0, e8, Sem.run]
            · simp [h0, hte.zeroV W, hcells, e8, Sem.run]
    · exact h1.elim
  · rename_i t x y hop
    cases kp with
    | true => exact h.elim
    | false =>
    obtain ⟨ti, hti, h1⟩ := tyK_sound hT h
    obtain ⟨addr, h2, ha⟩ := evK_sound h1
    obtain ⟨v, h3, hx⟩ := evK_sound h2
    obtain ⟨cs, h4, h5, h6⟩ := flatK_sound h3
    cases hb : Nat.beq cs.length ti.size with
    | false => rw [hb] at h4; exact h4.elim
    | true =>
      rw [hb] at h4
      have hs := Nat.eq_of_beq_eq_true hb
      obtain ⟨φ, L', h7, h8⟩ := storeK_sound h4
      obtain ⟨hφ, h9⟩ := obE_sound h7
      have e := hx ρ G nx a hf hg
      obtain ⟨A, W', h10, h11, h12⟩ := h8 P w ρ nx W hp (h5 nx e.2) hφ
      have ea := (ha ρ G nx a hf hg).1
      rw [h10] at ea
      unfold Oper.wp
      have hrun : (execOp a.eval o).run P W = .ok .skip W' := by
        have hz : (den ρ v).cells.size = ti.size := by rw [h6 ρ]; simp [denL_map, hs]
        have hz2 : (den ρ v).cells.toList = denL ρ cs := by rw [h6 ρ]
        simp [execOp, hop, Instr.storeAt, ea, e.1, Instr.sureAddr, storeVar, hti.sizeOf W, hz, hz2, h11]
      rw [hrun]
      exact hn undef W' ⟨(fun hh => absurd hh (by simp)), ρ, .v undef, L', nx, by simp [den], fun _ _ => rfl, Nat.le_refl _, rfl, h12, h9⟩
  · rename_i t x y hop
    obtain ⟨l, h1, hl⟩ := evK_sound h
    obtain ⟨c, h2, hc⟩ := evK_sound h1
    obtain ⟨v, W', h3, h4⟩ := h2.go ρ W hp
    refine val v W' ?_ h4
    simp [execOp, hop, (hl ρ G nx a hf hg).1, (hc ρ G nx a hf hg).1, h3]
  · rename_i c hop
    obtain ⟨callee, args, ts⟩ := c
    simp only at h
    split at h
    · rename_i f
      obtain ⟨fv, h1, hfv⟩ := evK_sound h
      split at h1
      · rename_i fn caps
        cases hext : extF.any (Nat.beq fn) with
        | true =>
          rw [hext] at h1
          obtain ⟨v, W', h3, h4⟩ := EvOp.go h1 ρ G a W hf hg hp
          exact val v W' h3 h4
        | false =>
        rw [hext] at h1
        obtain ⟨vs, h2, hvs⟩ := evsK_sound h1
        have h3 := appK_sound h2
        have e1 := hfv ρ G nx a hf hg
        have e2 := hvs ρ G nx a hf hg
        have hlt : ltL nx (vs ++ caps) = true := by
          rw [ltL_iff]
          intro x hx
          rcases List.mem_append.1 hx with hx | hx
          · exact (ltL_iff _ _).1 e2.2 x hx
          · exact (ltL_iff _ _).1 (by simpa [SV.lt] using e1.2) x hx
        have hc := h3.go ρ W hp hlt
        have hargs : (args.map a.eval) ++ (denL ρ caps).toArray = (denL ρ (vs ++ caps)).toArray := by
          apply Array.ext'
          simp only [Array.toList_append, Array.toList_map, e2.1]
          simp [denL_map]
        unfold Oper.wp
        have hrun : (execOp a.eval o).run P W = .ok (.enter fn (denL ρ (vs ++ caps)).toArray) W := by
          simp only [execOp, hop, resolve, e1.1, den]
          simp [Deferred.ofValue, invoke, hargs, h3.ent]
        rw [hrun]
        exact hc.mono fun e W' he => by
          obtain ⟨v, rfl, hr⟩ := he
          exact hn v W' hr
      · rename_i fn fst
        obtain ⟨vs, h2, hvs⟩ := evsK_sound h1
        have h3 := appK_sound h2
        have e1 := hfv ρ G nx a hf hg
        have e2 := hvs ρ G nx a hf hg
        have hlt : ltL nx (fst ++ vs) = true := by
          rw [ltL_iff]
          intro x hx
          rcases List.mem_append.1 hx with hx | hx
          · exact (ltL_iff _ _).1 (by simpa [SV.lt] using e1.2) x hx
          · exact (ltL_iff _ _).1 e2.2 x hx
        have hc := h3.go ρ W hp hlt
        have hargs : (denL ρ fst).toArray ++ (args.map a.eval) = (denL ρ (fst ++ vs)).toArray := by
          apply Array.ext'
          simp only [Array.toList_append, Array.toList_map, e2.1]
          simp [denL_map]
        unfold Oper.wp
        have hrun : (execOp a.eval o).run P W = .ok (.enter fn (denL ρ (fst ++ vs)).toArray) W := by
          simp only [execOp, hop, resolve, e1.1, den]
          simp [Deferred.ofValue, invoke, hargs, h3.ent]
        rw [hrun]
        exact hc.mono fun e W' he => by
          obtain ⟨v, rfl, hr⟩ := he
          exact hn v W' hr
      · exact h1.elim
    · rename_i b
      obtain ⟨vs, h1, hvs⟩ := evsK_sound h
      have e2 := hvs ρ G nx a hf hg
      obtain ⟨v, W', h3, h4⟩ := h1.go ρ W hp e2.2 o.type (args.map fun | .const _ => true | _ => false)
      refine val v W' ?_ h4
      have hargs : args.map a.eval = (denL ρ vs).toArray := by
        apply Array.ext'
        simp [e2.1]
      simp only [execOp, hop, resolve, hargs, Sem.run_bind, Sem.run_pure, Result.andThen_ok, invoke]
      exact h3
    · exact h.elim
  · obtain ⟨v, W', h3, h4⟩ := h.go ρ G a W hf hg hp
    exact val v W' h3 h4
end
end Go.Proofs.YtebfhljamoapjaaDoor
namespace Go.Proofs.YtebfhljamoapjaaDoor
open Go.RowKit
set_option linter.unusedVariables false
set_option linter.unusedSimpArgs false
set_option linter.unnecessarySimpa false

/-- A call of a Go function that is made under a condition, and only yields a value. -/
structure EvCallC (c : Prop) (kp : Bool) (P : Program) (w : Ref) (f : FuncId) (args : List SV) (L : List Ob) (nx : Nat) (k : SV → List Ob → Nat → Prop) : Prop where
  ent : ∀ args W, (callFunc f args).run P W = .ok (.enter f args) W
  go : (∃ v : SV, v.lt nx = true ∧ (c → ∀ ρ W, Hp w ρ L nx W → ltL nx args = true → Calls P f (denL ρ args).toArray W (fun e W' => e = .returned (den ρ v) ∧ Below W.heap.size W W')) ∧ k v L nx) ∨
    (c ∧ ∀ ρ W, Hp w ρ L nx W → ltL nx args = true → Calls P f (denL ρ args).toArray W (ResE w ρ nx kp W k))

def condK (G : Gd) : Pth → (Prop → Prop) → Prop
  | [], k => k True
  | [(s, want)], k => ofK (lkG G s) (fun b => k (b = want))
  | (s, want) :: x :: r, k => ofK (lkG G s) (fun b => condK G (x :: r) (fun c => k (b = want ∧ c)))
theorem condK_iff {G : Gd} : ∀ {p : Pth} {k : Prop → Prop}, condK G p k → ∃ c, k c ∧ (holdsB G p = true ↔ c)
  | [], k, h => ⟨True, h, by simp [holdsB]⟩
  | [(s, want)], k, h => by
    obtain ⟨b, h1, h2⟩ := ofK_sound h
    exact ⟨_, h2, by simp [holdsB, h1]⟩
  | (s, want) :: x :: r, k, h => by
    obtain ⟨b, h1, h2⟩ := ofK_sound h
    obtain ⟨c, h3, h4⟩ := condK_iff h2
    refine ⟨_, h3, ?_⟩
    have e : holdsB G ((s, want) :: x :: r) = ((b == want) && holdsB G (x :: r)) := by
      unfold holdsB
      simp only [List.all_cons, h1]
    rw [e, Bool.and_eq_true, h4]
    simp
theorem condK_sound {G : Gd} {p : Pth} {k : Prop → Prop} (h : condK G p k) : ∃ c, k c ∧ (holdsB G p = true → c) := by
  obtain ⟨c, h1, h2⟩ := condK_iff h
  exact ⟨c, h1, h2.1⟩
def obG (G : Gd) (cur : Pth) (φ : Option Prop) (X : Prop) : Prop :=
  match φ with
  | none => X
  | some φ => (match cur with
    | [] => φ ∧ X
    | c :: cs => condK G (c :: cs) (fun q => (q → φ) ∧ X))
theorem obG_sound {G : Gd} {cur : Pth} {φ : Option Prop} {X : Prop} (h : obG G cur φ X) : (holdsB G cur = true → optP φ) ∧ X := by
  unfold obG at h
  split at h
  · exact ⟨fun _ => trivial, h⟩
  · split at h
    · exact ⟨fun _ => h.1, h.2⟩
    · obtain ⟨c, h1, h2⟩ := condK_sound h
      exact ⟨fun hh => h1.1 (h2 hh), h1.2⟩
def putK (N : Nat) (G : Gd) (env : Env) (dst : Option Tmp) (p : Pth) (v : SV) (k : Env → Prop) : Prop :=
  match dst with
  | none => k env
  | some d => bif Nat.blt d N && (lkG G d).isNone then k ((d, p, v) :: env) else False
theorem putK_sound {N : Nat} {G : Gd} {env : Env} {dst : Option Tmp} {p : Pth} {v : SV} {k : Env → Prop} (h : putK N G env dst p v k) : ∃ env', k env' ∧
    ∀ ρ nx a, Fk ρ G env nx a → a.tmps.size = N → (holdsB G p = true → v.lt nx = true) → (∀ x ∈ p, (lkG G x.1).isSome = true) → Fk ρ G env' nx (a.put dst (if holdsB G p then den ρ v else undef)) := by
  unfold putK at h
  split at h
  · exact ⟨env, h, fun ρ nx a hf _ _ _ => hf⟩
  · rename_i d
    cases hb : (Nat.blt d N && (lkG G d).isNone) with
    | false => rw [hb] at h; exact h.elim
    | true =>
      rw [hb] at h
      simp only [Bool.and_eq_true, blt_iff, Option.isNone_iff_eq_none] at hb
      exact ⟨_, h, fun ρ nx a hf hN hv hp => hf.put (by omega) hb.2 hv hp⟩
def gdK (all : List Oper) (env : Env) (G : Gd) (g : Option (Nat × Bool)) (k : Gd → Pth → Prop) : Prop :=
  match g with
  | none => k G []
  | some (j, want) => nthK all j (fun oj => match oj.dst with
    | some s => lkK env s (fun ps vs => asB vs (fun b => match lkG G s with
      | some _ => k G ((s, want) :: ps)
      | none => k ((s, b) :: G) ((s, want) :: ps)))
    | none => False)
theorem undef_nb (b : Bool) : undef ≠ .bool b := by
  simp [undef]
theorem gdK_sound {all : List Oper} {env : Env} {G : Gd} {g : Option (Nat × Bool)} {k : Gd → Pth → Prop} (h : gdK all env G g k) : ∃ G' cur, k G' cur ∧ ∀ ρ nx a, Fk ρ G env nx a →
    Fk ρ G' env nx a ∧ (∀ x ∈ cur, (lkG G' x.1).isSome = true) ∧ ∀ o : Oper, o.guard = g → Region.wanted o (yielded all.toArray a.tmps) = holdsB G' cur := by
  unfold gdK at h
  split at h
  · exact ⟨G, [], h, fun ρ nx a hf => ⟨hf, by simp, fun o ho => by simp [Region.wanted, ho, holdsB]⟩⟩
  · rename_i j want
    obtain ⟨oj, h1, h2⟩ := nthK_sound h
    clear h
    split at h2
    · rename_i s hs
      obtain ⟨ps, vs, h3, h4⟩ := lkK_sound h2
      obtain ⟨b, rfl, h5⟩ := asB_sound h4
      clear h2 h4
      have key : ∀ (G' : Gd) ρ nx a, Fk ρ G' env nx a → lkG G' s = some b → (∀ x ∈ ((s, want) :: ps : Pth), (lkG G' x.1).isSome = true) ∧ ∀ o : Oper, o.guard = some (j, want) → Region.wanted o (yielded all.toArray a.tmps) = holdsB G' ((s, want) :: ps) := by
        intro G' ρ nx a hf hb
        refine ⟨?_, fun o ho => ?_⟩
        · intro x hx
          rcases List.mem_cons.1 hx with rfl | hx
          · simp [hb]
          · exact hf.clo s ps _ h3 x hx
        · have hsl := hf.slots s ps _ h3
          have hy : yielded all.toArray a.tmps j = if holdsB G' ps then some b else none := by
            simp only [yielded, List.getElem?_toArray, h1, Option.bind_some, hs, hsl]
            cases holdsB G' ps with
            | true => simp [den]
            | false =>
              simp only [Bool.false_eq_true, if_false]
              rfl
          have hc : holdsB G' ((s, want) :: ps) = (b == want && holdsB G' ps) := by
            unfold holdsB
            simp only [List.all_cons, hb]
          rw [hc]
          simp only [Region.wanted, ho, hy]
          cases holdsB G' ps with
          | true => simp
          | false => simp
      split at h5
      · rename_i b' hb'
        refine ⟨G, _, h5, fun ρ nx a hf => ?_⟩
        have hbb : lkG G s = some b := by
          obtain ⟨p', hp'⟩ := hf.gok s b' hb'
          rw [h3] at hp'
          simp at hp'
          rw [hb', hp'.2]
        exact ⟨hf, key G ρ nx a hf hbb⟩
      · rename_i hb'
        refine ⟨_, _, h5, fun ρ nx a hf => ?_⟩
        have hf' := hf.addG hb' h3
        exact ⟨hf', key _ ρ nx a hf' (by simp [lkG])⟩
    · exact h2.elim
/-- Only what holds without condition is kept behind a region. -/
def clK : Env → List Nat → (Env → Prop) → Prop
  | [], _, k => k []
  | (t, p, v) :: r, dr, k => match p with
    | [] => (match dr with
      | [] => clK r [] (fun l => k ((t, [], v) :: l))
      | d :: ds => bif List.any (d :: ds) (Nat.beq t) then clK r (d :: ds) k else clK r (d :: ds) (fun l => k ((t, [], v) :: l)))
    | _ :: _ => clK r (t :: dr) k
theorem clK_sound : ∀ {env : Env} {dr : List Nat} {k : Env → Prop}, clK env dr k → ∃ env', k env' ∧ ∀ t p v, lk env' t = some (p, v) → p = [] ∧ t ∉ dr ∧ lk env t = some (p, v)
  | [], dr, k, h => ⟨[], h, fun t p v hl => by simp [lk] at hl⟩
  | (t, p, v) :: r, dr, k, h => by
    have lkc : ∀ (p : Pth) (v : SV) (r : Env) (t' : Nat), lk ((t, p, v) :: r) t' = if t = t' then some (p, v) else lk r t' := by
      intro p v r t'
      simp only [lk]
      cases hb : Nat.beq t t' with
      | true => simp [Nat.eq_of_beq_eq_true hb]
      | false => simp [Nat.ne_of_beq_eq_false hb]
    have keepC : ∀ (dr : List Nat), t ∉ dr → clK r dr (fun l => k ((t, [], v) :: l)) → ∃ env', k env' ∧ ∀ t' p' v', lk env' t' = some (p', v') → p' = [] ∧ t' ∉ dr ∧ lk ((t, [], v) :: r) t' = some (p', v') := by
      intro dr hdr h
      obtain ⟨env', h1, h2⟩ := clK_sound h
      refine ⟨_, h1, fun t' p' v' hl => ?_⟩
      rw [lkc] at hl ⊢
      split at hl
      · rename_i e
        subst e
        simp at hl
        obtain ⟨rfl, rfl⟩ := hl
        exact ⟨rfl, hdr, by simp⟩
      · rename_i e
        obtain ⟨a1, a2, a3⟩ := h2 t' p' v' hl
        exact ⟨a1, a2, by rw [if_neg e]; exact a3⟩
    cases p with
    | nil =>
      cases dr with
      | nil => exact keepC [] (by simp) h
      | cons d ds =>
        simp only [clK] at h
        cases hb : List.any (d :: ds) (Nat.beq t) with
        | true =>
          rw [hb] at h
          obtain ⟨env', h1, h2⟩ := clK_sound h
          refine ⟨env', h1, fun t' p' v' hl => ?_⟩
          obtain ⟨a1, a2, a3⟩ := h2 t' p' v' hl
          refine ⟨a1, a2, ?_⟩
          rw [lkc, if_neg]
          · exact a3
          · rintro rfl
            obtain ⟨y, hy, e⟩ := List.any_eq_true.1 hb
            have := Nat.eq_of_beq_eq_true e
            subst this
            exact a2 hy
        | false =>
          rw [hb] at h
          refine keepC (d :: ds) ?_ h
          intro hm
          have := List.any_eq_false.1 hb t hm
          simp at this
    | cons x xs =>
      simp only [clK] at h
      obtain ⟨env', h1, h2⟩ := clK_sound h
      refine ⟨env', h1, fun t' p' v' hl => ?_⟩
      obtain ⟨a1, a2, a3⟩ := h2 t' p' v' hl
      simp at a2
      refine ⟨a1, a2.2, ?_⟩
      rw [lkc, if_neg (fun e => a2.1 e.symm)]
      exact a3
theorem Fk.clean {ρ : Rho} {G : Gd} {env env' : Env} {nx : Nat} {a : Act} (h : Fk ρ G env nx a) (he : ∀ t p v, lk env' t = some (p, v) → p = [] ∧ lk env t = some (p, v)) : Fk ρ [] env' nx a := by
  refine ⟨?_, fun s b hs => by simp [lkG] at hs, ?_, ?_⟩
  · intro t p v hl
    obtain ⟨rfl, h1⟩ := he t p v hl
    have := h.slots t [] v h1
    simpa [holdsB] using this
  · intro t p v hl
    obtain ⟨rfl, h1⟩ := he t p v hl
    simp
  · intro t p v hl
    obtain ⟨rfl, h1⟩ := he t p v hl
    intro _
    exact h.lt t [] v h1 rfl

/-- A guarded call. -/
def gcK (kp : Bool) (P : Program) (w : Ref) (T : Tab) (env : Env) (G : Gd) (L : List Ob) (nx : Nat) (cur : Pth) (o : Oper) (k : SV → List Ob → Nat → Prop) : Prop :=
  match o.op with
  | .call c => (match c.callee with
    | .value f => evK env cur f (fun fv => match fv with
      | .f fn caps => evsK env cur c.args.toList (fun vs => appK vs caps (fun as => condK G cur (fun q => EvCallC q kp P w fn as L nx k)))
      | _ => False)
    | _ => False)
  | _ => condK G cur (fun q => q ∧ nqK kp P w T env L nx cur o k)
/-- One operation, then ih. -/
def opK (P : Program) (w : Ref) (T : Tab) (N : Nat) (all : List Oper) (o : Oper) (ih : Gd → Env → List Ob → Nat → (Env → List Ob → Nat → Prop) → Prop) (G : Gd) (env : Env) (L : List Ob) (nx : Nat) (k : Env → List Ob → Nat → Prop) : Prop :=
  gdK all env G o.guard (fun G cur =>
    bif isQ o.op then quietK T env L cur o.op (fun φ v => obG G cur φ (putK N G env o.dst cur v (fun env' => ih G env' L nx k)))
    else match cur with
      | [] => nqK false P w T env L nx [] o (fun v L' nx' => putK N G env o.dst [] v (fun env' => ih G env' L' nx' k))
      | c :: cs => gcK false P w T env G L nx (c :: cs) o (fun v L' nx' => putK N G env o.dst (c :: cs) v (fun env' => ih G env' L' nx' k)))
/-- (By the recursor itself: so that what is left of it reads alike to Lean and to its kernel.) -/
noncomputable def vcOps (P : Program) (w : Ref) (T : Tab) (N : Nat) (all : List Oper) (l : List Oper) : Gd → Env → List Ob → Nat → (Env → List Ob → Nat → Prop) → Prop :=
  @List.rec Oper (fun _ => Gd → Env → List Ob → Nat → (Env → List Ob → Nat → Prop) → Prop) (fun _ env L nx k => clK env [] (fun env' => k env' L nx)) (fun o _ ih => opK P w T N all o ih) l

theorem vcOps_sound {P : Program} {w : Ref} {T : Tab} {N : Nat} {all : List Oper} {Q : Exit → Act → World → Prop} {k : Env → List Ob → Nat → Prop} (hT : TabOk P T)
    (hQ : ∀ ρ env L nx a W, Kn w N ρ [] env L nx a W → k env L nx → Q .normal a W) :
    ∀ (l : List Oper) (ρ : Rho) (G : Gd) (env : Env) (L : List Ob) (nx : Nat) (a : Act) (W : World), Kn w N ρ G env L nx a W → vcOps P w T N all l G env L nx k → wpList P all.toArray Q l a W
  | [], ρ, G, env, L, nx, a, W, hk, h => by
    obtain ⟨env', h1, h2⟩ := clK_sound h
    exact hQ ρ env' L nx a W ⟨hk.fk.clean (fun t p v hl => ⟨(h2 t p v hl).1, (h2 t p v hl).2.2⟩), hk.hp, hk.dfr, hk.size⟩ h1
  | o :: r, ρ, G, env, L, nx, a, W, hk, h => by
    have h' : opK P w T N all o (vcOps P w T N all r) G env L nx k := h
    unfold opK at h'
    clear h
    obtain ⟨G', cur, h1, h2⟩ := gdK_sound h'
    obtain ⟨hf, hcl, hw⟩ := h2 ρ nx a hk.fk
    have hw := hw o rfl
    clear h' h2
    refine wpList_step fun K hK => ?_
    rw [hw]
    have put_ok : ∀ (b : Act) (d : Option Tmp) (v : Value), (b.put d v).defers = b.defers ∧ (b.put d v).tmps.size = b.tmps.size := by
      intro b d v
      cases d <;> simp [Act.put]
    cases hq : isQ o.op with
    | true =>
      rw [hq] at h1
      simp only [cond_true] at h1
      obtain ⟨φ, v, h3, h4⟩ := quietK_sound (P := P) (w := w) (nx := nx) hT h1
      obtain ⟨hφ, h5⟩ := obG_sound h4
      obtain ⟨env', h6, h7⟩ := putK_sound h5
      cases hh : holdsB G' cur with
      | true =>
        obtain ⟨hlt, hrun⟩ := h3 ρ G' a W hf hh hk.hp (hφ hh)
        have hf' := h7 ρ nx a hf hk.size (fun _ => hlt) hcl
        rw [hh] at hf'
        rw [if_pos rfl]
        unfold Oper.wp
        rw [hrun o rfl]
        exact hK _ _ (vcOps_sound hT hQ r ρ G' env' L nx _ W ⟨hf', hk.hp, (put_ok a _ _).1.trans hk.dfr, (put_ok a _ _).2.trans hk.size⟩ h6)
      | false =>
        rw [if_neg (by simp)]
        have hsk : Fk ρ G' env' nx (a.put o.dst undef) := by
          have := h7 ρ nx a hf hk.size (fun hb => by rw [hh] at hb; cases hb) hcl
          rw [hh] at this
          simpa using this
        exact hK _ _ (vcOps_sound hT hQ r ρ G' env' L nx _ W ⟨hsk, hk.hp, (put_ok a _ _).1.trans hk.dfr, (put_ok a _ _).2.trans hk.size⟩ h6)
    | false =>
      rw [hq] at h1
      simp only [cond_false] at h1
      cases cur with
      | nil =>
        have h3 := nqK_sound hT h1
        rw [show holdsB G' [] = true from rfl, if_pos rfl]
        refine h3 ρ G' a W hf rfl hk.hp _ _ ?_
        rintro v W' ⟨-, ρ', sv, L', nx', rfl, ha, hn, hlt, hp', hk'⟩
        obtain ⟨env', h6, h7⟩ := putK_sound hk'
        have hf' := h7 ρ' nx' a (hf.agree ha hn) hk.size (fun _ => hlt) (by simp)
        rw [show holdsB G' [] = true from rfl, if_pos rfl] at hf'
        exact hK _ _ (vcOps_sound hT hQ r ρ' G' env' L' nx' _ W' ⟨hf', hp', (put_ok a _ _).1.trans hk.dfr, (put_ok a _ _).2.trans hk.size⟩ h6)
      | cons c cs =>
        simp only at h1
        unfold gcK at h1
        split at h1
        · rename_i cc hop
          obtain ⟨callee, args, ts⟩ := cc
          simp only at h1
          split at h1
          · rename_i f
            obtain ⟨fv, h3, hfv⟩ := evK_sound h1
            split at h3
            · rename_i fn caps
              obtain ⟨vs, h4, hvs⟩ := evsK_sound h3
              have h5 := appK_sound h4
              obtain ⟨q, h6, hqi⟩ := condK_iff h5
              have hq6 := hqi.1
              rcases h6.go with ⟨v, hlt, hgo, h8⟩ | ⟨hqq, hgo⟩
              case inr =>
                have hh := hqi.2 hqq
                have e1 := hfv ρ G' nx a hf hh
                have e2 := hvs ρ G' nx a hf hh
                have hlta : ltL nx (vs ++ caps) = true := by
                  rw [ltL_iff]
                  intro x hx
                  rcases List.mem_append.1 hx with hx | hx
                  · exact (ltL_iff _ _).1 e2.2 x hx
                  · exact (ltL_iff _ _).1 (by simpa [SV.lt] using e1.2) x hx
                have hargs : (args.map a.eval) ++ (denL ρ caps).toArray = (denL ρ (vs ++ caps)).toArray := by
                  apply Array.ext'
                  simp only [Array.toList_append, Array.toList_map, e2.1]
                  simp [denL_map]
                rw [hh, if_pos rfl]
                unfold Oper.wp
                have hrun : (execOp a.eval o).run P W = .ok (.enter fn (denL ρ (vs ++ caps)).toArray) W := by
                  simp only [execOp, hop, resolve, e1.1, den]
                  simp [Deferred.ofValue, invoke, hargs, h6.ent]
                rw [hrun]
                refine (hgo ρ W hk.hp hlta).mono fun e W' he => ?_
                obtain ⟨_, rfl, hb, ρ', sv, L', nx', rfl, ha, hn, hlt', hp', hk'⟩ := he
                obtain ⟨env', h9, h10⟩ := putK_sound hk'
                have hf' := h10 ρ' nx' a (hf.agree ha hn) hk.size (fun _ => hlt') hcl
                rw [hh, if_pos rfl] at hf'
                exact hK _ _ (vcOps_sound hT hQ r ρ' G' env' L' nx' _ W' ⟨hf', hp', (put_ok a _ _).1.trans hk.dfr, (put_ok a _ _).2.trans hk.size⟩ h9)
              obtain ⟨env', h9, h10⟩ := putK_sound h8
              cases hh : holdsB G' (c :: cs) with
              | true =>
                have e1 := hfv ρ G' nx a hf hh
                have e2 := hvs ρ G' nx a hf hh
                have hlta : ltL nx (vs ++ caps) = true := by
                  rw [ltL_iff]
                  intro x hx
                  rcases List.mem_append.1 hx with hx | hx
                  · exact (ltL_iff _ _).1 e2.2 x hx
                  · exact (ltL_iff _ _).1 (by simpa [SV.lt] using e1.2) x hx
                have hargs : (args.map a.eval) ++ (denL ρ caps).toArray = (denL ρ (vs ++ caps)).toArray := by
                  apply Array.ext'
                  simp only [Array.toList_append, Array.toList_map, e2.1]
                  simp [denL_map]
                rw [if_pos rfl]
                unfold Oper.wp
                have hrun : (execOp a.eval o).run P W = .ok (.enter fn (denL ρ (vs ++ caps)).toArray) W := by
                  simp only [execOp, hop, resolve, e1.1, den]
                  simp [Deferred.ofValue, invoke, hargs, h6.ent]
                rw [hrun]
                refine (hgo (hq6 hh) ρ W hk.hp hlta).mono fun e W' he => ?_
                obtain ⟨rfl, hb'⟩ := he
                have hp' := hk.hp.step hb'
                have hf' := h10 ρ nx a hf hk.size (fun _ => hlt) hcl
                rw [hh] at hf'
                exact hK _ _ (vcOps_sound hT hQ r ρ G' env' L nx _ W' ⟨hf', hp', (put_ok a _ _).1.trans hk.dfr, (put_ok a _ _).2.trans hk.size⟩ h9)
              | false =>
                rw [if_neg (by simp)]
                have hf' := h10 ρ nx a hf hk.size (fun hb => by rw [hh] at hb; cases hb) hcl
                rw [hh] at hf'
                exact hK _ _ (vcOps_sound hT hQ r ρ G' env' L nx _ W ⟨by simpa using hf', hk.hp, (put_ok a _ _).1.trans hk.dfr, (put_ok a _ _).2.trans hk.size⟩ h9)
            · exact h3.elim
          · exact h1.elim
        · obtain ⟨q, ⟨hqq, h6⟩, hqi⟩ := condK_iff h1
          have hh := hqi.2 hqq
          have h3 := nqK_sound hT h6
          rw [hh, if_pos rfl]
          refine h3 ρ G' a W hf hh hk.hp _ _ ?_
          rintro v W' ⟨-, ρ', sv, L', nx', rfl, ha, hn, hlt, hp', hk'⟩
          obtain ⟨env', h6, h7⟩ := putK_sound hk'
          have hf' := h7 ρ' nx' a (hf.agree ha hn) hk.size (fun _ => hlt) hcl
          rw [hh, if_pos rfl] at hf'
          exact hK _ _ (vcOps_sound hT hQ r ρ' G' env' L' nx' _ W' ⟨hf', hp', (put_ok a _ _).1.trans hk.dfr, (put_ok a _ _).2.trans hk.size⟩ h6)
end Go.Proofs.YtebfhljamoapjaaDoor
namespace Go.Proofs.YtebfhljamoapjaaDoor
open Go.RowKit
set_option linter.unusedVariables false
set_option linter.unusedSimpArgs false
set_option linter.unnecessarySimpa false

/-- Q, but False at a panic. -/
def NoP (Q : Exit → Act → World → Prop) : Exit → Act → World → Prop
  | .panic _, _, _ => False
  | e, a, w => Q e a w
theorem NoP.imp {Q : Exit → Act → World → Prop} : ∀ (e : Exit) (a : Act) (w : World), NoP Q e a w → Q e a w := fun e a w h => by
  cases e <;> first | exact h | exact (h : False).elim

/-- i comes before j by the region's edges. -/
def anc (ops : Array Oper) : Nat → Nat → Nat → Bool
  | 0, _, _ => false
  | n + 1, j, i => ((ops[j]?).map fun o => o.after.any fun e => Region.binds .any e && (e.on == i || anc ops n e.on i)).getD false
/-- Does what it yields hang on the heap? -/
def arrT : List Nat := [110, 113, 116]
/-- The types of pointers. -/
def ptrT : List Nat := [15, 16, 17, 56, 74, 97, 105]
def isM (o : Op) : Bool :=
  match o with
  | .load _ _ => true
  | .indexAddr _ _ _ => true
  | .slice t _ _ _ _ => arrT.any (Nat.beq t)
  | .binOp _ t _ _ _ => ptrT.any (Nat.beq t)
  | _ => false
def isMi (ops : Array Oper) (rest : List Nat) (j : Nat) : Bool :=
  match ops[j]? with
  | some o => isM o.op && !(rest.any (Nat.beq j))
  | none => true
def predsAll (ops : Array Oper) (rest : List Nat) (listed : Array Bool) (i : Nat) : Bool :=
  (List.range ops.size).all fun j => !(listed.getD j false) || (!(isMi ops rest j) || anc ops ops.size i j)
/-- All resting operations (below 1000) come before i, in every order. -/
def restAnc (ops : Array Oper) (rest : List Nat) (i : Nat) : Bool := rest.all fun r => Nat.ble 1000 r || anc ops ops.size i r
theorem restAnc_spec {ops : Array Oper} {rest : List Nat} {i r : Nat} (h : restAnc ops rest i = true) (hr : rest.any (Nat.beq r) = true) (hl : r < 1000) : anc ops ops.size i r = true := by
  obtain ⟨x, hx, he⟩ := List.any_eq_true.1 hr
  have he := Nat.eq_of_beq_eq_true he
  subst he
  have := List.all_eq_true.1 h r hx
  rcases Bool.or_eq_true_iff.1 this with h1 | h1
  · have := Nat.le_of_ble_eq_true h1
    omega
  · exact h1
/-- What is listed has all that it waits for listed. -/
def Clo (ops : Array Oper) (listed : Array Bool) : Prop := ∀ j o, ops[j]? = some o → listed.getD j false = true → ∀ e ∈ o.after, Region.binds .any e = true → listed.getD e.on false = true
theorem anc_listed {ops : Array Oper} {listed : Array Bool} (hc : Clo ops listed) : ∀ (n j i : Nat) (o : Oper), ops[j]? = some o → (∀ e ∈ o.after, Region.binds .any e = true → listed.getD e.on false = true) → anc ops n j i = true → listed.getD i false = true
  | 0, _, _, _, _, _, h => by simp [anc] at h
  | n + 1, j, i, o, ho, hall, h => by
    simp only [anc, ho, Option.map_some, Option.getD_some, Array.any_eq_true', Bool.and_eq_true, Bool.or_eq_true, beq_iff_eq] at h
    obtain ⟨e, he, hb, h⟩ := h
    have h1 := hall e he hb
    rcases h with h | h
    · rw [← h]; exact h1
    · cases ho' : ops[e.on]? with
      | none =>
        cases n with
        | zero => simp [anc] at h
        | succ n => simp [anc, ho'] at h
      | some o' => exact anc_listed hc n e.on i o' ho' (hc e.on o' ho' h1) h
theorem Clo.step {ops : Array Oper} {listed : Array Bool} (hc : Clo ops listed) {i : Nat} (hi : i ∈ Region.ready .any ops listed) : Clo ops (listed.setIfInBounds i true) := by
  intro j o ho hj e he hb
  obtain ⟨h0, oi, hoi, hall⟩ := mem_ready.1 hi
  by_cases hji : i = j
  · subst hji
    rw [hoi] at ho
    injection ho with ho
    subst ho
    exact getD_set_true (hall e he hb)
  · rw [getD_set_ne false hji] at hj
    exact getD_set_true (hc j o ho hj e he hb)
theorem Clo.start (ops : Array Oper) (n : Nat) : Clo ops (Array.replicate n false) := by
  intro j o _ hj
  simp [Array.getElem?_replicate] at hj
  split at hj <;> simp at hj

section
variable {P : Program} {ops : Array Oper} {rest : List Nat} {Q : Exit → Act → World → Prop}
/-- Whatever order is picked from here on; S holds now, and what holds behind a step still gives S, or the step waits for all that went before. Behind a step that waits for all that rests, what rests need not hold any more. -/
def wpAnyG (P : Program) (ops : Array Oper) (rest : List Nat) (Q : Exit → Act → World → Prop) (B0 : Bool → World → Prop) : Nat → Array Bool → Bool → (World → Prop) → Act → World → Prop
  | 0, listed, _, _, a, w => Region.ready .any ops listed = [] ∧ Q .normal a w
  | fuel + 1, listed, ab, S, a, w =>
    (Region.ready .any ops listed = [] → Q .normal a w) ∧
    ∀ i ∈ Region.ready .any ops listed, wpOp P ops Q i (fun a' w' => ∃ (S' : World → Prop) (ab' : Bool), (ab' = ab ∨ (ab' = true ∧ restAnc ops rest i = true)) ∧ (∀ u, S' u → B0 ab' u) ∧ S' w' ∧ ((∀ u, S' u → S u) ∨ predsAll ops rest listed i = true) ∧ wpAnyG P ops rest Q B0 fuel (listed.setIfInBounds i true) ab' S' a' w') a w
theorem wpAny_of_G {B0 : Bool → World → Prop} : ∀ (fuel : Nat) (listed : Array Bool) (ab : Bool) (S : World → Prop) (a : Act) (w : World), wpAnyG P ops rest Q B0 fuel listed ab S a w → wpAny P .any ops Q fuel listed a w
  | 0, _, _, _, _, _, h => h
  | fuel + 1, _, _, _, _, _, h => ⟨h.1, fun i hi => wpOp_mono (fun a' w' ⟨S', ab', _, _, _, _, h'⟩ => wpAny_of_G fuel _ ab' S' a' w' h') (h.2 i hi)⟩
theorem yieldsIf_mono {S S' : World → Prop} {o : Oper} {v : Value} {a : Act} (h : YieldsIf P ops S o v a) (hS : ∀ u, S' u → S u) : YieldsIf P ops S' o v a :=
  h.imp (fun ⟨h1, h2⟩ => ⟨h1, fun w hw => h2 w (hS w hw)⟩) id
theorem wpAnyG_first {B0 : Bool → World → Prop} (hBw : ∀ ab u, B0 ab u → B0 true u) (hsz : ops.size ≤ 1000) {i : Nat} {oi : Oper} {v : Value} (hi : ops[i]? = some oi) (hsel : ∀ (j : Nat) (o : Oper) cs b, ops[j]? = some o → o.op ≠ .select cs b)
    (hQ : ∀ c a w, Q (.panic c) (a.put oi.dst v) w → Q (.panic c) a w) :
    ∀ (fuel : Nat) (listed : Array Bool) (ab : Bool) (S : World → Prop) (a : Act) (w : World),
      (∀ j oj, ops[j]? = some oj → j ≠ i → listed.getD j true = false → (∀ e ∈ oj.after, Region.binds .any e = true → e.on ≠ i) → oi.apart ops oj = true) →
      Clo ops listed → i ∈ Region.ready .any ops listed → YieldsIf P ops S oi v a → (isMi ops rest i = false → YieldsIf P ops (bif rest.any (Nat.beq i) then B0 ab else B0 true) oi v a) → (∀ u, S u → B0 ab u) → S w →
      wpAnyG P ops rest Q B0 fuel (listed.setIfInBounds i true) ab S (a.put oi.dst v) w → wpAnyG P ops rest Q B0 (fuel + 1) listed ab S a w := by
  intro fuel
  induction fuel with
  | zero =>
    intro listed ab S a w _ hc hr hy hyB hSB hS H
    refine ⟨fun h => (by rw [h] at hr; cases hr), fun j hj => ?_⟩
    by_cases hji : j = i
    · subst hji; exact hy.wpOp hi hS ⟨S, ab, .inl rfl, hSB, hS, .inl fun _ h => h, H⟩
    · have := ready_mono hj hji
      rw [H.1] at this
      cases this
  | succ fuel ih =>
    intro listed ab S a w hfree hc hr hy hyB hSB hS H
    refine ⟨fun h => (by rw [h] at hr; cases hr), fun j hj => ?_⟩
    by_cases hji : j = i
    · subst hji; exact hy.wpOp hi hS ⟨S, ab, .inl rfl, hSB, hS, .inl fun _ h => h, H⟩
    · have h1 := H.2 j (ready_mono hj hji)
      obtain ⟨hjun, oj, hoj, hall⟩ := mem_ready.1 hj
      have h0 := (mem_ready.1 hr).1
      have hilt : i < listed.size := by
        rcases Nat.lt_or_ge i listed.size with h' | h'
        · exact h'
        · simp [Array.getElem?_eq_none h'] at h0
      have hnot : ∀ e ∈ oj.after, Region.binds .any e = true → e.on ≠ i := fun e he hb heq => by
        have h1 := hall e he hb
        rw [heq] at h1
        simp [hilt] at h0 h1
        rw [h0] at h1
        cases h1
      have hno : isMi ops rest i = true → predsAll ops rest (listed.setIfInBounds i true) j = true → False := by
        intro hM hp
        simp only [predsAll, List.all_eq_true, List.mem_range] at hp
        have hil : i < ops.size := (Array.getElem?_eq_some_iff.1 hi).1
        have := hp i hil
        have e : (listed.setIfInBounds i true).getD i false = true := by simp [hilt]
        rw [e] at this
        rw [hM] at this
        simp only [Bool.not_true, Bool.false_or] at this
        have h3 := anc_listed hc ops.size j i oj hoj hall this
        simp [hilt] at h0 h3
        rw [h0] at h3
        cases h3
      have hil : i < ops.size := (Array.getElem?_eq_some_iff.1 hi).1
      have hno2 : rest.any (Nat.beq i) = true → restAnc ops rest j = true → False := by
        intro hR hp
        have h3 := anc_listed hc ops.size j i oj hoj hall (restAnc_spec hp hR (by omega))
        simp [hilt] at h0 h3
        rw [h0] at h3
        cases h3
      have hSC : ∀ u, S u → (bif rest.any (Nat.beq i) then B0 ab else B0 true) u := fun u hu => by
        cases rest.any (Nat.beq i) with
        | true => exact hSB u hu
        | false => exact hBw ab u (hSB u hu)
      have hy2 : ∀ S2 : World → Prop, (∀ u, S2 u → S u) ∨ (isMi ops rest i = false ∧ ∀ u, S2 u → (bif rest.any (Nat.beq i) then B0 ab else B0 true) u) → ∀ a', YieldsIf P ops S oi v a' ∧ (isMi ops rest i = false → YieldsIf P ops (bif rest.any (Nat.beq i) then B0 ab else B0 true) oi v a') → YieldsIf P ops S2 oi v a' := by
        intro S2 h a' ⟨h1, h2⟩
        rcases h with h | ⟨hM, h⟩
        · exact yieldsIf_mono h1 h
        · exact yieldsIf_mono (h2 hM) h
      have h2 : wpOp P ops Q j (fun a' w' => (YieldsIf P ops S oi v a' ∧ (isMi ops rest i = false → YieldsIf P ops (bif rest.any (Nat.beq i) then B0 ab else B0 true) oi v a')) ∧ ∃ (S' : World → Prop) (ab' : Bool), (ab' = ab ∨ (ab' = true ∧ restAnc ops rest j = true)) ∧ (∀ u, S' u → B0 ab' u) ∧ S' w' ∧ ((∀ u, S' u → S u) ∨ predsAll ops rest (listed.setIfInBounds i true) j = true) ∧ wpAnyG P ops rest Q B0 fuel ((listed.setIfInBounds i true).setIfInBounds j true) ab' S' (a'.put oi.dst v) w') a w := by
        cases hM : isMi ops rest i with
        | true =>
          have := wpOp_putIf hoj (hfree j oj hoj hji hjun hnot) (fun cs b => hsel i oi cs b hi) (fun cs b => hsel j oj cs b hoj) hQ hy h1
          exact wpOp_mono (fun a' w' h => ⟨⟨h.1, fun hh => by cases hh⟩, h.2⟩) this
        | false =>
          have := wpOp_putIf hoj (hfree j oj hoj hji hjun hnot) (fun cs b => hsel i oi cs b hi) (fun cs b => hsel j oj cs b hoj) hQ (hyB hM) h1
          exact wpOp_mono (fun a' w' h => ⟨⟨yieldsIf_mono h.1 hSC, fun _ => h.1⟩, h.2⟩) this
      have hfree' : ∀ k ok, ops[k]? = some ok → k ≠ i → (listed.setIfInBounds j true).getD k true = false →
          (∀ e ∈ ok.after, Region.binds .any e = true → e.on ≠ i) → oi.apart ops ok = true := fun k ok hk hki hun hno => by
        refine hfree k ok hk hki ?_ hno
        by_cases hjk : j = k
        · subst hjk; exact hjun
        · rw [getD_set_ne true hjk] at hun; exact hun
      refine wpOp_mono (fun a' w' h3 => ?_) h2
      obtain ⟨hy', S', ab', hab, hSB', hS', himp, H'⟩ := h3
      have hCC : (bif rest.any (Nat.beq i) then B0 ab' else B0 true) = (bif rest.any (Nat.beq i) then B0 ab else B0 true) := by
        cases hri : rest.any (Nat.beq i) with
        | false => rfl
        | true =>
          rcases hab with h | h
          · rw [h]
          · exact (hno2 hri h.2).elim
      have hSC' : ∀ u, S' u → (bif rest.any (Nat.beq i) then B0 ab' else B0 true) u := fun u hu => by
        cases rest.any (Nat.beq i) with
        | true => exact hSB' u hu
        | false => exact hBw ab' u (hSB' u hu)
      rw [hCC] at hSC'
      have himp2 : (∀ u, S' u → S u) ∨ (isMi ops rest i = false ∧ ∀ u, S' u → (bif rest.any (Nat.beq i) then B0 ab else B0 true) u) := by
        rcases himp with h | h
        · exact .inl h
        · cases hM : isMi ops rest i with
          | true => exact absurd h (fun h => hno hM h)
          | false => exact .inr ⟨rfl, hSC'⟩
      have himp3 : (∀ u, S' u → S u) ∨ predsAll ops rest listed j = true := by
        rcases himp with h | h
        · exact .inl h
        · refine .inr ?_
          simp only [predsAll, List.all_eq_true, List.mem_range] at h ⊢
          intro k hk
          have h4 := h k hk
          by_cases hik : i = k
          · subst hik
            have h5 : listed.getD i false = false := by
              simp [hilt] at h0 ⊢
              exact h0
            rw [h5]
            rfl
          · rw [getD_set_ne false hik] at h4
            exact h4
      refine ⟨S', ab', hab, hSB', hS', himp3, ih (listed.setIfInBounds j true) ab' S' a' w' hfree' (hc.step hj) (ready_mono hr (Ne.symm hji)) (hy2 S' himp2 a' hy') (by rw [hCC]; exact hy'.2) hSB' hS' ?_⟩
      rw [Array.setIfInBounds_comm _ _ hji]
      exact H'
end

/-- Orders that serve for all: an operation that leaves the heap alone is taken as soon as it can be; of the others each that may come up (n: one of them, then the others; e: no other). -/
inductive Tr where
  | z
  | q (i : Nat) (t : Tr)
  | n (i : Nat) (fl : Bool) (t : Tr) (more : Tr)
  | e
def planIx : Tr → List Nat
  | .n i _ _ more => i :: planIx more
  | _ => []
def planOk (ops : Array Oper) (rest : List Nat) : Tr → Array Bool → Bool → Bool
  | .z, listed, _ => (Region.ready .any ops listed).isEmpty
  | .q i t, listed, _ => (match ops[i]? with
    | some o => isQ o.op && ((Region.ready .any ops listed).contains i && Region.free .any ops listed i)
    | none => false) && planOk ops rest t (listed.setIfInBounds i true) true
  | .n i fl t more, listed, top => (!top || (Region.ready .any ops listed == (i :: planIx more))) && (match ops[i]? with
    | some o => !isQ o.op && (!fl || predsAll ops rest listed i) && (!(rest.any (Nat.beq (Nat.add 1000 i))) || restAnc ops rest i)
    | none => false) && planOk ops rest t (listed.setIfInBounds i true) true && planOk ops rest more listed false
  | .e, _, top => !top
def Tr.len : Tr → Nat
  | .z => 0
  | .q _ t => t.len + 1
  | .n _ _ t _ => t.len + 1
  | .e => 0
def evenB : Tr → Option Nat → Bool
  | .z, _ => true
  | .q _ t, _ => evenB t none
  | .n _ _ t more, m => (match m with | some m => Nat.beq t.len m | none => true) && evenB t none && evenB more (some t.len)
  | .e, _ => true
def planB (ops : List Oper) (rest : List Nat) (t : Tr) : Bool := Nat.beq t.len ops.length && Region.noSelect ops.toArray && (evenB t none && Nat.ble ops.length 1000) && planOk ops.toArray rest t (Array.replicate ops.length false) true
/-- These objects are still there. -/
def memK : List Ob → List Ob → Prop
  | [], _ => True
  | o :: r, L => obK L o.n (fun o' => o' = o) ∧ memK r L
theorem memK_sound : ∀ {A L : List Ob}, memK A L → ∀ o ∈ A, o ∈ L
  | [], _, _, o, ho => by cases ho
  | x :: r, L, h, o, ho => by
    rcases List.mem_cons.1 ho with rfl | ho
    · obtain ⟨o', h1, _, h2⟩ := obK_sound h.1
      rw [← h2]
      exact h1
    · exact memK_sound h.2 o ho
def keepK (A L : List Ob) (X : Prop) : Prop :=
  match A with
  | [] => X
  | o :: r => memK (o :: r) L ∧ X
theorem keepK_sound {A L : List Ob} {X : Prop} (h : keepK A L X) : (∀ o ∈ A, o ∈ L) ∧ X := by
  unfold keepK at h
  split at h
  · exact ⟨by simp, h⟩
  · exact ⟨memK_sound h.1, h.2⟩
theorem Hp.rest {w : Ref} {ρ ρ0 : Rho} {L A : List Ob} {nx n0 : Nat} {U W0 : World} (h : Hp w ρ L nx U) (hm : ∀ o ∈ A, o ∈ L) (ha : Agree n0 ρ0 ρ) (h0 : Hp w ρ0 A n0 W0) : Hp w ρ0 A n0 U :=
  ⟨h.bel, fun o ho => (h.obj o (hm o ho)).agree (nx := n0) (fun m hm => (ha m hm).symm) (h0.lt o ho).1 (h0.lt o ho).2, h0.dis, h0.lt, h0.pin⟩
theorem Hp.wide {w : Ref} {ρ ρ0 : Rho} {A : List Ob} {nx n0 : Nat} {U : World} (h : Hp w ρ0 A n0 U) (ha : Agree n0 ρ0 ρ) (hn : n0 ≤ nx) : Hp w ρ A nx U := by
  have h1 := h.agree ha
  refine ⟨h1.bel, h1.obj, h1.dis, fun o ho => ?_, Nat.le_trans h1.pin.1 hn, h1.pin.2⟩
  obtain ⟨a1, a2⟩ := h1.lt o ho
  refine ⟨Nat.lt_of_lt_of_le a1 hn, ?_⟩
  cases h5 : o.c with
  | cs l => rw [h5] at a2; exact ltL_mono hn l a2
  | rows _ _ _ => rfl
def pickL (K : List Nat) (L : List Ob) : List Ob :=
  match K with
  | [] => []
  | k :: r => L.filter (fun o => List.any (k :: r) (Nat.beq o.n))
theorem Hp.pick {w : Ref} {ρ : Rho} {L : List Ob} {nx : Nat} {W : World} (h : Hp w ρ L nx W) (K : List Nat) : Hp w ρ (pickL K L) nx W := by
  unfold pickL
  split
  · exact ⟨h.bel, by simp, .nil, by simp, h.pin⟩
  · exact ⟨h.bel, fun o ho => h.obj o ((List.mem_filter.1 ho).1), h.dis.filter _, fun o ho => h.lt o ((List.mem_filter.1 ho).1), h.pin⟩
/-- What still has to be kept behind operation i: nothing, if rest says so (1000 + i). -/
def dropA (rest : List Nat) (i : Nat) (A : List Ob) : List Ob := bif rest.any (Nat.beq (Nat.add 1000 i)) then [] else A
theorem dropA_eq (rest : List Nat) (i : Nat) (A : List Ob) (ab : Bool) : dropA rest i (bif ab then [] else A) = bif (ab || rest.any (Nat.beq (Nat.add 1000 i))) then [] else A := by
  unfold dropA
  cases ab <;> cases rest.any (Nat.beq (Nat.add 1000 i)) <;> rfl
/-- An operation that may change the heap, then ih. -/
def oneK (P : Program) (w : Ref) (T : Tab) (N : Nat) (all : List Oper) (A : List Ob) (i : Nat) (fl : Bool) (ih : Gd → Env → List Ob → Nat → (Env → List Ob → Nat → Prop) → Prop) (G : Gd) (env : Env) (L : List Ob) (nx : Nat) (k : Env → List Ob → Nat → Prop) : Prop :=
  nthK all i (fun o => gdK all env G o.guard (fun G cur => match cur with
      | [] => nqK (!fl) P w T env L nx [] o (fun v L' nx' => keepK A L' (putK N G env o.dst [] v (fun env' => ih G env' L' nx' k)))
      | c :: cs => gcK (!fl) P w T env G L nx (c :: cs) o (fun v L' nx' => keepK A L' (putK N G env o.dst (c :: cs) v (fun env' => ih G env' L' nx' k)))))
def moreK (more : Tr) (X Y : Prop) : Prop :=
  match more with
  | .n _ _ _ _ => X ∧ Y
  | _ => X
theorem moreK_fst {more : Tr} {X Y : Prop} (h : moreK more X Y) : X := by
  unfold moreK at h
  split at h
  · exact h.1
  · exact h
noncomputable def vcTr (P : Program) (w : Ref) (T : Tab) (N : Nat) (all : List Oper) (rest : List Nat) (A : List Ob) (t : Tr) : Gd → Env → List Ob → Nat → (Env → List Ob → Nat → Prop) → Prop :=
  @Tr.rec (fun _ => List Ob → Gd → Env → List Ob → Nat → (Env → List Ob → Nat → Prop) → Prop) (fun _ _ env L nx k => clK env [] (fun env' => k env' L nx))
    (fun i _ ih A G env L nx k => nthK all i (fun o => gdK all env G o.guard (fun G cur => quietK T env (bif isM o.op then (bif rest.any (Nat.beq i) then A else L) else []) cur o.op (fun φ v => obG G cur φ (putK N G env o.dst cur v (fun env' => ih A G env' L nx k))))))
    (fun i fl _ more ih ihm A G env L nx k => moreK more (oneK P w T N all (dropA rest i A) i fl (ih (dropA rest i A)) G env L nx k) (ihm A G env L nx k))
    (fun _ _ _ _ _ _ => True) t A
/-- The branches of a tree. -/
def branches : Tr → List (Nat × Bool × Tr)
  | .n i fl t more => (i, fl, t) :: branches more
  | _ => []
theorem vcBs_mem {P : Program} {w : Ref} {T : Tab} {N : Nat} {all : List Oper} {rest : List Nat} {A : List Ob} {G : Gd} {env : Env} {L : List Ob} {nx : Nat} {k : Env → List Ob → Nat → Prop} : ∀ (tr : Tr), vcTr P w T N all rest A tr G env L nx k → ∀ i fl t, (i, fl, t) ∈ branches tr → oneK P w T N all (dropA rest i A) i fl (vcTr P w T N all rest (dropA rest i A) t) G env L nx k
  | .z, _, i, fl, t, hm => by simp [branches] at hm
  | .q _ _, _, i, fl, t, hm => by simp [branches] at hm
  | .e, _, i, fl, t, hm => by simp [branches] at hm
  | .n i' fl' t' more, h, i, fl, t, hm => by
    have h' : moreK more (oneK P w T N all (dropA rest i' A) i' fl' (vcTr P w T N all rest (dropA rest i' A) t') G env L nx k) (vcTr P w T N all rest A more G env L nx k) := h
    simp only [branches, List.mem_cons, Prod.mk.injEq] at hm
    rcases hm with ⟨rfl, rfl, rfl⟩ | hm
    · exact moreK_fst h'
    · cases more with
      | n a b c d => exact vcBs_mem (.n a b c d) h'.2 i fl t hm
      | z => simp [branches] at hm
      | q _ _ => simp [branches] at hm
      | e => simp [branches] at hm
theorem planBs_mem {ops : Array Oper} {rest : List Nat} {listed : Array Bool} : ∀ (tr : Tr) (top : Bool), planOk ops rest tr listed top = true → ∀ i fl t, (i, fl, t) ∈ branches tr → (∃ o, ops[i]? = some o ∧ isQ o.op = false ∧ (fl = true → predsAll ops rest listed i = true) ∧ (rest.any (Nat.beq (Nat.add 1000 i)) = true → restAnc ops rest i = true)) ∧ planOk ops rest t (listed.setIfInBounds i true) true = true
  | .z, _, _, i, fl, t, hm => by simp [branches] at hm
  | .q _ _, _, _, i, fl, t, hm => by simp [branches] at hm
  | .e, _, _, i, fl, t, hm => by simp [branches] at hm
  | .n i' fl' t' more, top, h, i, fl, t, hm => by
    simp only [planOk, Bool.and_eq_true] at h
    simp only [branches, List.mem_cons, Prod.mk.injEq] at hm
    rcases hm with ⟨rfl, rfl, rfl⟩ | hm
    · refine ⟨?_, h.1.2⟩
      have h1 := h.1.1.2
      split at h1
      · rename_i o ho
        simp only [Bool.and_eq_true, Bool.not_eq_true', Bool.or_eq_true] at h1
        exact ⟨o, ho, h1.1.1, fun hf => by rcases h1.1.2 with h2 | h2; (· rw [hf] at h2; cases h2); exact h2, fun hf => by rcases h1.2 with h2 | h2; (· rw [hf] at h2; cases h2); exact h2⟩
      · cases h1
    · exact planBs_mem more false h.2 i fl t hm
theorem planIx_mem : ∀ (tr : Tr) (i : Nat), i ∈ planIx tr → ∃ fl t, (i, fl, t) ∈ branches tr
  | .z, i, h => by simp [planIx] at h
  | .q _ _, i, h => by simp [planIx] at h
  | .e, i, h => by simp [planIx] at h
  | .n i' fl' t' more, i, h => by
    simp only [planIx, List.mem_cons] at h
    rcases h with rfl | h
    · exact ⟨fl', t', by simp [branches]⟩
    · obtain ⟨fl, t, hm⟩ := planIx_mem more i h
      exact ⟨fl, t, by simp [branches, hm]⟩
theorem evenBs_mem : ∀ (tr : Tr) (m : Nat), evenB tr (some m) = true → ∀ i fl t, (i, fl, t) ∈ branches tr → t.len = m ∧ evenB t none = true
  | .z, _, _, i, fl, t, hm => by simp [branches] at hm
  | .q _ _, _, _, i, fl, t, hm => by simp [branches] at hm
  | .e, _, _, i, fl, t, hm => by simp [branches] at hm
  | .n i' fl' t' more, m, h, i, fl, t, hm => by
    simp only [evenB, Bool.and_eq_true] at h
    have hl := Nat.eq_of_beq_eq_true h.1.1
    simp only [branches, List.mem_cons, Prod.mk.injEq] at hm
    rcases hm with ⟨rfl, rfl, rfl⟩ | hm
    · exact ⟨hl, h.1.2⟩
    · have := evenBs_mem more t'.len h.2 i fl t hm
      exact ⟨by omega, this.2⟩
theorem vcTr_sound {P : Program} {w : Ref} {T : Tab} {N : Nat} {all : List Oper} {rest : List Nat} {A0 : List Ob} {ρ0 : Rho} {n00 : Nat} {W0 : World} {Q : Exit → Act → World → Prop} {k : Env → List Ob → Nat → Prop} (hT : TabOk P T) (hsel : Region.noSelect all.toArray = true)
    (hsz : all.toArray.size ≤ 1000) (hA : Hp w ρ0 A0 n00 W0) (hQp : ∀ c a w, ¬ Q (.panic c) a w) (hQ : ∀ ρ env L nx a W, Kn w N ρ [] env L nx a W → k env L nx → Q .normal a W) :
    ∀ (fuel : Nat) (tr : Tr) (listed : Array Bool) (ab : Bool) (S : World → Prop) (ρ : Rho) (G : Gd) (env : Env) (L : List Ob) (nx : Nat) (a : Act) (W : World), tr.len = fuel → evenB tr none = true → Clo all.toArray listed →
      (∀ U U', S U → Below U.heap.size U U' → S U') → (∀ U, S U → Hp w ρ L nx U) → (∀ U, S U → Hp w ρ0 (bif ab then [] else A0) n00 U) → Agree n00 ρ0 ρ → n00 ≤ nx → S W → Kn w N ρ G env L nx a W → planOk all.toArray rest tr listed true = true →
      vcTr P w T N all rest (bif ab then [] else A0) tr G env L nx k → wpAnyG P all.toArray rest Q (fun ab U => Hp w ρ0 (bif ab then [] else A0) n00 U) fuel listed ab S a W := by
  have hBw : ∀ (ab : Bool) (u : World), Hp w ρ0 (bif ab then [] else A0) n00 u → Hp w ρ0 [] n00 u := fun ab u hU => ⟨hU.bel, by simp, .nil, by simp, hU.pin⟩
  intro fuel
  induction fuel with
  | zero =>
    intro tr listed ab S ρ G env L nx a W hlen hev hcl hst hSH hSB hag hnn hSW hk hpl h
    cases tr with
    | z =>
      have h' : clK env [] (fun env' => k env' L nx) := h
      obtain ⟨env', h1, h2⟩ := clK_sound h'
      refine ⟨by simpa [planOk] using hpl, ?_⟩
      exact hQ ρ env' L nx a W ⟨hk.fk.clean (fun t p v hl => ⟨(h2 t p v hl).1, (h2 t p v hl).2.2⟩), hk.hp, hk.dfr, hk.size⟩ h1
    | q i t => simp [Tr.len] at hlen
    | n i fl t more => simp [Tr.len] at hlen
    | e => simp [planOk] at hpl
  | succ fuel ih =>
    intro tr listed ab S ρ G env L nx a W hlen hev hclo hst hSH hSB hag hnn hSW hk hpl h
    have put_ok : ∀ (b : Act) (d : Option Tmp) (v : Value), (b.put d v).defers = b.defers ∧ (b.put d v).tmps.size = b.tmps.size := by
      intro b d v
      cases d <;> simp [Act.put]
    cases tr with
    | z => simp [Tr.len] at hlen
    | q i t =>
      have hlen' : t.len = fuel := by simpa [Tr.len] using hlen
      have hev' : evenB t none = true := by simpa [evenB] using hev
      obtain ⟨A, hAe⟩ : ∃ A, (bif ab then [] else A0) = A := ⟨_, rfl⟩
      rw [hAe] at h hSB
      have h' : nthK all i (fun o => gdK all env G o.guard (fun G cur => quietK T env (bif isM o.op then (bif rest.any (Nat.beq i) then A else L) else []) cur o.op (fun φ v => obG G cur φ (putK N G env o.dst cur v (fun env' => vcTr P w T N all rest A t G env' L nx k))))) := h
      obtain ⟨o, hio, h0⟩ := nthK_sound h'
      clear h'
      obtain ⟨G', cur, h1, h2⟩ := gdK_sound h0
      obtain ⟨hf, hcl, hw⟩ := h2 ρ nx a hk.fk
      have hw := hw o rfl
      clear h h0 h2
      have hio' : all.toArray[i]? = some o := by simpa using hio
      simp only [planOk, hio', Bool.and_eq_true] at hpl
      obtain ⟨⟨hq, hpl1⟩, hpl2⟩ := hpl
      obtain ⟨φ, v, h3, h4⟩ := quietK_sound (P := P) (w := w) (nx := nx) hT h1
      obtain ⟨hφ, h5⟩ := obG_sound h4
      obtain ⟨env', h6, h7⟩ := putK_sound h5
      have hcut : ∀ U, Hp w ρ L nx U → Hp w ρ0 A n00 U → Hp w ρ (bif isM o.op then (bif rest.any (Nat.beq i) then A else L) else []) nx U := by
        intro U hU hU2
        cases isM o.op with
        | true =>
          cases rest.any (Nat.beq i) with
          | true => exact hU2.wide hag hnn
          | false => exact hU
        | false => exact ⟨hU.bel, by simp, .nil, by simp, hU.pin⟩
      have hy : YieldsIf P all.toArray S o (if holdsB G' cur then den ρ v else undef) a := by
        unfold YieldsIf
        rw [hw]
        cases hh : holdsB G' cur with
        | true => exact .inl ⟨rfl, fun U hU => (h3 ρ G' a U hf hh (hcut U (hSH U hU) (hSB U hU)) (hφ hh)).2 o rfl⟩
        | false => exact .inr ⟨rfl, by simp⟩
      have hyB : isMi all.toArray rest i = false → YieldsIf P all.toArray (bif rest.any (Nat.beq i) then (fun U => Hp w ρ0 (bif ab then [] else A0) n00 U) else (fun U => Hp w ρ0 (bif true then [] else A0) n00 U)) o (if holdsB G' cur then den ρ v else undef) a := by
        intro hM
        have hM2 : (isM o.op && !(rest.any (Nat.beq i))) = false := by
          have := hM
          simp only [isMi, hio'] at this
          exact this
        unfold YieldsIf
        rw [hw]
        cases hh : holdsB G' cur with
        | true =>
          refine .inl ⟨rfl, fun U hU => (h3 ρ G' a U hf hh ?_ (hφ hh)).2 o rfl⟩
          cases hMo : isM o.op with
          | true =>
            rw [hMo] at hM2
            simp only [Bool.true_and, Bool.not_eq_false'] at hM2
            rw [hM2] at hU ⊢
            have hU : Hp w ρ0 (bif ab then [] else A0) n00 U := hU
            rw [hAe] at hU
            exact hU.wide hag hnn
          | false =>
            have hb : Below w.heap.size w.toWorld U := by
              cases hri : rest.any (Nat.beq i) with
              | true =>
                rw [hri] at hU
                have hU : Hp w ρ0 (bif ab then [] else A0) n00 U := hU
                exact hU.bel
              | false =>
                rw [hri] at hU
                have hU : Hp w ρ0 [] n00 U := hU
                exact hU.bel
            exact ⟨hb, by simp, .nil, by simp, hk.hp.pin⟩
        | false => exact .inr ⟨rfl, by simp⟩
      have hlt : holdsB G' cur = true → v.lt nx = true := fun hh => (h3 ρ G' a W hf hh (hcut W hk.hp (hSB W hSW)) (hφ hh)).1
      have hf' := h7 ρ nx a hf hk.size hlt hcl
      have hir : i ∈ Region.ready .any all.toArray listed := by simpa using hpl1.1
      rw [← hAe] at hSB h6
      refine wpAnyG_first hBw hsz hio' (Region.noSelect_spec hsel) (fun c b u hb => absurd hb (hQp _ _ _)) fuel listed ab S a W (Region.free_spec hio' hpl1.2) hclo hir hy hyB hSB hSW ?_
      exact ih t _ ab S ρ G' env' L nx _ W hlen' hev' (hclo.step hir) hst hSH hSB hag hnn hSW ⟨hf', hk.hp, (put_ok a _ _).1.trans hk.dfr, (put_ok a _ _).2.trans hk.size⟩ hpl2 h6
    | e => simp [planOk] at hpl
    | n i0 fl0 t0 more =>
      have hlen0 : t0.len = fuel := by simpa [Tr.len] using hlen
      have hev0 : evenB t0 none = true ∧ evenB more (some t0.len) = true := by simpa [evenB, Bool.and_eq_true] using hev
      have hr : Region.ready .any all.toArray listed = planIx (.n i0 fl0 t0 more) := by
        simp only [planOk, Bool.and_eq_true, Bool.not_true, Bool.false_or, beq_iff_eq] at hpl
        exact hpl.1.1.1
      refine ⟨(fun h0 => by rw [hr] at h0; simp [planIx] at h0), fun i hi => ?_⟩
      have hir := hi
      rw [hr] at hi
      obtain ⟨fl, t, hm⟩ := planIx_mem _ i hi
      have hB := vcBs_mem _ h i fl t hm
      obtain ⟨⟨o, hio', hq, hfl, hra⟩, hpl2⟩ := planBs_mem _ true hpl i fl t hm
      rw [dropA_eq] at hB
      have hab : (ab || rest.any (Nat.beq (Nat.add 1000 i))) = ab ∨ ((ab || rest.any (Nat.beq (Nat.add 1000 i))) = true ∧ restAnc all.toArray rest i = true) := by
        cases hri : rest.any (Nat.beq (Nat.add 1000 i)) with
        | true => exact .inr ⟨by simp, hra hri⟩
        | false => exact .inl (by simp)
      obtain ⟨ab', hab'⟩ : ∃ b, (ab || rest.any (Nat.beq (Nat.add 1000 i))) = b := ⟨_, rfl⟩
      rw [hab'] at hab hB
      have hSB' : ∀ U, S U → Hp w ρ0 (bif ab' then [] else A0) n00 U := fun U hU => by
        rcases hab with h | h
        · rw [h]; exact hSB U hU
        · rw [h.1]; exact hBw ab U (hSB U hU)
      have hA' : Hp w ρ0 (bif ab' then [] else A0) n00 W0 := by
        cases ab' with
        | true => exact hBw false W0 hA
        | false => exact hA
      have hle : t.len = fuel ∧ evenB t none = true := by
        simp only [branches, List.mem_cons, Prod.mk.injEq] at hm
        rcases hm with ⟨rfl, rfl, rfl⟩ | hm
        · exact ⟨hlen0, hev0.1⟩
        · have := evenBs_mem more t0.len hev0.2 i fl t hm
          exact ⟨by omega, this.2⟩
      obtain ⟨hlen', hev'⟩ := hle
      unfold oneK at hB
      obtain ⟨o2, hio, h0⟩ := nthK_sound hB
      have ho2 : o2 = o := by
        have : all[i]? = some o := by simpa using hio'
        rw [this] at hio
        injection hio with hio
        exact hio.symm
      subst ho2
      obtain ⟨G', cur, h1, h2⟩ := gdK_sound h0
      obtain ⟨hf, hcl, hw⟩ := h2 ρ nx a hk.fk
      have hw := hw o2 rfl
      clear h h0 h2 hB
      unfold wpOp
      simp only [hio']
      rw [hw]
      cases cur with
      | nil =>
        have h3 := nqK_sound hT h1
        rw [show holdsB G' [] = true from rfl, if_pos rfl]
        refine .inl (h3 ρ G' a W hf rfl hk.hp _ _ ?_)
        rintro v W' ⟨hb, ρ', sv, L', nx', rfl, ha, hn, hlt, hp', hk'⟩
        obtain ⟨hmm, hk'⟩ := keepK_sound hk'
        have hag' : Agree n00 ρ0 ρ' := fun m hm => (ha m (Nat.lt_of_lt_of_le hm hnn)).trans (hag m hm)
        have hnn' : n00 ≤ nx' := Nat.le_trans hnn hn
        obtain ⟨env', h6, h7⟩ := putK_sound hk'
        have hf' := h7 ρ' nx' a (hf.agree ha hn) hk.size (fun _ => hlt) (by simp)
        rw [show holdsB G' [] = true from rfl, if_pos rfl] at hf'
        have hkn : Kn w N ρ' G' env' L' nx' (a.put o2.dst (den ρ' sv)) W' := ⟨hf', hp', (put_ok a _ _).1.trans hk.dfr, (put_ok a _ _).2.trans hk.size⟩
        cases fl with
        | true =>
          refine ⟨fun U => Hp w ρ' L' nx' U, ab', hab, fun u hu => hu.rest hmm hag' hA', hp', .inr (hfl rfl), ?_⟩
          exact ih t _ ab' _ ρ' G' env' L' nx' _ W' hlen' hev' (hclo.step hir) (fun U U' h h' => h.step h') (fun U h => h) (fun u hu => hu.rest hmm hag' hA') hag' hnn' hp' hkn hpl2 h6
        | false =>
          refine ⟨fun U => S U ∧ Hp w ρ' L' nx' U, ab', hab, fun u hu => hSB' u hu.1, ⟨hst W W' hSW (hb rfl), hp'⟩, .inl (fun u h => h.1), ?_⟩
          exact ih t _ ab' _ ρ' G' env' L' nx' _ W' hlen' hev' (hclo.step hir) (fun U U' h h' => ⟨hst U U' h.1 h', h.2.step h'⟩) (fun U h => h.2) (fun u hu => hSB' u hu.1) hag' hnn' ⟨hst W W' hSW (hb rfl), hp'⟩ hkn hpl2 h6
      | cons c cs =>
        simp only at h1
        unfold gcK at h1
        split at h1
        · rename_i cc hop
          obtain ⟨callee, args, ts⟩ := cc
          simp only at h1
          split at h1
          · rename_i f
            obtain ⟨fv, h3, hfv⟩ := evK_sound h1
            split at h3
            · rename_i fn caps
              obtain ⟨vs, h4, hvs⟩ := evsK_sound h3
              have h5 := appK_sound h4
              obtain ⟨q, h6, hqi⟩ := condK_iff h5
              have hq6 := hqi.1
              rcases h6.go with ⟨v, hlt, hgo, h8⟩ | ⟨hqq, hgo⟩
              case inr =>
                have hh := hqi.2 hqq
                have e1 := hfv ρ G' nx a hf hh
                have e2 := hvs ρ G' nx a hf hh
                have hlta : ltL nx (vs ++ caps) = true := by
                  rw [ltL_iff]
                  intro x hx
                  rcases List.mem_append.1 hx with hx | hx
                  · exact (ltL_iff _ _).1 e2.2 x hx
                  · exact (ltL_iff _ _).1 (by simpa [SV.lt] using e1.2) x hx
                have hargs : (args.map a.eval) ++ (denL ρ caps).toArray = (denL ρ (vs ++ caps)).toArray := by
                  apply Array.ext'
                  simp only [Array.toList_append, Array.toList_map, e2.1]
                  simp [denL_map]
                rw [hh, if_pos rfl]
                refine .inl ?_
                unfold Oper.wp
                have hrun : (execOp a.eval o2).run P W = .ok (.enter fn (denL ρ (vs ++ caps)).toArray) W := by
                  simp only [execOp, hop, resolve, e1.1, den]
                  simp [Deferred.ofValue, invoke, hargs, h6.ent]
                rw [hrun]
                refine (hgo ρ W hk.hp hlta).mono fun e W' he => ?_
                obtain ⟨_, rfl, hb, ρ', sv, L', nx', rfl, ha, hn, hlt', hp', hk'⟩ := he
                obtain ⟨hmm, hk'⟩ := keepK_sound hk'
                have hag' : Agree n00 ρ0 ρ' := fun m hm => (ha m (Nat.lt_of_lt_of_le hm hnn)).trans (hag m hm)
                have hnn' : n00 ≤ nx' := Nat.le_trans hnn hn
                obtain ⟨env', h9, h10⟩ := putK_sound hk'
                have hf' := h10 ρ' nx' a (hf.agree ha hn) hk.size (fun _ => hlt') hcl
                rw [hh, if_pos rfl] at hf'
                have hkn : Kn w N ρ' G' env' L' nx' (a.put o2.dst (den ρ' sv)) W' := ⟨hf', hp', (put_ok a _ _).1.trans hk.dfr, (put_ok a _ _).2.trans hk.size⟩
                cases fl with
                | true =>
                  refine ⟨fun U => Hp w ρ' L' nx' U, ab', hab, fun u hu => hu.rest hmm hag' hA', hp', .inr (hfl rfl), ?_⟩
                  exact ih t _ ab' _ ρ' G' env' L' nx' _ W' hlen' hev' (hclo.step hir) (fun U U' h h' => h.step h') (fun U h => h) (fun u hu => hu.rest hmm hag' hA') hag' hnn' hp' hkn hpl2 h9
                | false =>
                  refine ⟨fun U => S U ∧ Hp w ρ' L' nx' U, ab', hab, fun u hu => hSB' u hu.1, ⟨hst W W' hSW (hb rfl), hp'⟩, .inl (fun u h => h.1), ?_⟩
                  exact ih t _ ab' _ ρ' G' env' L' nx' _ W' hlen' hev' (hclo.step hir) (fun U U' h h' => ⟨hst U U' h.1 h', h.2.step h'⟩) (fun U h => h.2) (fun u hu => hSB' u hu.1) hag' hnn' ⟨hst W W' hSW (hb rfl), hp'⟩ hkn hpl2 h9
              obtain ⟨_, h8⟩ := keepK_sound h8
              obtain ⟨env', h9, h10⟩ := putK_sound h8
              cases hh : holdsB G' (c :: cs) with
              | true =>
                have e1 := hfv ρ G' nx a hf hh
                have e2 := hvs ρ G' nx a hf hh
                have hlta : ltL nx (vs ++ caps) = true := by
                  rw [ltL_iff]
                  intro x hx
                  rcases List.mem_append.1 hx with hx | hx
                  · exact (ltL_iff _ _).1 e2.2 x hx
                  · exact (ltL_iff _ _).1 (by simpa [SV.lt] using e1.2) x hx
                have hargs : (args.map a.eval) ++ (denL ρ caps).toArray = (denL ρ (vs ++ caps)).toArray := by
                  apply Array.ext'
                  simp only [Array.toList_append, Array.toList_map, e2.1]
                  simp [denL_map]
                rw [if_pos rfl]
                refine .inl ?_
                unfold Oper.wp
                have hrun : (execOp a.eval o2).run P W = .ok (.enter fn (denL ρ (vs ++ caps)).toArray) W := by
                  simp only [execOp, hop, resolve, e1.1, den]
                  simp [Deferred.ofValue, invoke, hargs, h6.ent]
                rw [hrun]
                refine (hgo (hq6 hh) ρ W hk.hp hlta).mono fun e W' he => ?_
                obtain ⟨rfl, hb'⟩ := he
                have hp' := hk.hp.step hb'
                have hf' := h10 ρ nx a hf hk.size (fun _ => hlt) hcl
                rw [hh] at hf'
                refine ⟨S, ab', hab, hSB', hst W W' hSW hb', .inl (fun _ h => h), ?_⟩
                exact ih t _ ab' S ρ G' env' L nx _ W' hlen' hev' (hclo.step hir) hst hSH hSB' hag hnn (hst W W' hSW hb') ⟨hf', hp', (put_ok a _ _).1.trans hk.dfr, (put_ok a _ _).2.trans hk.size⟩ hpl2 h9
              | false =>
                rw [if_neg (by simp)]
                have hf' := h10 ρ nx a hf hk.size (fun hb => by rw [hh] at hb; cases hb) hcl
                rw [hh] at hf'
                refine ⟨S, ab', hab, hSB', hSW, .inl (fun _ h => h), ?_⟩
                exact ih t _ ab' S ρ G' env' L nx _ W hlen' hev' (hclo.step hir) hst hSH hSB' hag hnn hSW ⟨by simpa using hf', hk.hp, (put_ok a _ _).1.trans hk.dfr, (put_ok a _ _).2.trans hk.size⟩ hpl2 h9
            · exact h3.elim
          · exact h1.elim
        · obtain ⟨q, ⟨hqq, h6⟩, hqi⟩ := condK_iff h1
          have hh := hqi.2 hqq
          have h3 := nqK_sound hT h6
          rw [hh, if_pos rfl]
          refine .inl (h3 ρ G' a W hf hh hk.hp _ _ ?_)
          rintro v W' ⟨hb, ρ', sv, L', nx', rfl, ha, hn, hlt, hp', hk'⟩
          obtain ⟨hmm, hk'⟩ := keepK_sound hk'
          have hag' : Agree n00 ρ0 ρ' := fun m hm => (ha m (Nat.lt_of_lt_of_le hm hnn)).trans (hag m hm)
          have hnn' : n00 ≤ nx' := Nat.le_trans hnn hn
          obtain ⟨env', h9, h7⟩ := putK_sound hk'
          have hf' := h7 ρ' nx' a (hf.agree ha hn) hk.size (fun _ => hlt) hcl
          rw [hh, if_pos rfl] at hf'
          have hkn : Kn w N ρ' G' env' L' nx' (a.put o2.dst (den ρ' sv)) W' := ⟨hf', hp', (put_ok a _ _).1.trans hk.dfr, (put_ok a _ _).2.trans hk.size⟩
          cases fl with
          | true =>
            refine ⟨fun U => Hp w ρ' L' nx' U, ab', hab, fun u hu => hu.rest hmm hag' hA', hp', .inr (hfl rfl), ?_⟩
            exact ih t _ ab' _ ρ' G' env' L' nx' _ W' hlen' hev' (hclo.step hir) (fun U U' h h' => h.step h') (fun U h => h) (fun u hu => hu.rest hmm hag' hA') hag' hnn' hp' hkn hpl2 h9
          | false =>
            refine ⟨fun U => S U ∧ Hp w ρ' L' nx' U, ab', hab, fun u hu => hSB' u hu.1, ⟨hst W W' hSW (hb rfl), hp'⟩, .inl (fun u h => h.1), ?_⟩
            exact ih t _ ab' _ ρ' G' env' L' nx' _ W' hlen' hev' (hclo.step hir) (fun U U' h h' => ⟨hst U U' h.1 h', h.2.step h'⟩) (fun U h => h.2) (fun u hu => hSB' u hu.1) hag' hnn' ⟨hst W W' hSW (hb rfl), hp'⟩ hkn hpl2 h9
abbrev K3 := Env → List Ob → Nat → Prop
/-- What is known in (e, l, n) is enough for (e0, l0, n0). -/
def Sub (m : Nat) (e0 : Env) (l0 : List Ob) (n0 : Nat) (e : Env) (l : List Ob) (n : Nat) : Prop :=
  ∀ (w : Ref) N ρ a W, w.n0 = m → Kn w N ρ [] e l n a W → ∃ ρ0, Kn w N ρ0 [] e0 l0 n0 a W
theorem Sub.refl (m : Nat) (e : Env) (l : List Ob) (n : Nat) : Sub m e l n e l n := fun _ _ ρ _ _ _ h => ⟨ρ, h⟩
def Wk (m : Nat) (k : K3) (e : Env) (l : List Ob) (n : Nat) : Prop := ∃ e0 l0 n0, k e0 l0 n0 ∧ Sub m e0 l0 n0 e l n
theorem Wk.self {m : Nat} {k : K3} {e : Env} {l : List Ob} {n : Nat} (h : k e l n) : Wk m k e l n := ⟨e, l, n, h, Sub.refl m e l n⟩

/-- A region whose order is drawn stands next: give orders, and what is known behind them. -/
structure EvDraw (P : Program) (w : Ref) (T : Tab) (N : Nat) (id : Nat) (ops : List Oper) (env : Env) (L : List Ob) (nx : Nat) (k : Env → List Ob → Nat → Prop) : Prop where
  go : ∃ tr rest K, planB ops rest tr = true ∧ ∃ k' : K3, vcTr P w T N ops rest (pickL K L) tr [] env L nx k' ∧ ∀ e l n, k' e l n → Wk w.n0 k e l n
theorem EvDraw.sound {P : Program} {w : Ref} {T : Tab} {N id : Nat} {ops : List Oper} {env : Env} {L : List Ob} {nx : Nat} {k : Env → List Ob → Nat → Prop} (hT : TabOk P T) (hm : P.follows .mixedOrders = true)
    {Q : Exit → Act → World → Prop} (hQ : ∀ ρ env L nx a W, Kn w N ρ [] env L nx a W → k env L nx → Q .normal a W) (h : EvDraw P w T N id ops env L nx k) {ρ : Rho} {a : Act} {W : World} (hk : Kn w N ρ [] env L nx a W) :
    (Code.region id ops.toArray true).wp P Q a W := by
  obtain ⟨ord, rest, K, hpl, k', h1, hwk⟩ := h.go
  have hQ' : ∀ ρ env L nx a W, Kn w N ρ [] env L nx a W → k' env L nx → Q .normal a W := by
    intro ρ env L nx a W hk hk'
    obtain ⟨e0, l0, n0, h4, h5⟩ := hwk env L nx hk'
    obtain ⟨ρ0, h6⟩ := h5 w N ρ a W rfl hk
    exact hQ ρ0 e0 l0 n0 a W h6 h4
  simp only [planB, Bool.and_eq_true] at hpl
  obtain ⟨⟨⟨hl, hs⟩, hev, hsz⟩, hpo⟩ := hpl
  have hsz : ops.toArray.size ≤ 1000 := by simpa using Nat.le_of_ble_eq_true hsz
  have hl := Nat.eq_of_beq_eq_true hl
  refine Code.wp_mono NoP.imp (wp_region_any hm (wpAny_of_G (rest := rest) (B0 := fun ab U => Hp w ρ (bif ab then [] else pickL K L) nx U) _ _ false (fun U => Hp w ρ L nx U) _ _ ?_))
  have hd : Hp w ρ L nx { W with drawn := W.drawn + 1 } := hk.hp.drewN 1
  have := vcTr_sound (Q := NoP Q) hT hs hsz (hk.hp.pick K) (fun c a w h => h) (fun ρ env L nx a W hk h => hQ' ρ env L nx a W hk h) ord.len ord (Array.replicate ops.length false) false (fun U => Hp w ρ L nx U) ρ [] env L nx a { W with drawn := W.drawn + 1 }
    rfl hev (Clo.start _ _) (fun U U' h h' => h.step h') (fun U h => h) (fun U h => h.pick K) (fun _ _ => rfl) (Nat.le_refl _) hd ⟨hk.fk, hd, hk.dfr, hk.size⟩ hpo h1
  rw [hl] at this
  simpa using this
theorem EvDraw.oneR {P : Program} {w : Ref} {T : Tab} {N id : Nat} {ops : List Oper} {env : Env} {L : List Ob} {nx : Nat} {k : K3} (tr : Tr) (rest K : List Nat) (hp : planB ops rest tr = true) (h : vcTr P w T N ops rest (pickL K L) tr [] env L nx k) : EvDraw P w T N id ops env L nx k :=
  ⟨tr, rest, K, hp, k, h, fun _ _ _ h => Wk.self h⟩
theorem EvDraw.one {P : Program} {w : Ref} {T : Tab} {N id : Nat} {ops : List Oper} {env : Env} {L : List Ob} {nx : Nat} {k : K3} (tr : Tr) (hp : planB ops [] tr = true) (h : vcTr P w T N ops [] [] tr [] env L nx k) : EvDraw P w T N id ops env L nx k :=
  ⟨tr, [], [], hp, k, h, fun _ _ _ h => Wk.self h⟩
/-- The states of a meeting of ways over x : α. -/
def JoinI (m : Nat) {α : Type} (R : α → Prop) (E : α → Env) (O : α → List Ob) (n0 : Nat) : K3 := fun e l n => ∃ x, R x ∧ Sub m (E x) (O x) n0 e l n
theorem EvDraw.meet {P : Program} {w : Ref} {T : Tab} {N id : Nat} {ops : List Oper} {env : Env} {L : List Ob} {nx : Nat} {k : K3} (tr : Tr) (hp : planB ops [] tr = true) {α : Type} (R : α → Prop) (E : α → Env) (O : α → List Ob) (n0 : Nat)
    (h : vcTr P w T N ops [] [] tr [] env L nx (JoinI w.n0 R E O n0)) (h3 : ∀ x, R x → k (E x) (O x) n0) : EvDraw P w T N id ops env L nx k :=
  ⟨tr, [], [], hp, _, h, fun e l n ⟨x, hx, hs⟩ => ⟨_, _, _, h3 x hx, hs⟩⟩
end Go.Proofs.YtebfhljamoapjaaDoor
