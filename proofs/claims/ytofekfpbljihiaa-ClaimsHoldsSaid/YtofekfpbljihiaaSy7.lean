/- The symbolic machine: composite values. No program in sight. -/
import Derived.Test.YtofekfpbljihiaaSy6
namespace Go.Proofs.Ytofekfpbljihiaa
open Go.RowKit
set_option linter.unusedVariables false
set_option linter.unusedSimpArgs false
set_option linter.unnecessarySimpa false

section
variable {P : Program} {w : World} {T : Tab} {env : Env} {L : List Ob} {nx : Nat} {cur : Pth} {k : Option Prop → SV → Prop}

def spliceK : List SV → Nat → List SV → (List SV → Prop) → Prop
  | l, 0, [], k => k l
  | [], 0, _ :: _, _ => False
  | _ :: r, 0, x :: xs, k => spliceK r 0 xs (fun l => k (x :: l))
  | [], _ + 1, _, _ => False
  | y :: r, n + 1, xs, k => spliceK r n xs (fun l => k (y :: l))
def splice {α : Type} (l : List α) (off : Nat) (news : List α) : List α := l.take off ++ news ++ l.drop (off + news.length)
theorem spliceK_sound : ∀ {l : List SV} {off : Nat} {news : List SV} {k : List SV → Prop}, spliceK l off news k → off + news.length ≤ l.length ∧ k (splice l off news)
  | l, 0, [], k, h => by
    simp only [spliceK] at h
    simpa [splice] using h
  | [], 0, _ :: _, _, h => h.elim
  | y :: r, 0, x :: xs, k, h => by
    have := spliceK_sound (l := r) (off := 0) (news := xs) h
    simp [splice] at this ⊢
    exact ⟨by omega, this.2⟩
  | [], _ + 1, _, _, h => by
    unfold spliceK at h
    exact h.elim
  | y :: r, n + 1, xs, k, h => by
    have h' : spliceK r n xs (fun l => k (y :: l)) := by
      cases xs <;> exact h
    have := spliceK_sound (l := r) (off := n) (news := xs) h'
    have e : n + 1 + xs.length = (n + xs.length) + 1 := by omega
    simp only [splice, List.take_succ_cons, e, List.drop_succ_cons, List.cons_append, List.length_cons] at *
    exact ⟨by omega, this.2⟩
theorem splice_len {α : Type} (l : List α) (off : Nat) (news : List α) (h : off + news.length ≤ l.length) : (splice l off news).length = l.length := by
  simp [splice]; omega
theorem denL_splice (ρ : Rho) (l : List SV) (off : Nat) (news : List SV) : denL ρ (splice l off news) = splice (denL ρ l) off (denL ρ news) := by
  simp [denL_map, splice, List.map_take, List.map_drop]
theorem ltL_splice {l : List SV} {off : Nat} {news : List SV} (h : ltL nx l = true) (h' : ltL nx news = true) : ltL nx (splice l off news) = true := by
  rw [ltL_iff] at *
  intro x hx
  simp only [splice, List.mem_append] at hx
  rcases hx with (hx | hx) | hx
  · exact h x (List.mem_of_mem_take hx)
  · exact h' x hx
  · exact h x (List.mem_of_mem_drop hx)

/-- The cells of a value, one by one. -/
def flatK (v : SV) (k : List SV → Prop) : Prop :=
  match v with
  | .a l => k l
  | .v (.int kk z) => k [.v (.int kk z)]
  | .v (.string s) => k [.v (.string s)]
  | .v (.bool b) => k [.v (.bool b)]
  | .v (.slice a l c) => k [.v (.slice a l c)]
  | .v (.pointer a) => k [.v (.pointer a)]
  | .v .nilFunc => k [.v .nilFunc]
  | .p n off => k [.p n off]
  | .s n size len cap => k [.s n size len cap]
  | .so n size eo len cap => k [.so n size eo len cap]
  | .f fn l => k [.f fn l]
  | _ => False
theorem flatK_sound {v : SV} {k : List SV → Prop} (h : flatK v k) : ∃ l, k l ∧ (∀ nx, v.lt nx = true → ltL nx l = true) ∧ (∀ ρ : Rho, (den ρ v).cells = (denL ρ l).toArray) := by
  unfold flatK at h
  split at h
  all_goals first | exact h.elim | skip
  all_goals refine ⟨_, h, fun nx hx => by simpa [ltL, SV.lt] using hx, fun ρ => ?_⟩
  all_goals simp [den, denL, Value.cells]

theorem splice_set {α : Type} (l : List α) (n : Nat) (v : α) (vs : List α) (h : n < l.length) : splice (l.set n v) (n + 1) vs = splice l n (v :: vs) := by
  have hl : (l.take n).length = n := by simp; omega
  have e1 : (l.set n v).take (n + 1) = l.take n ++ [v] := by
    rw [List.set_eq_take_append_cons_drop, if_pos h, List.take_append, hl]
    simp [List.take_take, Nat.add_sub_cancel_left]
  have e2 : ∀ m, (l.set n v).drop (n + 1 + m) = l.drop (n + 1 + m) := by
    intro m
    rw [List.set_eq_take_append_cons_drop, if_pos h, List.drop_append, hl, List.drop_eq_nil_of_le (by rw [hl]; omega)]
    have : n + 1 + m - n = m + 1 := by omega
    rw [this]
    simp
  simp only [splice, e1, e2, List.length_cons]
  have : n + (vs.length + 1) = n + 1 + vs.length := by omega
  rw [this]
  simp
theorem fold_set (off : Nat) : ∀ (vs : List Value) (s : Nat) (cs : Array Value), off + s + vs.length ≤ cs.size →
    ((vs.zipIdx s).foldl (fun (cs : Array Value) (x : Value × Nat) => cs.setIfInBounds (off + x.2) x.1) cs).toList = splice cs.toList (off + s) vs
  | [], s, cs, _ => by simp [splice]
  | v :: vs, s, cs, h => by
    have ih := fold_set off vs (s + 1) (cs.setIfInBounds (off + s) v) (by simp at h ⊢; omega)
    simp only [List.zipIdx_cons, List.foldl_cons]
    rw [ih]
    simp at h
    rw [Array.toList_setIfInBounds, ← Nat.add_assoc, splice_set _ _ _ _ (by simp; omega)]

/-- The parts of a composite literal, laid into the zero value. -/
def fillK (pl : Nat → (Nat → Nat → Prop) → Prop) : List SV → List (Nat × SV) → (List SV → Prop) → Prop
  | cells, [], k => k cells
  | cells, (i, v) :: r, k => pl i (fun off size => flatK v (fun l => bif Nat.beq l.length size then spliceK cells off l (fun cells' => fillK pl cells' r k) else False))
theorem fillK_sound {pl : Nat → (Nat → Nat → Prop) → Prop} {place : Nat → Option (Nat × Nat)} (hpl : ∀ i k, pl i k → ∃ o s, place i = some (o, s) ∧ k o s) :
    ∀ {parts : List (Nat × SV)} {cells : List SV} {k : List SV → Prop}, fillK pl cells parts k → ∃ r, k r ∧ (∀ nx, ltL nx cells = true → (∀ x ∈ parts, x.2.lt nx = true) → ltL nx r = true) ∧
      ∀ ρ : Rho, Instr.fill place (denL ρ cells).toArray (parts.map (fun x => (x.1, den ρ x.2))) = some (denL ρ r).toArray
  | [], cells, k, h => ⟨cells, h, fun _ h _ => h, fun ρ => by simp [Instr.fill]⟩
  | (i, v) :: r, cells, k, h => by
    obtain ⟨off, size, h1, h2⟩ := hpl _ _ h
    obtain ⟨l, h3, h4, h5⟩ := flatK_sound h2
    cases hb : Nat.beq l.length size with
    | false => rw [hb] at h3; exact h3.elim
    | true =>
      rw [hb] at h3
      have hs := Nat.eq_of_beq_eq_true hb
      obtain ⟨h6, h7⟩ := spliceK_sound h3
      obtain ⟨r', h8, h9, h10⟩ := fillK_sound hpl h7
      refine ⟨r', h8, fun nx hc hp => h9 nx (ltL_splice hc (h4 nx (hp _ (List.mem_cons_self ..)))) (fun x hx => hp x (List.mem_cons_of_mem _ hx)), fun ρ => ?_⟩
      have hz : (denL ρ l).length = l.length := by simp [denL_map]
      have hz2 : (denL ρ cells).length = cells.length := by simp [denL_map]
      have h11 := h10 ρ
      rw [denL_splice] at h11
      simp only [List.map_cons, Instr.fill, h1, h5 ρ]
      have hc1 : ¬ ((denL ρ l).toArray.size ≠ size ∨ off + (denL ρ l).toArray.size > (denL ρ cells).toArray.size) := by
        simp [hz, hz2, hs]; omega
      simp only [ne_eq, Bool.or_eq_true, decide_eq_true_eq] at hc1 ⊢
      rw [if_neg (by simpa using hc1)]
      have hfold := fold_set off (denL ρ l) 0 (denL ρ cells).toArray (by simp [hz, hz2]; omega)
      have e : ((denL ρ l).toArray.zipIdx.foldl (fun (cs : Array Value) (x : Value × Nat) => cs.setIfInBounds (off + x.2) x.1) (denL ρ cells).toArray) = (splice (denL ρ cells) off (denL ρ l)).toArray := by
        apply Array.ext'
        simpa using hfold
      rw [← h11, ← e]
def vsK : List Value → (List SV → Prop) → Prop
  | [], k => k []
  | x :: r, k => vsK r (fun l => k (.v x :: l))
theorem vsK_sound : ∀ {l : List Value} {k : List SV → Prop}, vsK l k → k (l.map SV.v)
  | [], k, h => h
  | x :: r, k, h => by
    have := vsK_sound (l := r) h
    simpa using this
theorem denL_v (ρ : Rho) (l : List Value) : denL ρ (l.map SV.v) = l := by
  induction l with
  | nil => simp [denL]
  | cons x r ih => simp [denL, den, ih]
theorem ltL_v (l : List Value) : ltL nx (l.map SV.v) = true := by
  rw [ltL_iff]
  intro x hx
  obtain ⟨y, _, rfl⟩ := List.mem_map.1 hx
  rfl
def zerosK (v : Value) (k : List SV → Prop) : Prop :=
  match v with
  | .agg cs => vsK cs.toList k
  | _ => False
theorem zerosK_sound {v : Value} {k : List SV → Prop} (h : zerosK v k) : ∃ cs, v = .agg cs ∧ k (cs.toList.map SV.v) := by
  unfold zerosK at h
  split at h
  · exact ⟨_, rfl, vsK_sound h⟩
  · exact h.elim

/-! build -/
def placesK (T : Tab) : List Field → (List (Nat × Nat) → Prop) → Prop
  | [], k => k []
  | f :: r, k => tyK T f.type (fun tf => placesK T r (fun l => k ((f.offset, tf.size) :: l)))
theorem placesK_sound (hT : TabOk P T) : ∀ {fl : List Field} {k : List (Nat × Nat) → Prop}, placesK T fl k → ∃ l, k l ∧ ∀ W : World, (fl.mapM (fun f => do pure (f.offset, ← Go.sizeOf f.type)) : Sem (List (Nat × Nat))).run P W = .ok l W
  | [], k, h => ⟨[], h, fun W => by simp⟩
  | f :: r, k, h => by
    obtain ⟨tf, htf, h1⟩ := tyK_sound hT h
    obtain ⟨l, h2, h3⟩ := placesK_sound hT h1
    refine ⟨_, h2, fun W => ?_⟩
    have e := h3 W
    simp only [bind_pure_comp] at e
    simp [List.mapM_cons, htf.sizeOf W, e]
def partsK (env : Env) (cur : Pth) : List (Nat × Operand) → (List (Nat × SV) → Prop) → Prop
  | [], k => k []
  | (i, x) :: r, k => evK env cur x (fun v => partsK env cur r (fun l => k ((i, v) :: l)))
theorem partsK_sound : ∀ {l : List (Nat × Operand)} {k : List (Nat × SV) → Prop}, partsK env cur l k → ∃ vs, k vs ∧ ∀ ρ G nx a, Fk ρ G env nx a → holdsB G cur = true →
    l.map (fun x => (x.1, a.eval x.2)) = vs.map (fun x => (x.1, den ρ x.2)) ∧ ∀ x ∈ vs, x.2.lt nx = true
  | [], k, h => ⟨[], h, fun _ _ _ _ _ _ => ⟨rfl, by simp⟩⟩
  | (i, x) :: r, k, h => by
    obtain ⟨v, h1, hv⟩ := evK_sound h
    obtain ⟨vs, h2, hvs⟩ := partsK_sound h1
    refine ⟨_, h2, fun ρ G nx a hf hc => ?_⟩
    have e1 := hv ρ G nx a hf hc
    have e2 := hvs ρ G nx a hf hc
    refine ⟨by simp only [List.map_cons, e1.1, e2.1], fun y hy => ?_⟩
    rcases List.mem_cons.1 hy with rfl | hy
    · exact e1.2
    · exact e2.2 y hy
def buildK (T : Tab) (env : Env) (cur : Pth) (t : TypeId) (parts : List (Nat × Operand)) (k : Option Prop → SV → Prop) : Prop :=
  tyK T t (fun ti => partsK env cur parts (fun vs => zerosK ti.zero (fun zs => match ti.d with
    | .struct fs => placesK T fs.toList (fun pl => fillK (fun i k => nthK pl i (fun x => k x.1 x.2)) zs vs (fun r => k none (.a r)))
    | .array _ el => tyK T el (fun te => fillK (fun i k => k (i * te.size) te.size) zs vs (fun r => k none (.a r)))
    | _ => False)))
theorem buildK_sound {t : TypeId} {parts : Array (Nat × Operand)} (hT : TabOk P T) (h : buildK T env cur t parts.toList k) : ∃ φ v, QOk P w env L nx cur (.build t parts) φ v ∧ k φ v := by
  obtain ⟨ti, hti, h1⟩ := tyK_sound hT h
  obtain ⟨vs, h2, hv⟩ := partsK_sound h1
  obtain ⟨zs, hz, h3⟩ := zerosK_sound h2
  clear h h1 h2
  split at h3
  · rename_i fs hd
    obtain ⟨pl, h4, h5⟩ := placesK_sound (P := P) hT h3
    obtain ⟨r, h6, h7, h8⟩ := fillK_sound (place := fun i => pl.toArray[i]?) (by
      intro i k hk
      obtain ⟨x, hx, hk⟩ := nthK_sound hk
      exact ⟨x.1, x.2, by simpa using hx, hk⟩) h4
    refine ⟨none, _, fun ρ G a W hf hc _ _ => ⟨?_, fun o ho => ?_⟩, h6⟩
    · simpa [SV.lt] using h7 nx (ltL_v _) (hv ρ G nx a hf hc).2
    · have u := hti.under W
      rw [hd] at u
      have e1 := (hv ρ G nx a hf hc).1
      have e2 := h8 ρ
      have e3 := h5 W
      rw [← e1, denL_v] at e2
      simp only [bind_pure_comp] at e3
      simp [execOp, ho, Instr.build, hti.zeroV W, u, hz, Value.cells]
      rw [Array.mapM_eq_mapM_toList]
      simp [e3]
      have e4 : (fun x : Nat => pl[x]?) = fun i => pl.toArray[i]? := by funext i; simp
      simp only [Array.toArray_toList] at e2
      rw [e4, e2]
      simp [den]
  · rename_i n el hd
    obtain ⟨te, hte, h4⟩ := tyK_sound hT h3
    obtain ⟨r, h6, h7, h8⟩ := fillK_sound (place := fun i => some (i * te.size, te.size)) (by
      intro i k hk
      exact ⟨_, _, rfl, hk⟩) h4
    refine ⟨none, _, fun ρ G a W hf hc _ _ => ⟨?_, fun o ho => ?_⟩, h6⟩
    · simpa [SV.lt] using h7 nx (ltL_v _) (hv ρ G nx a hf hc).2
    · have u := hti.under W
      rw [hd] at u
      have e1 := (hv ρ G nx a hf hc).1
      have e2 := h8 ρ
      rw [← e1, denL_v] at e2
      simp only [Array.toArray_toList] at e2
      simp [execOp, ho, Instr.build, hti.zeroV W, u, hz, Value.cells, hte.sizeOf W, e2, den]
  · exact h3.elim
end
end Go.Proofs.Ytofekfpbljihiaa
