/- The symbolic machine: the remaining operations that leave the heap as it is. No program in sight. -/
import Derived.Test.YtofekfpbljihiaaSy4
namespace Go.Proofs.Ytofekfpbljihiaa
open Go.RowKit
set_option linter.unusedVariables false
set_option linter.unusedSimpArgs false

section
variable {P : Program} {w : World} {T : Tab} {env : Env} {L : List Ob} {nx : Nat} {cur : Pth} {k : Option Prop → SV → Prop}

/-! == -/
def partV (T : Tab) (f : Field) (l : List SV) (k : SV → Prop) : Prop := tyK T f.type (fun tf => bif aggD tf.d then cutK l f.offset tf.size (fun r => k (.a r)) else nthK l f.offset (fun u => k u))
def eqF (T : Tab) (E : TypeId → SV → SV → (Bool → Prop) → Prop) : List Field → List SV → List SV → (Bool → Prop) → Prop
  | [], _, _, k => k true
  | f :: r, l1, l2, k => partV T f l1 (fun a => partV T f l2 (fun b => E f.type a b (fun c => eqF T E r l1 l2 (fun c' => k (c && c')))))
def eqV (T : Tab) : Nat → TypeId → SV → SV → (Bool → Prop) → Prop
  | 0, _, _, _, _ => False
  | fuel + 1, t, x, y, k => tyK T t (fun ti => match ti.d, x, y with
    | .bool, .v (.bool a), .v (.bool b) => k (a == b)
    | .int _, .v (.int k1 a), .v (.int k2 b) => bif Nat.beq (kb k1) (kb k2) then k (decide (a = b)) else False
    | .string, .v (.string a), .v (.string b) => k (a == b)
    | .struct fs, .a l1, .a l2 => bif ti.eqok then eqF T (eqV T fuel) fs.toList l1 l2 k else False
    | _, _, _ => False)
theorem partV_sound {f : Field} {l : List SV} {k : SV → Prop} (hT : TabOk P T) (h : partV T f l k) : ∃ u, k u ∧ ∀ (ρ : Rho) (W : World), (part f.type (denL ρ l).toArray f.offset).run P W = .ok (den ρ u) W := by
  obtain ⟨tf, htf, h1⟩ := tyK_sound hT h
  cases hb : aggD tf.d with
  | true =>
    rw [hb] at h1
    obtain ⟨hle, h5⟩ := cutK_sound h1
    refine ⟨_, h5, fun ρ W => ?_⟩
    have u2 := htf.isAgg W
    rw [hb] at u2
    simp [part, u2, htf.sizeOf W, denL_cut, den]
  | false =>
    rw [hb] at h1
    obtain ⟨u, hu, h5⟩ := nthK_sound h1
    refine ⟨u, h5, fun ρ W => ?_⟩
    have u2 := htf.isAgg W
    rw [hb] at u2
    simp [part, u2, denL_map, hu]
theorem eqF_sound (hT : TabOk P T) {d : Nat} {E : TypeId → SV → SV → (Bool → Prop) → Prop}
    (hE : ∀ t x y k, E t x y k → ∃ c, k c ∧ ∀ (ρ : Rho) (W : World), (Op.equalIn d t (den ρ x) (den ρ y)).run P W = .ok c W) {l1 l2 : List SV} :
    ∀ (fl : List Field) (k : Bool → Prop), (∀ f ∈ fl, f.name ≠ "_") → eqF T E fl l1 l2 k → ∃ c, k c ∧ ∀ (ρ : Rho) (W : World),
      (forIn fl ((none, ()) : Option Bool × Unit) fun f __s =>
              if f.name = "_" then pure (ForInStep.yield (none, ()))
              else do
                let __do_lift ← part f.type (denL ρ l1).toArray f.offset
                let __do_lift_1 ← part f.type (denL ρ l2).toArray f.offset
                let __do_lift ← Op.equalIn d f.type __do_lift __do_lift_1
                if __do_lift = false then pure (ForInStep.done (some false, ())) else pure (ForInStep.yield (none, ())) : Sem _).run P W = .ok (if c then (none, ()) else (some false, ())) W
  | [], k, _, h => ⟨true, h, fun ρ W => by simp⟩
  | f :: r, k, hn, h => by
    obtain ⟨a, h1, ha⟩ := partV_sound (P := P) hT h
    obtain ⟨b, h2, hb⟩ := partV_sound (P := P) hT h1
    obtain ⟨c, h3, hc⟩ := hE _ _ _ _ h2
    obtain ⟨c', h4, hc'⟩ := eqF_sound hT hE r _ (fun f hf => hn f (List.mem_cons_of_mem _ hf)) h3
    refine ⟨_, h4, fun ρ W => ?_⟩
    have e := hc' ρ W
    have hn1 := hn f (List.mem_cons_self ..)
    cases c with
    | true => simp [List.forIn_cons, hn1, ha ρ W, hb ρ W, hc ρ W, e]
    | false => simp [List.forIn_cons, hn1, ha ρ W, hb ρ W, hc ρ W]
theorem eqV_sound (hT : TabOk P T) : ∀ (fuel d : Nat), fuel ≤ d → ∀ t x y k, eqV T fuel t x y k → ∃ c, k c ∧ ∀ (ρ : Rho) (W : World), (Op.equalIn d t (den ρ x) (den ρ y)).run P W = .ok c W := by
  intro fuel
  induction fuel with
  | zero => intro d _ t x y k h; exact h.elim
  | succ fuel ih =>
    intro d hd t x y k h
    obtain ⟨e, rfl⟩ : ∃ e, d = e + 1 := ⟨d - 1, by omega⟩
    obtain ⟨ti, hti, h1⟩ := tyK_sound hT h
    clear h
    split at h1
    · rename_i hd1
      refine ⟨_, h1, fun ρ W => ?_⟩
      have u := hti.under W
      rw [hd1] at u
      rw [Op.equalIn]
      simp [u, den]
    · rename_i hd1
      rename_i k1 a k2 b
      cases hb : Nat.beq (kb k1) (kb k2) with
      | false => rw [hb] at h1; exact h1.elim
      | true =>
        rw [hb] at h1
        obtain rfl := kb_eq hb
        refine ⟨_, h1, fun ρ W => ?_⟩
        have u := hti.under W
        rw [hd1] at u
        rw [Op.equalIn]
        simp [u, den, beq_dec]
    · rename_i hd1
      refine ⟨_, h1, fun ρ W => ?_⟩
      have u := hti.under W
      rw [hd1] at u
      rw [Op.equalIn]
      simp [u, den]
    · rename_i fs l1 l2 hd1
      cases hb : ti.eqok with
      | false => rw [hb] at h1; exact h1.elim
      | true =>
        rw [hb] at h1
        obtain ⟨_, _, _, _, _, _, hq⟩ := hti
        obtain ⟨q1, q2, q3⟩ := hq hb
        obtain ⟨c, h2, hc⟩ := eqF_sound hT (ih e (by omega)) fs.toList _ (q3 fs hd1) h1
        refine ⟨c, h2, fun ρ W => ?_⟩
        have u : (underlying t).run P W = .ok (.struct fs) W := by simp [underlying, *]
        have e1 := hc ρ W
        rw [Op.equalIn]
        simp only [den]
        simp [u, q1]
        rw [← Array.forIn_toList, e1]
        cases c <;> simp
    · exact h1.elim

/-! binOp, unOp -/
def eqOp (op : BinOp) (c : Bool) (k : Option Prop → SV → Prop) : Prop :=
  match op with
  | .eql => k none (.v (.bool c))
  | .neq => k none (.v (.bool (!c)))
  | _ => False
def binK (T : Tab) (env : Env) (cur : Pth) (op : BinOp) (t : TypeId) (x y : Operand) (k : Option Prop → SV → Prop) : Prop :=
  evK env cur x (fun vx => evK env cur y (fun vy =>
    match vx, vy with
    | .v (.int k1 a), .v (.int k2 b) => bif isSh op then shiftI op k1 a b k else (bif Nat.beq (kb k1) (kb k2) then binI op k1 a b k else False)
    | .v (.string a), .v (.string b) => binS op a b k
    | .v (.bool a), .v (.bool b) => eqV T 1 t (.v (.bool a)) (.v (.bool b)) (fun c => eqOp op c k)
    | .a l1, .a l2 => tyK T t (fun ti => bif ti.eqok then eqV T 4 t (.a l1) (.a l2) (fun c => eqOp op c k) else False)
    | _, _ => False))
theorem eqOp_sound {op : BinOp} {c : Bool} (h : eqOp op c k) : ∃ v, k none v ∧ (∀ nx, v.lt nx = true) ∧
    ∀ (ρ : Rho) t (W : World) (x y : Value), (∀ kk z, x ≠ .int kk z) → (∀ z, x ≠ .string z) → (∀ kk z, x ≠ .float kk z) → (∀ kk r z, x ≠ .complex kk r z) → (Op.equal t x y).run P W = .ok c W → (binOp op t x y).run P W = .ok (den ρ v) W := by
  unfold eqOp at h
  split at h
  · refine ⟨_, h, fun _ => rfl, fun ρ t W x y h1 h2 h3 h4 he => ?_⟩
    cases x <;> first | exact absurd rfl (h1 _ _) | exact absurd rfl (h2 _) | exact absurd rfl (h3 _ _) | exact absurd rfl (h4 _ _ _) | simp [binOp, he, den]
  · refine ⟨_, h, fun _ => rfl, fun ρ t W x y h1 h2 h3 h4 he => ?_⟩
    cases x <;> first | exact absurd rfl (h1 _ _) | exact absurd rfl (h2 _) | exact absurd rfl (h3 _ _) | exact absurd rfl (h4 _ _ _) | simp [binOp, he, den]
  · exact h.elim
theorem binK_sound {op : BinOp} {t t' : TypeId} {x y : Operand} (hT : TabOk P T) (h : binK T env cur op t x y k) : ∃ φ v, QOk P w env L nx cur (.binOp op t x y t') φ v ∧ k φ v := by
  obtain ⟨vx, h1, hx⟩ := evK_sound h
  obtain ⟨vy, h2, hy⟩ := evK_sound h1
  clear h h1
  split at h2
  · rename_i k1 a k2 b
    cases hsh : isSh op with
    | true =>
      rw [hsh] at h2
      obtain ⟨φ, v, h3, h4, h5⟩ := shiftI_sound (P := P) (k2 := k2) h2
      refine ⟨φ, v, fun ρ G ac W hf hc _ hφ => ⟨h4 nx, fun o ho => ?_⟩, h3⟩
      have e1 := (hx ρ G nx ac hf hc).1
      have e2 := (hy ρ G nx ac hf hc).1
      have e3 := h5 ρ t W hφ
      simp [execOp, ho, e1, e2, den, eqGuard, e3]
    | false =>
    rw [hsh] at h2
    simp only [cond_false] at h2
    cases hb : Nat.beq (kb k1) (kb k2) with
    | false => rw [hb] at h2; exact h2.elim
    | true =>
      rw [hb] at h2
      obtain rfl := kb_eq hb
      obtain ⟨φ, v, h3, h4, h5⟩ := binI_sound (P := P) h2
      refine ⟨φ, v, fun ρ G ac W hf hc _ hφ => ⟨h4 nx, fun o ho => ?_⟩, h3⟩
      have e1 := (hx ρ G nx ac hf hc).1
      have e2 := (hy ρ G nx ac hf hc).1
      have e3 := h5 ρ t W hφ
      simp [execOp, ho, e1, e2, den, eqGuard, e3]
  · rename_i a b
    obtain ⟨φ, v, h3, h4, h5⟩ := binS_sound (P := P) h2
    refine ⟨φ, v, fun ρ G ac W hf hc _ hφ => ⟨h4 nx, fun o ho => ?_⟩, h3⟩
    have e1 := (hx ρ G nx ac hf hc).1
    have e2 := (hy ρ G nx ac hf hc).1
    have e3 := h5 ρ t W hφ
    simp [execOp, ho, e1, e2, den, eqGuard, e3]
  · rename_i a b
    obtain ⟨c, h3, hc3⟩ := eqV_sound (P := P) hT 1 Op.maxDepth (by decide) _ _ _ _ h2
    obtain ⟨v, h4, h5, h6⟩ := eqOp_sound (P := P) h3
    refine ⟨_, _, fun ρ G ac W hf hc _ hφ => ⟨h5 nx, fun o ho => ?_⟩, h4⟩
    have e1 := (hx ρ G nx ac hf hc).1
    have e2 := (hy ρ G nx ac hf hc).1
    have e3 := h6 ρ t W (.bool a) (.bool b) (by simp) (by simp) (by simp) (by simp) (by have := hc3 ρ W; simpa [den, Op.equal] using this)
    simp [execOp, ho, e1, e2, den, eqGuard, e3]
  · rename_i l1 l2
    obtain ⟨ti, hti, h3⟩ := tyK_sound hT h2
    cases hb : ti.eqok with
    | false => rw [hb] at h3; exact h3.elim
    | true =>
      rw [hb] at h3
      simp only [cond_true] at h3
      obtain ⟨c, h3, hc3⟩ := eqV_sound (P := P) hT 4 Op.maxDepth (by decide) _ _ _ _ h3
      obtain ⟨v, h4, h5, h6⟩ := eqOp_sound (P := P) h3
      refine ⟨_, _, fun ρ G ac W hf hc _ hφ => ⟨h5 nx, fun o ho => ?_⟩, h4⟩
      have e1 := (hx ρ G nx ac hf hc).1
      have e2 := (hy ρ G nx ac hf hc).1
      obtain ⟨_, _, _, _, _, _, hq⟩ := hti
      obtain ⟨_, q2, _⟩ := hq hb
      have e3 := h6 ρ t W (.agg (denL ρ l1).toArray) (.agg (denL ρ l2).toArray) (by simp) (by simp) (by simp) (by simp) (by have := hc3 ρ W; simpa [den, Op.equal] using this)
      simp [execOp, ho, e1, e2, den, eqGuard, q2, e3]
  · exact h2.elim
def unK (env : Env) (cur : Pth) (op : UnOp) (x : Operand) (k : Option Prop → SV → Prop) : Prop :=
  evK env cur x (fun vx => match op, vx with
    | .neg, .v (.int kk n) => wrapK kk (-n) k
    | .not, .v (.bool b) => k none (.v (.bool (!b)))
    | _, _ => False)
theorem unK_sound {op : UnOp} {t : TypeId} {x : Operand} (h : unK env cur op x k) : ∃ φ v, QOk P w env L nx cur (.unOp op t x) φ v ∧ k φ v := by
  obtain ⟨vx, h1, hx⟩ := evK_sound h
  clear h
  split at h1
  · rename_i kk n
    obtain ⟨φ, v, h3, h4, h5⟩ := wrapK_sound h1
    refine ⟨φ, v, fun ρ G ac W hf hc _ hφ => ⟨h4 nx, fun o ho => ?_⟩, h3⟩
    have e1 := (hx ρ G nx ac hf hc).1
    simp [execOp, ho, e1, den, Op.unary, Op.intArith, h5 ρ hφ]
  · refine ⟨_, _, fun ρ G ac W hf hc _ hφ => ⟨rfl, fun o ho => ?_⟩, h1⟩
    have e1 := (hx ρ G nx ac hf hc).1
    simp [execOp, ho, e1, den, Op.unary]
  · exact h1.elim

end
end Go.Proofs.Ytofekfpbljihiaa
