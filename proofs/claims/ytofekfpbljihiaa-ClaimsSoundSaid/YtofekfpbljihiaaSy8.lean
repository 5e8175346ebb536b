/- The symbolic machine: every operation that leaves the heap as it is. No program in sight. -/
import Derived.Test.YtofekfpbljihiaaSy7
namespace Go.Proofs.Ytofekfpbljihiaa
open Go.RowKit
set_option linter.unusedVariables false
set_option linter.unusedSimpArgs false
set_option linter.unnecessarySimpa false

section
variable {P : Program} {w : World} {T : Tab} {env : Env} {L : List Ob} {nx : Nat} {cur : Pth} {k : Option Prop → SV → Prop}

def nilK (env : Env) (cur : Pth) (x : Operand) (k : Option Prop → SV → Prop) : Prop :=
  evK env cur x (fun v => match v with
    | .p n off => k none (.p n off)
    | .e n size i j => k none (.e n size i j)
    | .f fn l => k none (.f fn l)
    | _ => False)
theorem nilK_sound {x : Operand} (h : nilK env cur x k) : ∃ φ v, QOk P w env L nx cur (.nilCheck x) φ v ∧ k φ v := by
  obtain ⟨v, h1, hx⟩ := evK_sound h
  clear h
  split at h1
  all_goals first | exact h1.elim | skip
  all_goals
    refine ⟨_, _, fun ρ G a W hf hc _ _ => ⟨(hx ρ G nx a hf hc).2, fun o ho => ?_⟩, h1⟩
    have e := (hx ρ G nx a hf hc).1
    simp [execOp, ho, e, den]
def convK (T : Tab) (env : Env) (cur : Pth) (src dst : TypeId) (x : Operand) (k : Option Prop → SV → Prop) : Prop :=
  tyK T src (fun ts => tyK T dst (fun td => evK env cur x (fun v => match td.d, v with
    | .int kk, .v (.int _ n) => wrapK kk n k
    | .string, .v (.string s) => k none (.v (.string s))
    | _, _ => False)))
theorem convK_sound {src dst : TypeId} {x : Operand} (hT : TabOk P T) (h : convK T env cur src dst x k) : ∃ φ v, QOk P w env L nx cur (.convert src dst x) φ v ∧ k φ v := by
  obtain ⟨ts, hts, h1⟩ := tyK_sound hT h
  obtain ⟨td, htd, h2⟩ := tyK_sound hT h1
  obtain ⟨v, h3, hx⟩ := evK_sound h2
  clear h h1 h2
  split at h3
  · rename_i kk k' n hd
    obtain ⟨φ, v, h4, h5, h6⟩ := wrapK_sound h3
    refine ⟨φ, v, fun ρ G a W hf hc _ hφ => ⟨h5 nx, fun o ho => ?_⟩, h4⟩
    have e := (hx ρ G nx a hf hc).1
    have u1 := hts.under W
    have u2 := htd.under W
    rw [hd] at u2
    simp [execOp, ho, e, den, convert, u1, u2, Conv.intToInt, h6 ρ hφ]
  · rename_i s hd
    refine ⟨_, _, fun ρ G a W hf hc _ hφ => ⟨rfl, fun o ho => ?_⟩, h3⟩
    have e := (hx ρ G nx a hf hc).1
    have u1 := hts.under W
    have u2 := htd.under W
    rw [hd] at u2
    simp [execOp, ho, e, den, convert, u1, u2]
  · exact h3.elim
def indexK (T : Tab) (env : Env) (cur : Pth) (t : TypeId) (x i : Operand) (k : Option Prop → SV → Prop) : Prop :=
  tyK T t (fun ti => evK env cur x (fun v => evK env cur i (fun vi => asI vi (fun kk z => match ti.d, v with
    | .string, .v (.string s) => k (some (0 ≤ z ∧ z < s.size)) (.v (.int .u8 ((s.data.toList.getD z.toNat 0).toNat : Int)))
    | .array len el, .a l => tyK T el (fun te => bif aggD te.d then cutK l (z.toNat * te.size) te.size (fun r => k (some (0 ≤ z ∧ z < len)) (.a r)) else nthK l (z.toNat * te.size) (fun u => k (some (0 ≤ z ∧ z < len)) u))
    | _, _ => False))))
theorem indexK_sound {t : TypeId} {x i : Operand} (hT : TabOk P T) (h : indexK T env cur t x i k) : ∃ φ v, QOk P w env L nx cur (.index t x i) φ v ∧ k φ v := by
  obtain ⟨ti, hti, h1⟩ := tyK_sound hT h
  obtain ⟨v, h2, hx⟩ := evK_sound h1
  obtain ⟨vi, h3, hi⟩ := evK_sound h2
  obtain ⟨kk, z, rfl, h4⟩ := asI_sound h3
  clear h h1 h2 h3
  split at h4
  · rename_i s hd
    refine ⟨_, _, fun ρ G a W hf hc _ hφ => ⟨rfl, fun o ho => ?_⟩, h4⟩
    obtain ⟨p1, p2⟩ := hφ
    obtain ⟨j, rfl⟩ := Int.eq_ofNat_of_zero_le p1
    have e1 := (hx ρ G nx a hf hc).1
    have e2 := (hi ρ G nx a hf hc).1
    have u := hti.under W
    rw [hd] at u
    have hj : j < s.size := by omega
    have hg : s[j]? = some s[j] := by simp [hj]
    simp [execOp, ho, e1, e2, den, Instr.index, asIntOf, u, hg]
    have hj2 : j < s.data.size := hj
    rw [Array.getElem?_eq_getElem hj2]
    rfl
  · rename_i len el l hd
    obtain ⟨te, hte, h5⟩ := tyK_sound hT h4
    cases hb : aggD te.d with
    | true =>
      rw [hb] at h5
      obtain ⟨hle, h6⟩ := cutK_sound h5
      refine ⟨_, _, fun ρ G a W hf hc _ hφ => ⟨(by simpa [SV.lt] using ltL_cut (nx := nx) (l := l) (by simpa [SV.lt] using (hx ρ G nx a hf hc).2)), fun o ho => ?_⟩, h6⟩
      obtain ⟨p1, p2⟩ := hφ
      have e1 := (hx ρ G nx a hf hc).1
      have e2 := (hi ρ G nx a hf hc).1
      have u := hti.under W
      rw [hd] at u
      have u2 := hte.isAgg W
      rw [hb] at u2
      simp [execOp, ho, e1, e2, den, Instr.index, asIntOf, u, p1, p2, part, u2, hte.sizeOf W, denL_cut]
    | false =>
      rw [hb] at h5
      obtain ⟨u', hu', h6⟩ := nthK_sound h5
      refine ⟨_, _, fun ρ G a W hf hc _ hφ => ⟨(ltL_iff _ _).1 (by simpa [SV.lt] using (hx ρ G nx a hf hc).2) u' (List.mem_of_getElem? hu'), fun o ho => ?_⟩, h6⟩
      obtain ⟨p1, p2⟩ := hφ
      have e1 := (hx ρ G nx a hf hc).1
      have e2 := (hi ρ G nx a hf hc).1
      have u := hti.under W
      rw [hd] at u
      have u2 := hte.isAgg W
      rw [hb] at u2
      simp [execOp, ho, e1, e2, den, Instr.index, asIntOf, u, p1, p2, part, u2, hte.sizeOf W, denL_map, hu']
  · exact h4.elim
def mkFnK (env : Env) (cur : Pth) (fn : Fn) (first captured : List Operand) (k : Option Prop → SV → Prop) : Prop :=
  match fn, first with
  | .func f, [] => evsK env cur captured (fun vs => k none (.f f vs))
  | _, _ => False
theorem mkFnK_sound {fn : Fn} {first captured : Array Operand} (h : mkFnK env cur fn first.toList captured.toList k) : ∃ φ v, QOk P w env L nx cur (.makeFunc fn first captured) φ v ∧ k φ v := by
  obtain ⟨first, rfl⟩ : ∃ l : List Operand, first = l.toArray := ⟨first.toList, by simp⟩
  obtain ⟨captured, rfl⟩ : ∃ l : List Operand, captured = l.toArray := ⟨captured.toList, by simp⟩
  simp only at h
  unfold mkFnK at h
  split at h
  · rename_i f hfst
    obtain ⟨vs, h1, hv⟩ := evsK_sound h
    refine ⟨_, _, fun ρ G a W hf hc _ hφ => ⟨by simpa [SV.lt] using (hv ρ G nx a hf hc).2, fun o ho => ?_⟩, h1⟩
    have e := (hv ρ G nx a hf hc).1
    simp [execOp, ho, Instr.makeFunc, den, e]
  · exact h.elim
def quietK (T : Tab) (env : Env) (L : List Ob) (cur : Pth) (o : Op) (k : Option Prop → SV → Prop) : Prop :=
  match o with
  | .move x => evK env cur x (fun v => k none v)
  | .assign x => evK env cur x (fun v => k none v)
  | .pick c a b => pickK env cur c a b k
  | .load t a => loadK T env L cur t a k
  | .fieldAddr s x f => fieldAddrK T env cur s x f k
  | .field s x f => fieldK T env cur s x f k
  | .indexAddr t x i => indexAddrK T env L cur t x i k
  | .index t x i => indexK T env cur t x i k
  | .extract x i => extractK env cur x i k
  | .binOp op t x y _ => binK T env cur op t x y k
  | .unOp op _ x => unK env cur op x k
  | .slice t x lo hi mx => sliceK T env cur t x lo hi mx k
  | .build t parts => buildK T env cur t parts.toList k
  | .nilCheck x => nilK env cur x k
  | .convert s d x => convK T env cur s d x k
  | .makeFunc fn fi ca => mkFnK env cur fn fi.toList ca.toList k
  | .call c => (match c.callee with
    | .builtin b => biK T env cur b c.args.toList c.argTypes.toList k
    | _ => False)
  | _ => False
theorem quietK_sound {o : Op} (hT : TabOk P T) (h : quietK T env L cur o k) : ∃ φ v, QOk P w env L nx cur o φ v ∧ k φ v := by
  unfold quietK at h
  split at h
  · exact moveK_sound h
  · exact assignK_sound h
  · exact pickK_sound h
  · exact loadK_sound hT h
  · exact fieldAddrK_sound hT h
  · exact fieldK_sound hT h
  · exact indexAddrK_sound hT h
  · exact indexK_sound hT h
  · exact extractK_sound h
  · exact binK_sound hT h
  · exact unK_sound h
  · exact sliceK_sound hT h
  · exact buildK_sound hT h
  · exact nilK_sound h
  · exact convK_sound hT h
  · exact mkFnK_sound h
  · rename_i c
    split at h
    · rename_i b hb
      obtain ⟨callee, args, ts⟩ := c
      simp only at hb
      subst hb
      exact biK_sound hT h
    · exact h.elim
  · exact h.elim
/-- Does an operation leave the heap as it is? -/
def isQ (o : Op) : Bool :=
  match o with
  | .move _ => true
  | .assign _ => true
  | .pick _ _ _ => true
  | .load _ _ => true
  | .fieldAddr _ _ _ => true
  | .field _ _ _ => true
  | .indexAddr _ _ _ => true
  | .index _ _ _ => true
  | .extract _ _ => true
  | .binOp _ _ _ _ _ => true
  | .unOp _ _ _ => true
  | .slice _ _ _ _ _ => true
  | .build _ _ => true
  | .nilCheck _ => true
  | .convert _ _ _ => true
  | .makeFunc _ _ _ => true
  | .call c => (match c.callee with
    | .builtin .len => true
    | .builtin .max => true
    | .builtin .min => true
    | _ => false)
  | _ => false
end
end Go.Proofs.Ytofekfpbljihiaa
