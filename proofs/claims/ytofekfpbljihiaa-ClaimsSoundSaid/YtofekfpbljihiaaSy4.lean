/- The symbolic machine: addresses, arithmetic, tests, lengths. No program in sight. -/
import Derived.Test.YtofekfpbljihiaaSy3
namespace Go.Proofs.Ytofekfpbljihiaa
open Go.RowKit
set_option linter.unusedVariables false
set_option linter.unusedSimpArgs false

section
variable {P : Program} {w : World} {T : Tab} {env : Env} {L : List Ob} {nx : Nat} {cur : Pth} {k : Option Prop → SV → Prop}

/-! fieldAddr -/
def shiftA (v : SV) (d : Nat) (k : SV → Prop) : Prop :=
  match v with
  | .p n off => k (.p n (off + d))
  | .e n size i j => k (.e n size i (j + d))
  | _ => False
theorem add_add (A : Addr) (x d : Nat) : (A.add x).add d = A.add (x + d) := by
  unfold Addr.add
  split <;> split <;> split <;> simp_all <;> omega
theorem shiftA_den {v : SV} {d : Nat} {k : SV → Prop} (h : shiftA v d k) : ∃ u, k u ∧ (∀ nx, v.lt nx = true → u.lt nx = true) ∧ ∀ ρ : Rho, ∃ b, den ρ v = .pointer (some b) ∧ den ρ u = .pointer (some (b.add d)) := by
  unfold shiftA at h
  split at h
  · exact ⟨_, h, fun nx hx => by simpa [SV.lt] using hx, fun ρ => ⟨_, rfl, by simp [den, add_add]⟩⟩
  · exact ⟨_, h, fun nx hx => by simpa [SV.lt] using hx, fun ρ => ⟨_, rfl, by simp [den, add_add, Nat.add_assoc]⟩⟩
  · exact h.elim
def fldK (T : Tab) (d : TypeDesc) (f : Nat) (k : Field → TI → Prop) : Prop :=
  match d with
  | .struct fs => nthK fs.toList f (fun fd => tyK T fd.type (fun tf => k fd tf))
  | _ => False
theorem fldK_sound {d : TypeDesc} {f : Nat} {k : Field → TI → Prop} (hT : TabOk P T) (h : fldK T d f k) : ∃ fs fd tf, d = .struct fs ∧ fs[f]? = some fd ∧ TyOk P fd.type tf ∧ k fd tf := by
  unfold fldK at h
  split at h
  · rename_i fs
    obtain ⟨fd, h1, h2⟩ := nthK_sound h
    obtain ⟨tf, h3, h4⟩ := tyK_sound hT h2
    exact ⟨fs, fd, tf, rfl, by simpa using h1, h3, h4⟩
  · exact h.elim
def fieldAddrK (T : Tab) (env : Env) (cur : Pth) (s : TypeId) (x : Operand) (f : Nat) (k : Option Prop → SV → Prop) : Prop :=
  tyK T s (fun ti => fldK T ti.d f (fun fd tf => bif Nat.beq tf.size 0 then False else evK env cur x (fun v => shiftA v fd.offset (fun u => k none u))))
theorem fieldAddrK_sound {s : TypeId} {x : Operand} {f : Nat} (hT : TabOk P T) (h : fieldAddrK T env cur s x f k) : ∃ φ v, QOk P w env L nx cur (.fieldAddr s x f) φ v ∧ k φ v := by
  obtain ⟨ti, hti, h1⟩ := tyK_sound hT h
  obtain ⟨fs, fd, tf, hd, hf, htf, h2⟩ := fldK_sound hT h1
  cases hb : Nat.beq tf.size 0 with
  | true => rw [hb] at h2; exact h2.elim
  | false =>
    rw [hb] at h2
    obtain ⟨v, h3, he⟩ := evK_sound h2
    obtain ⟨u, h4, hlt, hu⟩ := shiftA_den h3
    refine ⟨none, u, fun ρ G a W hfk hc hp _ => ⟨hlt nx (he ρ G nx a hfk hc).2, fun o ho => ?_⟩, h4⟩
    obtain ⟨b, e1, e2⟩ := hu ρ
    have e := (he ρ G nx a hfk hc).1
    rw [e1] at e
    have hs : tf.size ≠ 0 := by intro h0; rw [h0] at hb; cases hb
    have u1 := hti.under W
    rw [hd] at u1
    simp [execOp, ho, e, Instr.fieldAt, u1, hf, Instr.sureAddr, fieldPlace, htf.sizeOf W, hs, e2]

/-! field, extract -/
def asA (v : SV) (k : List SV → Prop) : Prop :=
  match v with
  | .a l => k l
  | _ => False
theorem asA_sound {v : SV} {k : List SV → Prop} (h : asA v k) : ∃ l, v = .a l ∧ k l := by
  unfold asA at h
  split at h
  · exact ⟨_, rfl, h⟩
  · exact h.elim
def asT (v : SV) (k : List SV → Prop) : Prop :=
  match v with
  | .t l => k l
  | _ => False
theorem asT_sound {v : SV} {k : List SV → Prop} (h : asT v k) : ∃ l, v = .t l ∧ k l := by
  unfold asT at h
  split at h
  · exact ⟨_, rfl, h⟩
  · exact h.elim
def asI (v : SV) (k : IntKind → Int → Prop) : Prop :=
  match v with
  | .v (.int kk z) => k kk z
  | _ => False
theorem asI_sound {v : SV} {k : IntKind → Int → Prop} (h : asI v k) : ∃ kk z, v = .v (.int kk z) ∧ k kk z := by
  unfold asI at h
  split at h
  · exact ⟨_, _, rfl, h⟩
  · exact h.elim
def fieldK (T : Tab) (env : Env) (cur : Pth) (s : TypeId) (x : Operand) (f : Nat) (k : Option Prop → SV → Prop) : Prop :=
  tyK T s (fun ti => fldK T ti.d f (fun fd tf => evK env cur x (fun v => asA v (fun l => bif aggD tf.d then cutK l fd.offset tf.size (fun r => k none (.a r)) else nthK l fd.offset (fun u => k none u)))))
theorem fieldK_sound {s : TypeId} {x : Operand} {f : Nat} (hT : TabOk P T) (h : fieldK T env cur s x f k) : ∃ φ v, QOk P w env L nx cur (.field s x f) φ v ∧ k φ v := by
  obtain ⟨ti, hti, h1⟩ := tyK_sound hT h
  obtain ⟨fs, fd, tf, hd, hf, htf, h2⟩ := fldK_sound hT h1
  obtain ⟨v, h3, he⟩ := evK_sound h2
  obtain ⟨l, rfl, h4⟩ := asA_sound h3
  cases hb : aggD tf.d with
  | true =>
    rw [hb] at h4
    obtain ⟨hle, h5⟩ := cutK_sound h4
    refine ⟨none, _, fun ρ G a W hfk hc hp _ => ⟨(by simpa [SV.lt] using ltL_cut (nx := nx) (l := l) (by simpa [SV.lt] using (he ρ G nx a hfk hc).2)), fun o ho => ?_⟩, h5⟩
    have e := (he ρ G nx a hfk hc).1
    have u1 := hti.under W
    rw [hd] at u1
    have u2 := htf.isAgg W
    rw [hb] at u2
    simp [execOp, ho, e, Instr.field, u1, hf, den, asAgg, part, u2, htf.sizeOf W, denL_cut]
  | false =>
    rw [hb] at h4
    obtain ⟨u, hu, h5⟩ := nthK_sound h4
    refine ⟨none, _, fun ρ G a W hfk hc hp _ => ⟨(ltL_iff _ _).1 (by simpa [SV.lt] using (he ρ G nx a hfk hc).2) u (List.mem_of_getElem? hu), fun o ho => ?_⟩, h5⟩
    have e := (he ρ G nx a hfk hc).1
    have u1 := hti.under W
    rw [hd] at u1
    have u2 := htf.isAgg W
    rw [hb] at u2
    simp [execOp, ho, e, Instr.field, u1, hf, den, asAgg, part, u2, denL_map, hu]
def extractK (env : Env) (cur : Pth) (x : Operand) (i : Nat) (k : Option Prop → SV → Prop) : Prop := evK env cur x (fun v => asT v (fun l => nthK l i (fun u => k none u)))
theorem extractK_sound {x : Operand} {i : Nat} (h : extractK env cur x i k) : ∃ φ v, QOk P w env L nx cur (.extract x i) φ v ∧ k φ v := by
  obtain ⟨v, h3, he⟩ := evK_sound h
  obtain ⟨l, rfl, h4⟩ := asT_sound h3
  obtain ⟨u, hu, h5⟩ := nthK_sound h4
  refine ⟨none, _, fun ρ G a W hfk hc hp _ => ⟨(ltL_iff _ _).1 (by simpa [SV.lt] using (he ρ G nx a hfk hc).2) u (List.mem_of_getElem? hu), fun o ho => ?_⟩, h5⟩
  have e := (he ρ G nx a hfk hc).1
  simp [execOp, ho, e, den, Instr.extract, denL_map, hu]

/-! arithmetic -/
def kb : IntKind → Nat
  | .i8 => 0 | .i16 => 1 | .i32 => 2 | .i64 => 3 | .u8 => 4 | .u16 => 5 | .u32 => 6 | .u64 => 7
theorem kb_eq {a b : IntKind} (h : Nat.beq (kb a) (kb b) = true) : a = b := by
  cases a <;> cases b <;> first | rfl | (exact absurd h (by decide))
def wrapK (kk : IntKind) (z : Int) (k : Option Prop → SV → Prop) : Prop :=
  match kk with
  | .i64 => k (some (-9223372036854775808 ≤ z ∧ z ≤ 9223372036854775807)) (.v (.int .i64 z))
  | kk => k none (.v (.int kk (kk.wrap z)))
theorem wrapK_sound {kk : IntKind} {z : Int} (h : wrapK kk z k) : ∃ φ v, k φ v ∧ (∀ nx, v.lt nx = true) ∧ ∀ ρ : Rho, optP φ → den ρ v = .int kk (kk.wrap z) := by
  unfold wrapK at h
  split at h
  · exact ⟨_, _, h, fun _ => rfl, fun ρ hφ => by simp [den, IntWalk.i64_in z hφ]⟩
  · exact ⟨_, _, h, fun _ => rfl, fun ρ _ => by simp [den]⟩
def quoK (kk : IntKind) (x y : Int) (k : Option Prop → SV → Prop) : Prop :=
  match kk with
  | .i64 => k (some (y ≠ 0 ∧ -9223372036854775808 ≤ x.tdiv y ∧ x.tdiv y ≤ 9223372036854775807)) (.v (.int .i64 (x.tdiv y)))
  | kk => k (some (y ≠ 0)) (.v (.int kk (kk.wrap (x.tdiv y))))
def binI (op : BinOp) (kk : IntKind) (x y : Int) (k : Option Prop → SV → Prop) : Prop :=
  match op with
  | .add => wrapK kk (x + y) k
  | .sub => wrapK kk (x - y) k
  | .mul => wrapK kk (x * y) k
  | .quo => quoK kk x y k
  | .rem => k (some (y ≠ 0)) (.v (.int kk (x.tmod y)))
  | .eql => k none (.v (.bool (decide (x = y))))
  | .neq => k none (.v (.bool (!decide (x = y))))
  | .lss => k none (.v (.bool (decide (x < y))))
  | .leq => k none (.v (.bool (decide (x ≤ y))))
  | .gtr => k none (.v (.bool (decide (y < x))))
  | .geq => k none (.v (.bool (decide (y ≤ x))))
  | .and => k none (.v (.int kk (kk.wrap (BitVec.ofInt kk.bits x &&& BitVec.ofInt kk.bits y).toNat)))
  | .or => k none (.v (.int kk (kk.wrap (BitVec.ofInt kk.bits x ||| BitVec.ofInt kk.bits y).toNat)))
  | .xor => k none (.v (.int kk (kk.wrap (BitVec.ofInt kk.bits x ^^^ BitVec.ofInt kk.bits y).toNat)))
  | _ => False
theorem beq_dec (x y : Int) : (x == y) = decide (x = y) := by
  by_cases h : x = y <;> simp [h]
theorem binI_sound {op : BinOp} {kk : IntKind} {x y : Int} (h : binI op kk x y k) : ∃ φ v, k φ v ∧ (∀ nx, v.lt nx = true) ∧
    ∀ (ρ : Rho) t (W : World), optP φ → (binOp op t (.int kk x) (.int kk y)).run P W = .ok (den ρ v) W := by
  unfold binI at h
  split at h
  · obtain ⟨φ, v, h1, h2, h3⟩ := wrapK_sound h
    exact ⟨φ, v, h1, h2, fun ρ t W hφ => by simp [binOp, Op.intArith, h3 ρ hφ]⟩
  · obtain ⟨φ, v, h1, h2, h3⟩ := wrapK_sound h
    exact ⟨φ, v, h1, h2, fun ρ t W hφ => by simp [binOp, Op.intArith, h3 ρ hφ]⟩
  · obtain ⟨φ, v, h1, h2, h3⟩ := wrapK_sound h
    exact ⟨φ, v, h1, h2, fun ρ t W hφ => by simp [binOp, Op.intArith, h3 ρ hφ]⟩
  · unfold quoK at h
    split at h
    · refine ⟨_, _, h, fun _ => rfl, fun ρ t W hφ => ?_⟩
      simp only [optP] at hφ
      simp [binOp, Op.intDiv, hφ.1, den, IntWalk.i64_in _ hφ.2]
    · refine ⟨_, _, h, fun _ => rfl, fun ρ t W hφ => ?_⟩
      simp only [optP] at hφ
      simp [binOp, Op.intDiv, hφ, den]
  · refine ⟨_, _, h, fun _ => rfl, fun ρ t W hφ => ?_⟩
    simp only [optP] at hφ
    simp [binOp, Op.intDiv, hφ, den]
  · exact ⟨_, _, h, fun _ => rfl, fun ρ t W hφ => by simp [binOp, Op.intCmp, den, beq_dec]⟩
  · exact ⟨_, _, h, fun _ => rfl, fun ρ t W hφ => by simp [binOp, Op.intCmp, den, bne, beq_dec]⟩
  · exact ⟨_, _, h, fun _ => rfl, fun ρ t W hφ => by simp [binOp, Op.intCmp, den]⟩
  · exact ⟨_, _, h, fun _ => rfl, fun ρ t W hφ => by simp [binOp, Op.intCmp, den]⟩
  · exact ⟨_, _, h, fun _ => rfl, fun ρ t W hφ => by simp [binOp, Op.intCmp, den]⟩
  · exact ⟨_, _, h, fun _ => rfl, fun ρ t W hφ => by simp [binOp, Op.intCmp, den]⟩
  · exact ⟨_, _, h, fun _ => rfl, fun ρ t W hφ => by simp [binOp, Op.intBits, den]⟩
  · exact ⟨_, _, h, fun _ => rfl, fun ρ t W hφ => by simp [binOp, Op.intBits, den]⟩
  · exact ⟨_, _, h, fun _ => rfl, fun ρ t W hφ => by simp [binOp, Op.intBits, den]⟩
  · exact h.elim
/-- Shifts: the count's kind may differ. -/
def shiftI (op : BinOp) (kk : IntKind) (x y : Int) (k : Option Prop → SV → Prop) : Prop :=
  match op with
  | .shl => k (some (0 ≤ y)) (.v (.int kk (kk.wrap (x * 2 ^ (min y.toNat kk.bits)))))
  | .shr => k (some (0 ≤ y)) (.v (.int kk (x.fdiv (2 ^ (min y.toNat kk.bits)))))
  | _ => False
theorem shiftI_sound {op : BinOp} {kk k2 : IntKind} {x y : Int} (h : shiftI op kk x y k) : ∃ φ v, k φ v ∧ (∀ nx, v.lt nx = true) ∧
    ∀ (ρ : Rho) t (W : World), optP φ → (binOp op t (.int kk x) (.int k2 y)).run P W = .ok (den ρ v) W := by
  unfold shiftI at h
  split at h
  · refine ⟨_, _, h, fun _ => rfl, fun ρ t W hφ => ?_⟩
    simp only [optP] at hφ
    have : ¬ y < 0 := by omega
    simp [binOp, Op.shift, this, den]
  · refine ⟨_, _, h, fun _ => rfl, fun ρ t W hφ => ?_⟩
    simp only [optP] at hφ
    have : ¬ y < 0 := by omega
    simp [binOp, Op.shift, this, den]
  · exact h.elim
def isSh : BinOp → Bool
  | .shl => true
  | .shr => true
  | _ => false
def binS (op : BinOp) (x y : ByteArray) (k : Option Prop → SV → Prop) : Prop :=
  match op with
  | .add => k (some (x.size + y.size ≤ 9223372036854775807)) (.v (.string (x ++ y)))
  | .eql => k none (.v (.bool (x.toList == y.toList)))
  | .neq => k none (.v (.bool (!(x.toList == y.toList))))
  | .lss => k none (.v (.bool (Op.bytesLess x.toList y.toList)))
  | .leq => k none (.v (.bool (Op.bytesLess x.toList y.toList || x.toList == y.toList)))
  | .gtr => k none (.v (.bool (!(Op.bytesLess x.toList y.toList || x.toList == y.toList))))
  | .geq => k none (.v (.bool (!(Op.bytesLess x.toList y.toList))))
  | _ => False
theorem binS_sound {op : BinOp} {x y : ByteArray} (h : binS op x y k) : ∃ φ v, k φ v ∧ (∀ nx, v.lt nx = true) ∧
    ∀ (ρ : Rho) t (W : World), optP φ → (binOp op t (.string x) (.string y)).run P W = .ok (den ρ v) W := by
  unfold binS at h
  split at h
  · refine ⟨_, _, h, fun _ => rfl, fun ρ t W hφ => ?_⟩
    simp only [optP] at hφ
    have : ¬ (IntKind.max .i64 < (x.size : Int) + y.size) := by
      have : IntKind.max .i64 = 9223372036854775807 := by decide
      rw [this]; omega
    simp [binOp, Op.stringOp, this, den]
    omega
  · exact ⟨_, _, h, fun _ => rfl, fun ρ t W hφ => by simp [binOp, Op.stringOp, den]⟩
  · exact ⟨_, _, h, fun _ => rfl, fun ρ t W hφ => by simp [binOp, Op.stringOp, den]⟩
  · exact ⟨_, _, h, fun _ => rfl, fun ρ t W hφ => by simp [binOp, Op.stringOp, den]⟩
  · exact ⟨_, _, h, fun _ => rfl, fun ρ t W hφ => by simp [binOp, Op.stringOp, den]⟩
  · exact ⟨_, _, h, fun _ => rfl, fun ρ t W hφ => by simp [binOp, Op.stringOp, den]⟩
  · exact ⟨_, _, h, fun _ => rfl, fun ρ t W hφ => by simp [binOp, Op.stringOp, den]⟩
  · exact h.elim
end
end Go.Proofs.Ytofekfpbljihiaa
