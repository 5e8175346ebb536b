/- The symbolic machine: indices, lengths, slices, conversions, literals. No program in sight. -/
import Derived.Test.YtofekfpbljihiaaSy5
namespace Go.Proofs.Ytofekfpbljihiaa
open Go.RowKit
set_option linter.unusedVariables false
set_option linter.unusedSimpArgs false

section
variable {P : Program} {w : World} {T : Tab} {env : Env} {L : List Ob} {nx : Nat} {cur : Pth} {k : Option Prop → SV → Prop}

/-! indexAddr -/
def elemN (c : Ct) (size : Nat) (i : Nat) : Prop :=
  match c with
  | .cs l => (i + 1) * size ≤ l.length
  | .rows _ _ xs => i < xs.length
def rowsB (c : Ct) (size : Nat) : Bool :=
  match c with
  | .cs _ => Nat.blt 0 size
  | .rows _ R _ => Nat.beq R.cols.length size && Nat.blt 0 size
def idxK (T : Tab) (L : List Ob) (d : TypeDesc) (v : SV) (z : Int) (k : Option Prop → SV → Prop) : Prop :=
  match d, v with
  | .slice el, .s n size len _ => tyK T el (fun te => bif Nat.beq te.size size then obK L n (fun o => bif rowsB o.c size then k (some (0 ≤ z ∧ z < len ∧ elemN o.c size z.toNat)) (.e n size z.toNat 0) else False) else False)
  | .slice el, .so n size eo len _ => tyK T el (fun te => bif Nat.beq te.size size then obK L n (fun o => bif rowsB o.c size then k (some (0 ≤ z ∧ z < len ∧ elemN o.c size (eo + z.toNat))) (.e n size (eo + z.toNat) 0) else False) else False)
  | .array len el, .p n off => tyK T el (fun te => k (some (0 ≤ z ∧ z < len)) (.p n (off + z.toNat * te.size)))
  | _, _ => False
def indexAddrK (T : Tab) (env : Env) (L : List Ob) (cur : Pth) (t : TypeId) (x i : Operand) (k : Option Prop → SV → Prop) : Prop :=
  tyK T t (fun ti => evK env cur x (fun v => evK env cur i (fun vi => asI vi (fun kk z => idxK T L ti.d v z k))))
theorem ObOk.some_of {B : Nat} {ρ : Rho} {o : Ob} {W : World} (h : ObOk B ρ o W) {size i : Nat} (hb : rowsB o.c size = true) (hl : elemN o.c size i) : ∃ b off, ρ o.n = some ⟨b, off, none⟩ := by
  have hne : 0 < (o.c.cells ρ).length := by
    cases hc : o.c with
    | cs l =>
      rw [hc] at hl hb
      simp only [elemN, rowsB, blt_iff] at hl hb
      simp only [Ct.cells, denL_map, List.length_map]
      have := Nat.mul_le_mul_right size (show 1 ≤ i + 1 by omega)
      omega
    | rows α R xs =>
      rw [hc] at hl hb
      simp only [elemN, rowsB, Bool.and_eq_true, blt_iff] at hl hb
      have hs := Nat.eq_of_beq_eq_true hb.1
      have := flat_cut R.cols R.d xs i 0 R.cols.length hl (by omega)
      simp only [Ct.cells]
      omega
  cases hc : o.c.cells ρ with
  | nil => rw [hc] at hne; simp at hne
  | cons x r =>
    obtain ⟨b, off, h1, _⟩ := h.cell (j := 0) (u := x) (by rw [hc]; rfl)
    exact ⟨b, off, h1⟩
theorem indexAddrK_sound {t : TypeId} {x i : Operand} (hT : TabOk P T) (h : indexAddrK T env L cur t x i k) : ∃ φ v, QOk P w env L nx cur (.indexAddr t x i) φ v ∧ k φ v := by
  obtain ⟨ti, hti, h1⟩ := tyK_sound hT h
  obtain ⟨v, h2, hx⟩ := evK_sound h1
  obtain ⟨vi, h3, hi⟩ := evK_sound h2
  obtain ⟨kk, z, rfl, h4⟩ := asI_sound h3
  clear h h1 h2 h3
  unfold idxK at h4
  split at h4
  · rename_i el n size len cp hd
    obtain ⟨te, hte, h5⟩ := tyK_sound hT h4
    cases hb : Nat.beq te.size size with
    | false => rw [hb] at h5; exact h5.elim
    | true =>
      rw [hb] at h5
      obtain rfl := Nat.eq_of_beq_eq_true hb
      obtain ⟨o, ho, rfl, h6⟩ := obK_sound h5
      cases hr : rowsB o.c te.size with
      | false => rw [hr] at h6; exact h6.elim
      | true =>
        rw [hr] at h6
        refine ⟨_, _, fun ρ G a W hf hc hp hφ => ⟨by simpa [SV.lt, blt_iff] using (hp.lt o ho).1, fun op hop => ?_⟩, h6⟩
        obtain ⟨p1, p2, p3⟩ := hφ
        obtain ⟨b, off, hs⟩ := (hp.obj o ho).some_of hr p3
        have e1 := (hx ρ G nx a hf hc).1
        have e2 := (hi ρ G nx a hf hc).1
        have u := hti.under W
        rw [hd] at u
        simp [execOp, hop, e1, e2, den, Instr.indexAt, asIntOf, u, hs, p1, p2, hte.sizeOf W, add_none]
  · rename_i el n size eo len cp hd
    obtain ⟨te, hte, h5⟩ := tyK_sound hT h4
    cases hb : Nat.beq te.size size with
    | false => rw [hb] at h5; exact h5.elim
    | true =>
      rw [hb] at h5
      obtain rfl := Nat.eq_of_beq_eq_true hb
      obtain ⟨o, ho, rfl, h6⟩ := obK_sound h5
      cases hr : rowsB o.c te.size with
      | false => rw [hr] at h6; exact h6.elim
      | true =>
        rw [hr] at h6
        refine ⟨_, _, fun ρ G a W hf hc hp hφ => ⟨by simpa [SV.lt, blt_iff] using (hp.lt o ho).1, fun op hop => ?_⟩, h6⟩
        obtain ⟨p1, p2, p3⟩ := hφ
        obtain ⟨b, off, hs⟩ := (hp.obj o ho).some_of hr p3
        have e1 := (hx ρ G nx a hf hc).1
        have e2 := (hi ρ G nx a hf hc).1
        have u := hti.under W
        rw [hd] at u
        simp [execOp, hop, e1, e2, den, Instr.indexAt, asIntOf, u, hs, p1, p2, hte.sizeOf W, add_none, Nat.add_mul, Nat.add_assoc]
  · rename_i len el n off hd
    obtain ⟨te, hte, h5⟩ := tyK_sound hT h4
    refine ⟨_, _, fun ρ G a W hf hc hp hφ => ⟨by simpa [SV.lt] using (hx ρ G nx a hf hc).2, fun op hop => ?_⟩, h5⟩
    obtain ⟨p1, p2⟩ := hφ
    have e1 := (hx ρ G nx a hf hc).1
    have e2 := (hi ρ G nx a hf hc).1
    have u := hti.under W
    rw [hd] at u
    simp [execOp, hop, e1, e2, den, Instr.indexAt, asIntOf, u, Instr.sureAddr, p1, p2, hte.sizeOf W, add_add]
  · exact h4.elim

/-! builtins -/
def lenV (d : TypeDesc) (v : SV) (k : Option Prop → SV → Prop) : Prop :=
  match d, v with
  | .slice _, .s _ _ len _ => k none (.v (.int .i64 (len : Int)))
  | .slice _, .so _ _ _ len _ => k none (.v (.int .i64 (len : Int)))
  | .slice _, .v (.slice _ len _) => k none (.v (.int .i64 (len : Int)))
  | .string, .v (.string s) => k none (.v (.int .i64 (s.size : Int)))
  | _, _ => False
def mm (b : Bool) (acc : Int) : List SV → (Int → Prop) → Prop
  | [], k => k acc
  | .v (.int .i64 y) :: r, k => bif b then mm b (max acc y) r k else mm b (min acc y) r k
  | _ :: _, _ => False
def evsK (env : Env) (cur : Pth) : List Operand → (List SV → Prop) → Prop
  | [], k => k []
  | x :: r, k => evK env cur x (fun v => evsK env cur r (fun l => k (v :: l)))
theorem evsK_sound {l : List Operand} : ∀ {k : List SV → Prop}, evsK env cur l k → ∃ vs, k vs ∧ ∀ ρ G nx a, Fk ρ G env nx a → holdsB G cur = true → l.map a.eval = denL ρ vs ∧ ltL nx vs = true := by
  induction l with
  | nil => intro k h; exact ⟨[], h, fun _ _ _ _ _ _ => ⟨by simp [denL], by simp [ltL]⟩⟩
  | cons x r ih =>
    intro k h
    obtain ⟨v, h1, hv⟩ := evK_sound h
    obtain ⟨vs, h2, hvs⟩ := ih h1
    refine ⟨_, h2, fun ρ G nx a hf hc => ?_⟩
    have e1 := hv ρ G nx a hf hc
    have e2 := hvs ρ G nx a hf hc
    exact ⟨by simp [denL, e1.1, e2.1], by simp [ltL, e1.2, e2.2]⟩
def biK (T : Tab) (env : Env) (cur : Pth) (b : Builtin) (args : List Operand) (ts : List TypeId) (k : Option Prop → SV → Prop) : Prop :=
  match b, args, ts with
  | .len, [x], [t] => tyK T t (fun ti => evK env cur x (fun v => lenV ti.d v k))
  | .max, args, _ => evsK env cur args (fun vs => match vs with
    | .v (.int .i64 x) :: r => mm true x r (fun z => k none (.v (.int .i64 z)))
    | _ => False)
  | .min, args, _ => evsK env cur args (fun vs => match vs with
    | .v (.int .i64 x) :: r => mm false x r (fun z => k none (.v (.int .i64 z)))
    | _ => False)
  | _, _, _ => False
theorem mm_max {P : Program} : ∀ {l : List SV} {acc : Int} {k : Int → Prop}, mm true acc l k → ∃ z, k z ∧ ∀ (ρ : Rho) (W : World), ((denL ρ l).foldlM Builtin.max2 (.int .i64 acc)).run P W = .ok (.int .i64 z) W
  | [], acc, k, h => ⟨acc, h, fun ρ W => by simp [denL]⟩
  | x :: r, acc, k, h => by
    unfold mm at h
    split at h
    · exact ⟨_, h, fun ρ W => by simp_all⟩
    · rename_i y r' heq
      simp only [List.cons.injEq] at heq
      obtain ⟨rfl, rfl⟩ := heq
      obtain ⟨z, h1, h2⟩ := mm_max h
      refine ⟨z, h1, fun ρ W => ?_⟩
      have := h2 ρ W
      have e : (if acc < y then y else acc) = max acc y := by rw [Int.max_def]; split <;> split <;> omega
      simp [denL, den, Builtin.max2, e]
      exact this
    · exact h.elim
theorem mm_min {P : Program} : ∀ {l : List SV} {acc : Int} {k : Int → Prop}, mm false acc l k → ∃ z, k z ∧ ∀ (ρ : Rho) (W : World), ((denL ρ l).foldlM Builtin.min2 (.int .i64 acc)).run P W = .ok (.int .i64 z) W
  | [], acc, k, h => ⟨acc, h, fun ρ W => by simp [denL]⟩
  | x :: r, acc, k, h => by
    unfold mm at h
    split at h
    · exact ⟨_, h, fun ρ W => by simp_all⟩
    · rename_i y r' heq
      simp only [List.cons.injEq] at heq
      obtain ⟨rfl, rfl⟩ := heq
      obtain ⟨z, h1, h2⟩ := mm_min h
      refine ⟨z, h1, fun ρ W => ?_⟩
      have := h2 ρ W
      have e : (if y < acc then y else acc) = min acc y := by rw [Int.min_def]; split <;> split <;> omega
      simp [denL, den, Builtin.min2, e]
      exact this
    · exact h.elim
theorem biK_sound {b : Builtin} {args : Array Operand} {ts : Array TypeId} (hT : TabOk P T) (h : biK T env cur b args.toList ts.toList k) :
    ∃ φ v, QOk P w env L nx cur (.call { callee := .builtin b, args := args, argTypes := ts }) φ v ∧ k φ v := by
  obtain ⟨args, rfl⟩ : ∃ l : List Operand, args = l.toArray := ⟨args.toList, by simp⟩
  obtain ⟨ts, rfl⟩ : ∃ l : List TypeId, ts = l.toArray := ⟨ts.toList, by simp⟩
  simp only at h
  unfold biK at h
  split at h
  · rename_i x t _
    obtain ⟨ti, hti, h1⟩ := tyK_sound hT h
    obtain ⟨v, h2, hx⟩ := evK_sound h1
    clear h h1
    unfold lenV at h2
    split at h2
    all_goals try exact h2.elim
    all_goals
      rename_i hd
      refine ⟨_, _, fun ρ G a W hf hc _ hφ => ⟨rfl, fun o ho => ?_⟩, h2⟩
      have e1 := (hx ρ G nx a hf hc).1
      have u := hti.under W
      rw [hd] at u
      simp [execOp, ho, resolve, invoke, builtin, Builtin.len_, e1, u, den, goInt]
  · rename_i args' _
    obtain ⟨vs, h1, hv⟩ := evsK_sound h
    clear h
    split at h1
    · rename_i x r
      obtain ⟨z, h2, h3⟩ := mm_max (P := P) h1
      refine ⟨_, _, fun ρ G a W hf hc _ hφ => ⟨rfl, fun o ho => ?_⟩, h2⟩
      have e1 := (hv ρ G nx a hf hc).1
      have e2 := h3 ρ W
      simp only [denL, den] at e1
      simp [execOp, ho, resolve, invoke, builtin, Builtin.max_, e1]
      rw [e2]
      simp [den]
    · exact h1.elim
  · rename_i args' _
    obtain ⟨vs, h1, hv⟩ := evsK_sound h
    clear h
    split at h1
    · rename_i x r
      obtain ⟨z, h2, h3⟩ := mm_min (P := P) h1
      refine ⟨_, _, fun ρ G a W hf hc _ hφ => ⟨rfl, fun o ho => ?_⟩, h2⟩
      have e1 := (hv ρ G nx a hf hc).1
      have e2 := h3 ρ W
      simp only [denL, den] at e1
      simp [execOp, ho, resolve, invoke, builtin, Builtin.min_, e1]
      rw [e2]
      simp [den]
    · exact h1.elim
  · exact h.elim

/-! slice -/
def sOff (eo m l : Nat) : Nat := if m = l then eo else eo + l
def optK (env : Env) (cur : Pth) : Option Operand → (Option Int → Prop) → Prop
  | none, k => k none
  | some x, k => evK env cur x (fun v => asI v (fun _ z => k (some z)))
theorem optK_sound {x : Option Operand} {k : Option Int → Prop} (h : optK env cur x k) : ∃ z, k z ∧ ∀ ρ G nx a, Fk ρ G env nx a → holdsB G cur = true → ∃ kk, x.map a.eval = z.map (fun z => .int kk z) := by
  cases x with
  | none => exact ⟨none, h, fun _ _ _ _ _ _ => ⟨.i64, rfl⟩⟩
  | some x =>
    obtain ⟨v, h1, hv⟩ := evK_sound h
    obtain ⟨kk, z, rfl, h2⟩ := asI_sound h1
    exact ⟨some z, h2, fun ρ G nx a hf hc => ⟨kk, by simp [(hv ρ G nx a hf hc).1, den]⟩⟩
/-- Where a slice lies: its object, the size of an element, its first element, length and capacity. -/
def asS (v : SV) (k : Nat → Nat → Option Nat → Nat → Nat → Prop) : Prop :=
  match v with
  | .s n size len cap => k n size none len cap
  | .so n size eo len cap => k n size (some eo) len cap
  | _ => False
def slV (n size : Nat) (eo : Option Nat) (len cap : Nat) : SV :=
  match eo with
  | none => .s n size len cap
  | some e => .so n size e len cap
theorem asS_sound {v : SV} {k : Nat → Nat → Option Nat → Nat → Nat → Prop} (h : asS v k) : ∃ n size eo len cap, v = slV n size eo len cap ∧ k n size eo len cap := by
  unfold asS at h
  split at h
  · exact ⟨_, _, _, _, _, rfl, h⟩
  · exact ⟨_, _, _, _, _, rfl, h⟩
  · exact h.elim
theorem den_slV (ρ : Rho) (n size : Nat) (eo : Option Nat) (len cap : Nat) : den ρ (slV n size eo len cap) = .slice ((ρ n).map (·.add (eo.getD 0 * size))) len cap := by
  cases eo with
  | none => cases h : ρ n <;> simp [slV, den, Addr.add, h]
  | some e => simp [slV, den]
def sliceV (n size : Nat) (eo : Option Nat) (len cap : Nat) (lo hi : Option Int) (mx : Option Int) (k : Option Prop → SV → Prop) : Prop :=
  match lo, hi, mx with
  | none, some h, none => k (some (0 ≤ h ∧ h ≤ cap)) (slV n size eo h.toNat cap)
  | some l, none, none => k (some (0 ≤ l ∧ l ≤ len ∧ len ≤ cap)) (.so n size (sOff (eo.getD 0) cap l.toNat) (len - l.toNat) (cap - l.toNat))
  | some l, some h, none => k (some (0 ≤ l ∧ l ≤ h ∧ h ≤ cap)) (.so n size (sOff (eo.getD 0) cap l.toNat) (h.toNat - l.toNat) (cap - l.toNat))
  | none, some h, some m => k (some (0 ≤ h ∧ h ≤ m ∧ m ≤ cap)) (slV n size eo h.toNat m.toNat)
  | _, _, _ => False
def slK (d : TypeDesc) (T : Tab) (v : SV) (lo hi mx : Option Int) (k : Option Prop → SV → Prop) : Prop :=
  match d, v with
  | .slice el, v => tyK T el (fun te => asS v (fun n size eo len cap => bif Nat.beq te.size size then sliceV n size eo len cap lo hi mx k else False))
  | .string, .v (.string s) => (match lo, hi, mx with
    | none, some h, none => k (some (0 ≤ h ∧ h ≤ s.size)) (.v (.string (s.extract 0 h.toNat)))
    | some l, none, none => k (some (0 ≤ l ∧ l ≤ s.size)) (.v (.string (s.extract l.toNat s.size)))
    | some l, some h, none => k (some (0 ≤ l ∧ l ≤ h ∧ h ≤ s.size)) (.v (.string (s.extract l.toNat h.toNat)))
    | _, _, _ => False)
  | _, _ => False
def sliceK (T : Tab) (env : Env) (cur : Pth) (t : TypeId) (x : Operand) (lo hi mx : Option Operand) (k : Option Prop → SV → Prop) : Prop :=
  tyK T t (fun ti => evK env cur x (fun v => optK env cur lo (fun lo => optK env cur hi (fun hi => optK env cur mx (fun mx => slK ti.d T v lo hi mx k)))))
theorem sliceK_sound {t : TypeId} {x : Operand} {lo hi mx : Option Operand} (hT : TabOk P T) (h : sliceK T env cur t x lo hi mx k) : ∃ φ v, QOk P w env L nx cur (.slice t x lo hi mx) φ v ∧ k φ v := by
  obtain ⟨ti, hti, h1⟩ := tyK_sound hT h
  obtain ⟨v, h2, hx⟩ := evK_sound h1
  obtain ⟨zl, h3, hl⟩ := optK_sound h2
  obtain ⟨zh, h4, hh⟩ := optK_sound h3
  obtain ⟨zm, h5, hm⟩ := optK_sound h4
  clear h h1 h2 h3 h4
  unfold slK at h5
  split at h5
  · rename_i el hd
    obtain ⟨te, hte, h6⟩ := tyK_sound hT h5
    obtain ⟨n, size, eo, len, cap, rfl, h7⟩ := asS_sound h6
    clear h5 h6
    cases hb : Nat.beq te.size size with
    | false => rw [hb] at h7; exact h7.elim
    | true =>
      rw [hb] at h7
      obtain rfl := Nat.eq_of_beq_eq_true hb
      have nlt : ∀ nx eo' len' cap', (slV n te.size eo len cap).lt nx = true → (slV n te.size eo' len' cap').lt nx = true := by
        intro nx eo' len' cap' hh
        cases eo <;> cases eo' <;> simpa [slV, SV.lt] using hh
      simp only [cond_true] at h7
      unfold sliceV at h7
      split at h7
      · rename_i h
        refine ⟨_, _, fun ρ G a W hf hc _ hφ => ⟨by first | exact nlt nx _ _ _ (hx ρ G nx a hf hc).2 | (have := nlt nx (some 0) 0 0 (hx ρ G nx a hf hc).2; simpa [slV, SV.lt] using this), fun o ho => ?_⟩, h7⟩
        have e1 := (hx ρ G nx a hf hc).1
        rw [den_slV] at e1
        obtain ⟨kl, el⟩ := hl ρ G nx a hf hc
        obtain ⟨kh, eh⟩ := hh ρ G nx a hf hc
        obtain ⟨km, em⟩ := hm ρ G nx a hf hc
        have u := hti.under W
        rw [hd] at u
        simp only [optP] at hφ
        obtain ⟨h, rfl⟩ := Int.eq_ofNat_of_zero_le (show 0 ≤ h by omega)
        have q0 : h ≤ cap := by omega
        clear hφ
        simp only [execOp, ho, e1, el, eh, em, Instr.sliceAt]
        simp [u, Instr.slice, Instr.sliceBounds, Instr.sliceBound, asIntOf, q0, hte.sizeOf W, den_slV]
        try (intro _; cases ρ n <;> simp [add_add])
      · rename_i l
        refine ⟨_, _, fun ρ G a W hf hc _ hφ => ⟨by first | exact nlt nx _ _ _ (hx ρ G nx a hf hc).2 | (have := nlt nx (some 0) 0 0 (hx ρ G nx a hf hc).2; simpa [slV, SV.lt] using this), fun o ho => ?_⟩, h7⟩
        have e1 := (hx ρ G nx a hf hc).1
        rw [den_slV] at e1
        obtain ⟨kl, el⟩ := hl ρ G nx a hf hc
        obtain ⟨kh, eh⟩ := hh ρ G nx a hf hc
        obtain ⟨km, em⟩ := hm ρ G nx a hf hc
        have u := hti.under W
        rw [hd] at u
        simp only [optP] at hφ
        obtain ⟨l, rfl⟩ := Int.eq_ofNat_of_zero_le (show 0 ≤ l by omega)
        have q0 : l ≤ len := by omega
        have q1 : len ≤ cap := by omega
        clear hφ
        simp only [execOp, ho, e1, el, eh, em, Instr.sliceAt]
        simp [u, Instr.slice, Instr.sliceBounds, Instr.sliceBound, asIntOf, q0, q1, hte.sizeOf W, den_slV]
        simp only [den, sOff]
        by_cases hcl : cap = l <;> cases ρ n <;> simp [hcl, add_add, Nat.add_mul]
      · rename_i l h
        refine ⟨_, _, fun ρ G a W hf hc _ hφ => ⟨by first | exact nlt nx _ _ _ (hx ρ G nx a hf hc).2 | (have := nlt nx (some 0) 0 0 (hx ρ G nx a hf hc).2; simpa [slV, SV.lt] using this), fun o ho => ?_⟩, h7⟩
        have e1 := (hx ρ G nx a hf hc).1
        rw [den_slV] at e1
        obtain ⟨kl, el⟩ := hl ρ G nx a hf hc
        obtain ⟨kh, eh⟩ := hh ρ G nx a hf hc
        obtain ⟨km, em⟩ := hm ρ G nx a hf hc
        have u := hti.under W
        rw [hd] at u
        simp only [optP] at hφ
        obtain ⟨l, rfl⟩ := Int.eq_ofNat_of_zero_le (show 0 ≤ l by omega)
        obtain ⟨h, rfl⟩ := Int.eq_ofNat_of_zero_le (show 0 ≤ h by omega)
        have q0 : l ≤ h := by omega
        have q1 : h ≤ cap := by omega
        clear hφ
        simp only [execOp, ho, e1, el, eh, em, Instr.sliceAt]
        simp [u, Instr.slice, Instr.sliceBounds, Instr.sliceBound, asIntOf, q0, q1, hte.sizeOf W, den_slV]
        simp only [den, sOff]
        by_cases hcl : cap = l <;> cases ρ n <;> simp [hcl, add_add, Nat.add_mul]
      · rename_i h m
        refine ⟨_, _, fun ρ G a W hf hc _ hφ => ⟨by first | exact nlt nx _ _ _ (hx ρ G nx a hf hc).2 | (have := nlt nx (some 0) 0 0 (hx ρ G nx a hf hc).2; simpa [slV, SV.lt] using this), fun o ho => ?_⟩, h7⟩
        have e1 := (hx ρ G nx a hf hc).1
        rw [den_slV] at e1
        obtain ⟨kl, el⟩ := hl ρ G nx a hf hc
        obtain ⟨kh, eh⟩ := hh ρ G nx a hf hc
        obtain ⟨km, em⟩ := hm ρ G nx a hf hc
        have u := hti.under W
        rw [hd] at u
        simp only [optP] at hφ
        obtain ⟨h, rfl⟩ := Int.eq_ofNat_of_zero_le (show 0 ≤ h by omega)
        obtain ⟨m, rfl⟩ := Int.eq_ofNat_of_zero_le (show 0 ≤ m by omega)
        have q0 : h ≤ m := by omega
        have q1 : m ≤ cap := by omega
        clear hφ
        simp only [execOp, ho, e1, el, eh, em, Instr.sliceAt]
        simp [u, Instr.slice, Instr.sliceBounds, Instr.sliceBound, asIntOf, q0, q1, hte.sizeOf W, den_slV]
        try (intro _; cases ρ n <;> simp [add_add])
      · exact h7.elim
  · rename_i s hd
    split at h5
    · rename_i h
      refine ⟨_, _, fun ρ G a W hf hc _ hφ => ⟨rfl, fun o ho => ?_⟩, h5⟩
      have e1 := (hx ρ G nx a hf hc).1
      obtain ⟨kl, el⟩ := hl ρ G nx a hf hc
      obtain ⟨kh, eh⟩ := hh ρ G nx a hf hc
      obtain ⟨km, em⟩ := hm ρ G nx a hf hc
      have u := hti.under W
      rw [hd] at u
      simp only [optP] at hφ
      obtain ⟨h, rfl⟩ := Int.eq_ofNat_of_zero_le (show 0 ≤ h by omega)
      have q0 : h ≤ s.size := by omega
      clear hφ
      simp only [execOp, ho, e1, el, eh, em, Instr.sliceAt]
      simp [u, Instr.slice, Instr.sliceBounds, Instr.sliceBound, asIntOf, q0, den]
    · rename_i l
      refine ⟨_, _, fun ρ G a W hf hc _ hφ => ⟨rfl, fun o ho => ?_⟩, h5⟩
      have e1 := (hx ρ G nx a hf hc).1
      obtain ⟨kl, el⟩ := hl ρ G nx a hf hc
      obtain ⟨kh, eh⟩ := hh ρ G nx a hf hc
      obtain ⟨km, em⟩ := hm ρ G nx a hf hc
      have u := hti.under W
      rw [hd] at u
      simp only [optP] at hφ
      obtain ⟨l, rfl⟩ := Int.eq_ofNat_of_zero_le (show 0 ≤ l by omega)
      have q0 : l ≤ s.size := by omega
      clear hφ
      simp only [execOp, ho, e1, el, eh, em, Instr.sliceAt]
      simp [u, Instr.slice, Instr.sliceBounds, Instr.sliceBound, asIntOf, q0, den]
    · rename_i l h
      refine ⟨_, _, fun ρ G a W hf hc _ hφ => ⟨rfl, fun o ho => ?_⟩, h5⟩
      have e1 := (hx ρ G nx a hf hc).1
      obtain ⟨kl, el⟩ := hl ρ G nx a hf hc
      obtain ⟨kh, eh⟩ := hh ρ G nx a hf hc
      obtain ⟨km, em⟩ := hm ρ G nx a hf hc
      have u := hti.under W
      rw [hd] at u
      simp only [optP] at hφ
      obtain ⟨l, rfl⟩ := Int.eq_ofNat_of_zero_le (show 0 ≤ l by omega)
      obtain ⟨h, rfl⟩ := Int.eq_ofNat_of_zero_le (show 0 ≤ h by omega)
      have q0 : l ≤ h := by omega
      have q1 : h ≤ s.size := by omega
      clear hφ
      simp only [execOp, ho, e1, el, eh, em, Instr.sliceAt]
      simp [u, Instr.slice, Instr.sliceBounds, Instr.sliceBound, asIntOf, q0, q1, den]
    · exact h5.elim
  · exact h5.elim
end
end Go.Proofs.Ytofekfpbljihiaa
