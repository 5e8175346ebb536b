
/- Operations on fractions and intervals: values as rational numbers, order, corners. No program in sight. -/
import Derived.Test.YthknflclfmnciaaQo
import Derived.Test.YthknflclfmnciaaQw
namespace Go.Proofs.Ythknflclfmnciaa
set_option linter.unusedVariables false
set_option linter.unusedSimpArgs false

def addF (a b : Fq) : Fq × Int := if vB a && vB b then redF (a.n * b.d + b.n * a.d) (a.d * b.d) else (fr0, 1)
def subF (a b : Fq) : Fq × Int := if vB a && vB b then addF a ⟨-b.n, b.d⟩ else (fr0, 1)
/-- What a fraction stands for. -/
def qv (a : Fq) : Rat := (a.n : Rat) / (a.d : Rat)
theorem cast_pos {d : Int} (h : 0 < d) : (0 : Rat) < (d : Rat) := by
  have := Rat.intCast_lt_intCast (a := 0) (b := d)
  exact this.2 h
theorem qv_mul {a : Fq} (h : 0 < a.d) : qv a * (a.d : Rat) = (a.n : Rat) := by
  have := cast_pos h
  unfold qv
  exact Rat.div_mul_cancel (by grind)
theorem qle {a b : Fq} (ha : 0 < a.d) (hb : 0 < b.d) : qv a ≤ qv b ↔ a.n * b.d ≤ b.n * a.d := by
  have h1 := qv_mul ha
  have h2 := qv_mul hb
  have p1 := cast_pos ha
  have p2 := cast_pos hb
  have p3 : (0 : Rat) < (a.d : Rat) * (b.d : Rat) := Rat.mul_pos p1 p2
  have e1 : qv a * ((a.d : Rat) * (b.d : Rat)) = ((a.n * b.d : Int) : Rat) := by rw [← Rat.mul_assoc, h1, Rat.intCast_mul]
  have e2 : qv b * ((a.d : Rat) * (b.d : Rat)) = ((b.n * a.d : Int) : Rat) := by rw [Rat.mul_comm (a.d : Rat), ← Rat.mul_assoc, h2, Rat.intCast_mul]
  constructor
  · intro h
    have h3 := Rat.mul_le_mul_of_nonneg_right h (Rat.le_of_lt p3)
    rw [e1, e2] at h3
    exact Rat.intCast_le_intCast.1 h3
  · intro h
    refine Rat.le_of_mul_le_mul_right ?_ p3
    rw [e1, e2]
    exact Rat.intCast_le_intCast.2 h
theorem vF.pos {a : Fq} (h : vF a) : 0 < a.d := by have := h.1.1; omega
theorem cmp_qv {a b : Fq} (ha : vF a) (hb : vF b) : cmpF a b ≤ 0 ↔ qv a ≤ qv b := by
  rw [cmpF_v ha hb, sgI_le, qle ha.pos hb.pos]
  unfold cx
  omega
theorem qv_inj {a b : Fq} (ha : vF a) (hb : vF b) (h : qv a = qv b) : a = b := by
  refine cmpF_anti_eq ha hb ((cmp_qv ha hb).2 ?_) ((cmp_qv hb ha).2 ?_)
  · rw [h]; exact Rat.le_refl
  · rw [h]; exact Rat.le_refl
theorem qv_sign {a : Fq} (h : 0 < a.d) : (0 ≤ qv a ↔ 0 ≤ a.n) ∧ (qv a ≤ 0 ↔ a.n ≤ 0) := by
  have e : qv ⟨0, 1⟩ = 0 := by unfold qv; grind
  have h1 := qle (a := ⟨0, 1⟩) (b := a) (by decide) h
  have h2 := qle (a := a) (b := ⟨0, 1⟩) h (by decide)
  rw [e] at h1 h2
  simp only [Int.zero_mul, Int.mul_one] at h1 h2
  exact ⟨h1, h2⟩
theorem redF_val {n d : Int} (hd : 0 < d) (h : (redF n d).2 = 0) : vF (redF n d).1 ∧ qv (redF n d).1 = (n : Rat) / (d : Rat) := by
  have hg : 0 < Nat.gcd n.natAbs d.natAbs := Nat.gcd_pos_of_pos_right _ (by omega)
  have q1 : ((Nat.gcd n.natAbs d.natAbs : Nat) : Int) ∣ n := Int.ofNat_dvd_left.2 (Nat.gcd_dvd_left _ _)
  have q2 : ((Nat.gcd n.natAbs d.natAbs : Nat) : Int) ∣ d := Int.ofNat_dvd_left.2 (Nat.gcd_dvd_right _ _)
  have cp := Nat.coprime_div_gcd_div_gcd hg
  obtain ⟨p, hp⟩ := q1
  obtain ⟨q, hq⟩ := q2
  have n1 : n.natAbs / Nat.gcd n.natAbs d.natAbs = p.natAbs := by
    have : n.natAbs = Nat.gcd n.natAbs d.natAbs * p.natAbs := by conv => { lhs; rw [hp, Int.natAbs_mul] }; rfl
    conv => { lhs; arg 1; rw [this] }
    exact Nat.mul_div_cancel_left _ hg
  have n2 : d.natAbs / Nat.gcd n.natAbs d.natAbs = q.natAbs := by
    have : d.natAbs = Nat.gcd n.natAbs d.natAbs * q.natAbs := by conv => { lhs; rw [hq, Int.natAbs_mul] }; rfl
    conv => { lhs; arg 1; rw [this] }
    exact Nat.mul_div_cancel_left _ hg
  rw [n1, n2] at cp
  have hq0 : 0 < q := by
    rcases Int.lt_or_le 0 q with h5 | h5
    · exact h5
    · have := Int.mul_nonpos_of_nonneg_of_nonpos (show (0 : Int) ≤ ((Nat.gcd n.natAbs d.natAbs : Nat) : Int) by omega) h5
      omega
  generalize Nat.gcd n.natAbs d.natAbs = g at *
  have hr := redF_of hg hq0 hp hq cp
  rw [hr] at h ⊢
  refine ⟨limF_v hq0 cp h, ?_⟩
  have hl : (limF p q).1 = ⟨p, q⟩ := by
    unfold limF at h ⊢
    split
    · rename_i h6; rw [if_pos h6] at h; cases h
    · rfl
  rw [hl, hp, hq]
  show (p : Rat) / (q : Rat) = _
  have c1 := cast_pos hq0
  have c2 : (0 : Rat) < ((g : Int) : Rat) := cast_pos (by omega)
  rw [Rat.intCast_mul, Rat.intCast_mul]
  generalize ((g : Int) : Rat) = G at *
  generalize (p : Rat) = P at *
  generalize (q : Rat) = Q at *
  have g1 : G ≠ 0 := by grind
  have g2 : Q ≠ 0 := by grind
  grind
theorem redF_ok {n d : Int} (hn : n.natAbs ≤ 4611686018427387904) (hd : d.natAbs ≤ 4611686018427387904) : (redF n d).2 = 0 := by
  unfold redF
  have h1 := Nat.div_le_self n.natAbs (Nat.gcd n.natAbs d.natAbs)
  have h2 := Nat.div_le_self d.natAbs (Nat.gcd n.natAbs d.natAbs)
  rw [if_neg (by omega)]
theorem redF_code (n d : Int) : (redF n d).2 = 0 ∨ redF n d = (fr0, 5) := by
  unfold redF
  split
  · exact .inr rfl
  · exact .inl rfl
def opF (op : Nat) (a b : Fq) : Fq × Int := match op with
  | 0 => addF a b
  | 1 => subF a b
  | 2 => mulF a b
  | _ => divF a b
def qop (op : Nat) (a b : Rat) : Rat := match op with
  | 0 => a + b
  | 1 => a - b
  | 2 => a * b
  | _ => a * b⁻¹
theorem and_v {a b : Fq} (ha : vF a) (hb : vF b) : (vB a && vB b) = true := by rw [(vB_iff a).2 ha, (vB_iff b).2 hb]; rfl
theorem addF_eq {a b : Fq} (ha : vF a) (hb : vF b) : addF a b = redF (a.n * b.d + b.n * a.d) (a.d * b.d) := by unfold addF; rw [and_v ha hb]; rfl
theorem vF.neg {a : Fq} (h : vF a) : vF ⟨-a.n, a.d⟩ := by
  obtain ⟨h1, h2, h3⟩ := h
  exact ⟨h1, by simp only; omega, by simp only [Int.natAbs_neg]; exact h3⟩
theorem subF_eq {a b : Fq} (ha : vF a) (hb : vF b) : subF a b = redF (a.n * b.d + -b.n * a.d) (a.d * b.d) := by unfold subF; rw [and_v ha hb]; exact addF_eq ha hb.neg
theorem mulF_eq {a b : Fq} (ha : vF a) (hb : vF b) : mulF a b = redF (a.n * b.n) (a.d * b.d) := by unfold mulF; rw [and_v ha hb]; rfl
/-- The fraction turned over. -/
def invF (b : Fq) : Fq := if b.n < 0 then ⟨-b.d, -b.n⟩ else ⟨b.d, b.n⟩
theorem invF_v {b : Fq} (hb : vF b) (h : b.n ≠ 0) : vF (invF b) := by
  unfold invF
  split
  · exact inv_v' hb (by assumption)
  · exact inv_v hb (by omega)
theorem divF_eq {a b : Fq} (ha : vF a) (hb : vF b) (h : b.n ≠ 0) : divF a b = mulF a (invF b) := by
  unfold divF invF
  rw [and_v ha hb, if_pos rfl, if_neg h]
  split <;> rfl
theorem qv_inv {b : Fq} (hb : vF b) (h : b.n ≠ 0) : qv (invF b) = (qv b)⁻¹ := by
  have hd := cast_pos hb.pos
  have hn : (b.n : Rat) ≠ 0 := fun h0 => h (Rat.intCast_eq_zero_iff.1 h0)
  unfold invF qv
  split
  · simp only [Rat.intCast_neg]
    grind
  · simp only
    grind
theorem qv_neg (b : Fq) : qv ⟨-b.n, b.d⟩ = - qv b := by
  unfold qv
  simp only [Rat.intCast_neg]
  grind
theorem red_add {a b : Fq} (ha : vF a) (hb : vF b) : ((a.n * b.d + b.n * a.d : Int) : Rat) / ((a.d * b.d : Int) : Rat) = qv a + qv b := by
  have h1 := cast_pos ha.pos
  have h2 := cast_pos hb.pos
  unfold qv
  rw [Rat.intCast_add, Rat.intCast_mul, Rat.intCast_mul, Rat.intCast_mul]
  grind
theorem red_mul {a b : Fq} (ha : vF a) (hb : vF b) : ((a.n * b.n : Int) : Rat) / ((a.d * b.d : Int) : Rat) = qv a * qv b := by
  have h1 := cast_pos ha.pos
  have h2 := cast_pos hb.pos
  unfold qv
  rw [Rat.intCast_mul, Rat.intCast_mul]
  grind
/-- The value of a result. -/
theorem opF_val {op : Nat} {a b : Fq} (ha : vF a) (hb : vF b) (h0 : 3 ≤ op → b.n ≠ 0) (h : (opF op a b).2 = 0) : vF (opF op a b).1 ∧ qv (opF op a b).1 = qop op (qv a) (qv b) := by
  have hd := Int.mul_pos ha.pos hb.pos
  match op, h0, h with
  | 0, _, h =>
    simp only [opF, qop] at *
    rw [addF_eq ha hb] at h ⊢
    have := redF_val hd h
    rw [red_add ha hb] at this
    exact this
  | 1, _, h =>
    simp only [opF, qop] at *
    rw [subF_eq ha hb] at h ⊢
    have h3 := redF_val hd h
    have h4 := red_add ha hb.neg
    simp only at h4
    rw [h4, qv_neg] at h3
    exact ⟨h3.1, by rw [h3.2]; grind⟩
  | 2, _, h =>
    simp only [opF, qop] at *
    rw [mulF_eq ha hb] at h ⊢
    have := redF_val hd h
    rw [red_mul ha hb] at this
    exact this
  | k + 3, h0, h =>
    have hn := h0 (by omega)
    simp only [opF, qop] at *
    rw [divF_eq ha hb hn, mulF_eq ha (invF_v hb hn)] at h ⊢
    have h3 := redF_val (Int.mul_pos ha.pos (invF_v hb hn).pos) h
    rw [red_mul ha (invF_v hb hn), qv_inv hb hn] at h3
    exact h3
theorem opF_code {op : Nat} {a b : Fq} (ha : vF a) (hb : vF b) (h0 : 3 ≤ op → b.n ≠ 0) : (opF op a b).2 = 0 ∨ opF op a b = (fr0, 5) := by
  match op, h0 with
  | 0, _ => simp only [opF]; rw [addF_eq ha hb]; exact redF_code _ _
  | 1, _ => simp only [opF]; rw [subF_eq ha hb]; exact redF_code _ _
  | 2, _ => simp only [opF]; rw [mulF_eq ha hb]; exact redF_code _ _
  | k + 3, h0 => simp only [opF]; rw [divF_eq ha hb (h0 (by omega)), mulF_eq ha (invF_v hb (h0 (by omega)))]; exact redF_code _ _
/-- Small fractions have a result. -/
def smF (a : Fq) : Prop := a.n.natAbs ≤ 1073741824 ∧ a.d ≤ 1073741824
theorem opF_small {op : Nat} {a b : Fq} (ha : vF a) (hb : vF b) (sa : smF a) (sb : smF b) (h0 : 3 ≤ op → b.n ≠ 0) : (opF op a b).2 = 0 := by
  have pa := ha.pos
  have pb := hb.pos
  obtain ⟨s1, s2⟩ := sa
  obtain ⟨s3, s4⟩ := sb
  have mb : ∀ x y : Int, x.natAbs ≤ 1073741824 → y.natAbs ≤ 1073741824 → (x * y).natAbs ≤ 1152921504606846976 := fun x y hx hy => by
    rw [Int.natAbs_mul]
    exact Nat.mul_le_mul hx hy
  have m1 := mb a.n b.d (by omega) (by omega)
  have m2 := mb b.n a.d (by omega) (by omega)
  have m3 := mb a.d b.d (by omega) (by omega)
  have m4 := mb a.n b.n (by omega) (by omega)
  have m5 := mb a.d b.n (by omega) (by omega)
  match op, h0 with
  | 0, _ => simp only [opF]; rw [addF_eq ha hb]; exact redF_ok (by omega) (by omega)
  | 1, _ => simp only [opF]; rw [subF_eq ha hb, Int.neg_mul]; exact redF_ok (by omega) (by omega)
  | 2, _ => simp only [opF]; rw [mulF_eq ha hb]; exact redF_ok (by omega) (by omega)
  | k + 3, h0 =>
    simp only [opF]
    rw [divF_eq ha hb (h0 (by omega)), mulF_eq ha (invF_v hb (h0 (by omega)))]
    unfold invF
    split
    · simp only [Int.mul_neg]; exact redF_ok (by omega) (by omega)
    · simp only; exact redF_ok (by omega) (by omega)
end Go.Proofs.Ythknflclfmnciaa
