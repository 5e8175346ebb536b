
/- Operations on intervals: what they contain, corners, order. No program in sight. -/
import Derived.Test.YthknflclfmnciaaWj
namespace Go.Proofs.Ythknflclfmnciaa
set_option linter.unusedVariables false
set_option linter.unusedSimpArgs false

def twoF (p q : Fq × Int) : Iv × Int := if p.2 ≠ 0 then (iv0, p.2) else if q.2 ≠ 0 then (iv0, q.2) else (⟨p.1, q.1⟩, 0)
def iaddF (x y : Iv) : Iv × Int := if ivB x && ivB y then twoF (addF x.lo y.lo) (addF x.hi y.hi) else (iv0, 1)
def isubF (x y : Iv) : Iv × Int := if ivB x && ivB y then twoF (subF x.lo y.hi) (subF x.hi y.lo) else (iv0, 1)
def iopF (op : Nat) (x y : Iv) : Iv × Int := match op with
  | 0 => iaddF x y
  | 1 => isubF x y
  | 2 => imulF x y
  | _ => idivF x y
theorem and_i {x y : Iv} (hx : vI x) (hy : vI y) : (ivB x && ivB y) = true := by rw [(ivB_iff x).2 hx, (ivB_iff y).2 hy]; rfl
/-- The number lies in the interval. -/
def Has (x : Iv) (r : Rat) : Prop := qv x.lo ≤ r ∧ r ≤ qv x.hi
theorem vI.le {x : Iv} (h : vI x) : qv x.lo ≤ qv x.hi := (cmp_qv h.1 h.2.1).1 h.2.2
theorem Has.lo {x : Iv} (h : vI x) : Has x (qv x.lo) := ⟨Rat.le_refl, h.le⟩
theorem Has.hi {x : Iv} (h : vI x) : Has x (qv x.hi) := ⟨h.le, Rat.le_refl⟩
/-! products of rational numbers -/
theorem mul_mono {a b c : Rat} (h : a ≤ b) : (0 ≤ c → a * c ≤ b * c) ∧ (c ≤ 0 → b * c ≤ a * c) := by
  refine ⟨fun hc => Rat.mul_le_mul_of_nonneg_right h hc, fun hc => ?_⟩
  have h1 := Rat.mul_le_mul_of_nonneg_right (c := -c) h (by grind)
  grind
theorem mul_lo {l h a b : Rat} (h1 : l ≤ a) (h2 : a ≤ h) : (l * b ≤ a * b ∨ h * b ≤ a * b) ∧ (a * b ≤ l * b ∨ a * b ≤ h * b) := by
  rcases Rat.le_total (a := 0) (b := b) with hb | hb
  · exact ⟨.inl ((mul_mono h1).1 hb), .inr ((mul_mono h2).1 hb)⟩
  · exact ⟨.inr ((mul_mono h2).2 hb), .inl ((mul_mono h1).2 hb)⟩
/-- A product lies between two of the corners. -/
theorem mul_corner {xl xh yl yh a b : Rat} (a1 : xl ≤ a) (a2 : a ≤ xh) (b1 : yl ≤ b) (b2 : b ≤ yh) :
    (xl * yl ≤ a * b ∨ xh * yl ≤ a * b ∨ xl * yh ≤ a * b ∨ xh * yh ≤ a * b) ∧ (a * b ≤ xl * yl ∨ a * b ≤ xh * yl ∨ a * b ≤ xl * yh ∨ a * b ≤ xh * yh) := by
  obtain ⟨p1, p2⟩ := mul_lo (b := b) a1 a2
  obtain ⟨q1, q2⟩ := mul_lo (b := xl) b1 b2
  obtain ⟨r1, r2⟩ := mul_lo (b := xh) b1 b2
  rw [Rat.mul_comm yl, Rat.mul_comm b, Rat.mul_comm yh] at q1 q2 r1 r2
  constructor
  · rcases p1 with p1 | p1
    · rcases q1 with q1 | q1
      · exact .inl (Rat.le_trans q1 p1)
      · exact .inr (.inr (.inl (Rat.le_trans q1 p1)))
    · rcases r1 with r1 | r1
      · exact .inr (.inl (Rat.le_trans r1 p1))
      · exact .inr (.inr (.inr (Rat.le_trans r1 p1)))
  · rcases p2 with p2 | p2
    · rcases q2 with q2 | q2
      · exact .inl (Rat.le_trans p2 q2)
      · exact .inr (.inr (.inl (Rat.le_trans p2 q2)))
    · rcases r2 with r2 | r2
      · exact .inr (.inl (Rat.le_trans p2 r2))
      · exact .inr (.inr (.inr (Rat.le_trans p2 r2)))
theorem inv_mono {a b : Rat} (h : a ≤ b) (hs : 0 < a ∨ b < 0) : b⁻¹ ≤ a⁻¹ := by
  have p : 0 < a * b := by
    rcases hs with hs | hs
    · exact Rat.mul_pos hs (by grind)
    · have := Rat.mul_pos (a := -a) (b := -b) (by grind) (by grind)
      grind
  refine Rat.le_of_mul_le_mul_right ?_ p
  have ha : a ≠ 0 := by rintro rfl; grind
  have hb : b ≠ 0 := by rintro rfl; grind
  have e1 : b⁻¹ * (a * b) = a := by grind
  have e2 : a⁻¹ * (a * b) = b := by grind
  rw [e1, e2]
  exact h
/-! the least and the greatest of four -/
theorem lst4 {p q r s : Fq} (hp : vF p) (hq : vF q) (hr : vF r) (hs : vF s) : vF (lstF p [q, r, s]) ∧ qv (lstF p [q, r, s]) ≤ qv p ∧ qv (lstF p [q, r, s]) ≤ qv q ∧ qv (lstF p [q, r, s]) ≤ qv r ∧ qv (lstF p [q, r, s]) ≤ qv s ∧
    (lstF p [q, r, s] = p ∨ lstF p [q, r, s] = q ∨ lstF p [q, r, s] = r ∨ lstF p [q, r, s] = s) := by
  obtain ⟨a1, a2, a3, a4⟩ := lesF_v hp hq
  obtain ⟨b1, b2, b3, b4⟩ := lesF_v a1 hr
  obtain ⟨c1, c2, c3, c4⟩ := lesF_v b1 hs
  rw [cmp_qv a1 hp] at a2
  rw [cmp_qv a1 hq] at a3
  rw [cmp_qv b1 a1] at b2
  rw [cmp_qv b1 hr] at b3
  rw [cmp_qv c1 b1] at c2
  rw [cmp_qv c1 hs] at c3
  show vF (lesF (lesF (lesF p q) r) s) ∧ qv (lesF (lesF (lesF p q) r) s) ≤ qv p ∧ qv (lesF (lesF (lesF p q) r) s) ≤ qv q ∧ qv (lesF (lesF (lesF p q) r) s) ≤ qv r ∧ qv (lesF (lesF (lesF p q) r) s) ≤ qv s ∧ (lesF (lesF (lesF p q) r) s = p ∨ lesF (lesF (lesF p q) r) s = q ∨ lesF (lesF (lesF p q) r) s = r ∨ lesF (lesF (lesF p q) r) s = s)
  refine ⟨c1, Rat.le_trans c2 (Rat.le_trans b2 a2), Rat.le_trans c2 (Rat.le_trans b2 a3), Rat.le_trans c2 b3, c3, ?_⟩
  rcases c4 with c4 | c4
  · rcases b4 with b4 | b4
    · rcases a4 with a4 | a4
      · rw [c4, b4]; exact .inl a4
      · rw [c4, b4]; exact .inr (.inl a4)
    · rw [c4]; exact .inr (.inr (.inl b4))
  · exact .inr (.inr (.inr c4))
theorem grt4 {p q r s : Fq} (hp : vF p) (hq : vF q) (hr : vF r) (hs : vF s) : vF (grtF p [q, r, s]) ∧ qv p ≤ qv (grtF p [q, r, s]) ∧ qv q ≤ qv (grtF p [q, r, s]) ∧ qv r ≤ qv (grtF p [q, r, s]) ∧ qv s ≤ qv (grtF p [q, r, s]) ∧
    (grtF p [q, r, s] = p ∨ grtF p [q, r, s] = q ∨ grtF p [q, r, s] = r ∨ grtF p [q, r, s] = s) := by
  obtain ⟨a1, a2, a3, a4⟩ := greF_v hp hq
  obtain ⟨b1, b2, b3, b4⟩ := greF_v a1 hr
  obtain ⟨c1, c2, c3, c4⟩ := greF_v b1 hs
  rw [cmp_qv hp a1] at a2
  rw [cmp_qv hq a1] at a3
  rw [cmp_qv a1 b1] at b2
  rw [cmp_qv hr b1] at b3
  rw [cmp_qv b1 c1] at c2
  rw [cmp_qv hs c1] at c3
  show vF (greF (greF (greF p q) r) s) ∧ qv p ≤ qv (greF (greF (greF p q) r) s) ∧ qv q ≤ qv (greF (greF (greF p q) r) s) ∧ qv r ≤ qv (greF (greF (greF p q) r) s) ∧ qv s ≤ qv (greF (greF (greF p q) r) s) ∧ (greF (greF (greF p q) r) s = p ∨ greF (greF (greF p q) r) s = q ∨ greF (greF (greF p q) r) s = r ∨ greF (greF (greF p q) r) s = s)
  refine ⟨c1, Rat.le_trans a2 (Rat.le_trans b2 c2), Rat.le_trans a3 (Rat.le_trans b2 c2), Rat.le_trans b3 c2, c3, ?_⟩
  rcases c4 with c4 | c4
  · rcases b4 with b4 | b4
    · rcases a4 with a4 | a4
      · rw [c4, b4]; exact .inl a4
      · rw [c4, b4]; exact .inr (.inl a4)
    · rw [c4]; exact .inr (.inr (.inl b4))
  · exact .inr (.inr (.inr c4))
/-- y has no zero. -/
def Nz (y : Iv) : Prop := ¬ (y.lo.n ≤ 0 ∧ 0 ≤ y.hi.n)
theorem Nz.sign {y : Iv} (hy : vI y) (h : Nz y) : 0 < qv y.lo ∨ qv y.hi < 0 := by
  have s1 := qv_sign hy.1.pos
  have s2 := qv_sign hy.2.1.pos
  unfold Nz at h
  by_cases h1 : y.lo.n ≤ 0
  · right
    have : ¬ 0 ≤ y.hi.n := fun h2 => h ⟨h1, h2⟩
    rw [← s2.1] at this
    grind
  · left
    rw [← s1.2] at h1
    grind
theorem Nz.ne {y : Iv} (hy : vI y) (h : Nz y) {b : Fq} (hb : vF b) (hm : Has y (qv b)) : b.n ≠ 0 := by
  intro h0
  have s := qv_sign hb.pos
  have h1 := s.1.2 (by omega)
  have h2 := s.2.2 (by omega)
  obtain ⟨m1, m2⟩ := hm
  rcases h.sign hy with h3 | h3 <;> grind
/-- What an operation on intervals gives. -/
structure IOk (op : Nat) (x y z : Iv) : Prop where
  v : vI z
  all : ∀ a b : Rat, Has x a → Has y b → Has z (qop op a b)
  lo : ∃ a b, (a = x.lo ∨ a = x.hi) ∧ (b = y.lo ∨ b = y.hi) ∧ opF op a b = (z.lo, 0)
  hi : ∃ a b, (a = x.lo ∨ a = x.hi) ∧ (b = y.lo ∨ b = y.hi) ∧ opF op a b = (z.hi, 0)
theorem two_ok {p q : Fq × Int} {z : Iv} (h : twoF p q = (z, 0)) : p = (z.lo, 0) ∧ q = (z.hi, 0) := by
  unfold twoF at h
  split at h
  · rename_i h1; exact absurd (congrArg Prod.snd h) h1
  · split at h
    · rename_i h1; exact absurd (congrArg Prod.snd h) h1
    · rename_i h1 h2
      have := congrArg Prod.fst h
      simp only at this
      subst this
      exact ⟨Prod.ext rfl (by simpa using h1), Prod.ext rfl (by simpa using h2)⟩
theorem crn_ok {op : Fq → Fq → Fq × Int} {x y z : Iv} (h : crnF op x y = (z, 0)) : (op x.lo y.lo).2 = 0 ∧ (op x.hi y.lo).2 = 0 ∧ (op x.lo y.hi).2 = 0 ∧ (op x.hi y.hi).2 = 0 ∧
    z.lo = lstF (op x.lo y.lo).1 [(op x.hi y.lo).1, (op x.lo y.hi).1, (op x.hi y.hi).1] ∧ z.hi = grtF (op x.lo y.lo).1 [(op x.hi y.lo).1, (op x.lo y.hi).1, (op x.hi y.hi).1] := by
  unfold crnF at h
  split at h
  · rename_i h1; exact absurd (congrArg Prod.snd h) h1
  split at h
  · rename_i h1; exact absurd (congrArg Prod.snd h) h1
  split at h
  · rename_i h1; exact absurd (congrArg Prod.snd h) h1
  split at h
  · rename_i h1; exact absurd (congrArg Prod.snd h) h1
  rename_i h1 h2 h3 h4
  have := congrArg Prod.fst h
  simp only at this
  subst this
  exact ⟨by simpa using h1, by simpa using h2, by simpa using h3, by simpa using h4, rfl, rfl⟩
/-- Products and quotients: the corners. -/
theorem crn_iok {op : Nat} {x y z : Iv} (hx : vI x) (hy : vI y) (h0 : 3 ≤ op → Nz y) (h : crnF (opF op) x y = (z, 0))
    (hc : ∀ a b : Rat, Has x a → Has y b → (qop op (qv x.lo) (qv y.lo) ≤ qop op a b ∨ qop op (qv x.hi) (qv y.lo) ≤ qop op a b ∨ qop op (qv x.lo) (qv y.hi) ≤ qop op a b ∨ qop op (qv x.hi) (qv y.hi) ≤ qop op a b) ∧ (qop op a b ≤ qop op (qv x.lo) (qv y.lo) ∨ qop op a b ≤ qop op (qv x.hi) (qv y.lo) ∨ qop op a b ≤ qop op (qv x.lo) (qv y.hi) ∨ qop op a b ≤ qop op (qv x.hi) (qv y.hi))) : IOk op x y z := by
  obtain ⟨c1, c2, c3, c4, cl, ch⟩ := crn_ok h
  have nl : 3 ≤ op → y.lo.n ≠ 0 := fun h3 => (h0 h3).ne hy hy.1 (Has.lo hy)
  have nh : 3 ≤ op → y.hi.n ≠ 0 := fun h3 => (h0 h3).ne hy hy.2.1 (Has.hi hy)
  obtain ⟨v1, e1⟩ := opF_val hx.1 hy.1 nl c1
  obtain ⟨v2, e2⟩ := opF_val hx.2.1 hy.1 nl c2
  obtain ⟨v3, e3⟩ := opF_val hx.1 hy.2.1 nh c3
  obtain ⟨v4, e4⟩ := opF_val hx.2.1 hy.2.1 nh c4
  obtain ⟨l0, l1, l2, l3, l4, l5⟩ := lst4 v1 v2 v3 v4
  obtain ⟨g0, g1, g2, g3, g4, g5⟩ := grt4 v1 v2 v3 v4
  rw [← cl] at l0 l1 l2 l3 l4 l5
  rw [← ch] at g0 g1 g2 g3 g4 g5
  refine ⟨⟨l0, g0, (cmp_qv l0 g0).2 (Rat.le_trans l1 g1)⟩, fun a b ha hb => ?_, ?_, ?_⟩
  · obtain ⟨k1, k2⟩ := hc a b ha hb
    rw [← e1, ← e2, ← e3, ← e4] at k1 k2
    refine ⟨?_, ?_⟩
    · rcases k1 with k | k | k | k
      · exact Rat.le_trans l1 k
      · exact Rat.le_trans l2 k
      · exact Rat.le_trans l3 k
      · exact Rat.le_trans l4 k
    · rcases k2 with k | k | k | k
      · exact Rat.le_trans k g1
      · exact Rat.le_trans k g2
      · exact Rat.le_trans k g3
      · exact Rat.le_trans k g4
  · rcases l5 with k | k | k | k
    · exact ⟨x.lo, y.lo, .inl rfl, .inl rfl, Prod.ext k.symm c1⟩
    · exact ⟨x.hi, y.lo, .inr rfl, .inl rfl, Prod.ext k.symm c2⟩
    · exact ⟨x.lo, y.hi, .inl rfl, .inr rfl, Prod.ext k.symm c3⟩
    · exact ⟨x.hi, y.hi, .inr rfl, .inr rfl, Prod.ext k.symm c4⟩
  · rcases g5 with k | k | k | k
    · exact ⟨x.lo, y.lo, .inl rfl, .inl rfl, Prod.ext k.symm c1⟩
    · exact ⟨x.hi, y.lo, .inr rfl, .inl rfl, Prod.ext k.symm c2⟩
    · exact ⟨x.lo, y.hi, .inl rfl, .inr rfl, Prod.ext k.symm c3⟩
    · exact ⟨x.hi, y.hi, .inr rfl, .inr rfl, Prod.ext k.symm c4⟩
theorem iop_ok {op : Nat} {x y z : Iv} (hop : op < 4) (hx : vI x) (hy : vI y) (h : iopF op x y = (z, 0)) : IOk op x y z := by
  have hxy := and_i hx hy
  match op, hop with
  | 0, _ =>
    simp only [iopF, iaddF] at h
    rw [hxy, if_pos rfl] at h
    obtain ⟨h1, h2⟩ := two_ok h
    have k1 := opF_val (op := 0) hx.1 hy.1 (by omega) (show (addF x.lo y.lo).2 = 0 by rw [h1])
    have k2 := opF_val (op := 0) hx.2.1 hy.2.1 (by omega) (show (addF x.hi y.hi).2 = 0 by rw [h2])
    simp only [opF, qop] at k1 k2
    rw [h1] at k1
    rw [h2] at k2
    have xl := hx.le
    have yl := hy.le
    refine ⟨⟨k1.1, k2.1, (cmp_qv k1.1 k2.1).2 ?_⟩, fun a b ha hb => ?_, ⟨_, _, .inl rfl, .inl rfl, h1⟩, ⟨_, _, .inr rfl, .inr rfl, h2⟩⟩
    · rw [k1.2, k2.2]; grind
    · obtain ⟨a1, a2⟩ := ha
      obtain ⟨b1, b2⟩ := hb
      simp only [qop]
      exact ⟨by rw [k1.2]; grind, by rw [k2.2]; grind⟩
  | 1, _ =>
    simp only [iopF, isubF] at h
    rw [hxy, if_pos rfl] at h
    obtain ⟨h1, h2⟩ := two_ok h
    have k1 := opF_val (op := 1) hx.1 hy.2.1 (by omega) (show (subF x.lo y.hi).2 = 0 by rw [h1])
    have k2 := opF_val (op := 1) hx.2.1 hy.1 (by omega) (show (subF x.hi y.lo).2 = 0 by rw [h2])
    simp only [opF, qop] at k1 k2
    rw [h1] at k1
    rw [h2] at k2
    have xl := hx.le
    have yl := hy.le
    refine ⟨⟨k1.1, k2.1, (cmp_qv k1.1 k2.1).2 ?_⟩, fun a b ha hb => ?_, ⟨_, _, .inl rfl, .inr rfl, h1⟩, ⟨_, _, .inr rfl, .inl rfl, h2⟩⟩
    · rw [k1.2, k2.2]; grind
    · obtain ⟨a1, a2⟩ := ha
      obtain ⟨b1, b2⟩ := hb
      simp only [qop]
      exact ⟨by rw [k1.2]; grind, by rw [k2.2]; grind⟩
  | 2, _ =>
    simp only [iopF, imulF] at h
    rw [hxy, if_pos rfl] at h
    exact crn_iok (op := 2) hx hy (by omega) h (fun a b ha hb => mul_corner ha.1 ha.2 hb.1 hb.2)
  | 3, _ =>
    simp only [iopF, idivF] at h
    rw [hxy, if_pos rfl] at h
    split at h
    · have := congrArg Prod.snd h; cases this
    rename_i hz
    have hz : Nz y := hz
    refine crn_iok (op := 3) hx hy (fun _ => hz) h (fun a b ha hb => ?_)
    have hs := hz.sign hy
    have i1 : (qv y.hi)⁻¹ ≤ b⁻¹ := inv_mono hb.2 (by
      obtain ⟨b1, b2⟩ := hb
      rcases hs with hs | hs
      · left; grind
      · right; exact hs)
    have i2 : b⁻¹ ≤ (qv y.lo)⁻¹ := inv_mono hb.1 (by
      obtain ⟨b1, b2⟩ := hb
      rcases hs with hs | hs
      · left; exact hs
      · right; grind)
    have := mul_corner ha.1 ha.2 i1 i2
    simp only [qop]
    obtain ⟨m1, m2⟩ := this
    refine ⟨?_, ?_⟩
    · rcases m1 with m | m | m | m
      · exact .inr (.inr (.inl m))
      · exact .inr (.inr (.inr m))
      · exact .inl m
      · exact .inr (.inl m)
    · rcases m2 with m | m | m | m
      · exact .inr (.inr (.inl m))
      · exact .inr (.inr (.inr m))
      · exact .inl m
      · exact .inr (.inl m)
/-- Small intervals: a result, or a zero in the divisor. -/
theorem iop_small {op : Nat} {x y : Iv} (hop : op < 4) (hx : vI x) (hy : vI y) (s1 : smF x.lo) (s2 : smF x.hi) (s3 : smF y.lo) (s4 : smF y.hi) : (∃ z, iopF op x y = (z, 0) ∧ IOk op x y z ∧ (op = 3 → Nz y)) ∨ (op = 3 ∧ ¬ Nz y ∧ iopF op x y = (iv0, 6)) := by
  have hxy := and_i hx hy
  have two : ∀ p q : Fq × Int, p.2 = 0 → q.2 = 0 → twoF p q = (⟨p.1, q.1⟩, 0) := fun p q h1 h2 => by
    unfold twoF
    rw [if_neg (by omega), if_neg (by omega)]
  have crn : ∀ op : Fq → Fq → Fq × Int, (op x.lo y.lo).2 = 0 → (op x.hi y.lo).2 = 0 → (op x.lo y.hi).2 = 0 → (op x.hi y.hi).2 = 0 → ∃ z, crnF op x y = (z, 0) := fun op h1 h2 h3 h4 => by
    unfold crnF
    rw [if_neg (by omega), if_neg (by omega), if_neg (by omega), if_neg (by omega)]
    exact ⟨_, rfl⟩
  match op, hop with
  | 0, _ =>
    have h : iopF 0 x y = (⟨(addF x.lo y.lo).1, (addF x.hi y.hi).1⟩, 0) := by
      simp only [iopF, iaddF]
      rw [hxy, if_pos rfl]
      exact two _ _ (opF_small (op := 0) hx.1 hy.1 s1 s3 (by omega)) (opF_small (op := 0) hx.2.1 hy.2.1 s2 s4 (by omega))
    exact .inl ⟨_, h, iop_ok (by omega) hx hy h, by omega⟩
  | 1, _ =>
    have h : iopF 1 x y = (⟨(subF x.lo y.hi).1, (subF x.hi y.lo).1⟩, 0) := by
      simp only [iopF, isubF]
      rw [hxy, if_pos rfl]
      exact two _ _ (opF_small (op := 1) hx.1 hy.2.1 s1 s4 (by omega)) (opF_small (op := 1) hx.2.1 hy.1 s2 s3 (by omega))
    exact .inl ⟨_, h, iop_ok (by omega) hx hy h, by omega⟩
  | 2, _ =>
    obtain ⟨z, hz⟩ := crn mulF (opF_small (op := 2) hx.1 hy.1 s1 s3 (by omega)) (opF_small (op := 2) hx.2.1 hy.1 s2 s3 (by omega)) (opF_small (op := 2) hx.1 hy.2.1 s1 s4 (by omega)) (opF_small (op := 2) hx.2.1 hy.2.1 s2 s4 (by omega))
    have h : iopF 2 x y = (z, 0) := by
      simp only [iopF, imulF]
      rw [hxy, if_pos rfl]
      exact hz
    exact .inl ⟨_, h, iop_ok (by omega) hx hy h, by omega⟩
  | 3, _ =>
    by_cases hz : Nz y
    · have nl : y.lo.n ≠ 0 := hz.ne hy hy.1 (Has.lo hy)
      have nh : y.hi.n ≠ 0 := hz.ne hy hy.2.1 (Has.hi hy)
      obtain ⟨z, hz2⟩ := crn divF (opF_small (op := 3) hx.1 hy.1 s1 s3 (fun _ => nl)) (opF_small (op := 3) hx.2.1 hy.1 s2 s3 (fun _ => nl)) (opF_small (op := 3) hx.1 hy.2.1 s1 s4 (fun _ => nh)) (opF_small (op := 3) hx.2.1 hy.2.1 s2 s4 (fun _ => nh))
      have h : iopF 3 x y = (z, 0) := by
        simp only [iopF, idivF]
        rw [hxy, if_pos rfl, if_neg hz]
        exact hz2
      exact .inl ⟨_, h, iop_ok (by omega) hx hy h, fun _ => hz⟩
    · refine .inr ⟨rfl, hz, ?_⟩
      simp only [iopF, idivF]
      rw [hxy, if_pos rfl, if_pos]
      unfold Nz at hz
      exact Classical.not_not.1 hz
end Go.Proofs.Ythknflclfmnciaa
