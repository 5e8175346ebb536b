
/- Fractions: arithmetic in plain words. No program in sight. -/
import Derived.Test.YthknflclfmnciaaQm
namespace Go.Proofs.Ythknflclfmnciaa
open Go.RowKit
set_option linter.unusedVariables false
set_option linter.unusedSimpArgs false

/-- A fraction brought to lowest terms, or the code for one beyond the limit. -/
def redF (n d : Int) : Fq × Int :=
  if 4611686018427387904 < n.natAbs / Nat.gcd n.natAbs d.natAbs ∨ 4611686018427387904 < d.natAbs / Nat.gcd n.natAbs d.natAbs then (fr0, 5) else
  (⟨if n < 0 then -((n.natAbs / Nat.gcd n.natAbs d.natAbs : Nat) : Int) else ((n.natAbs / Nat.gcd n.natAbs d.natAbs : Nat) : Int), ((d.natAbs / Nat.gcd n.natAbs d.natAbs : Nat) : Int)⟩, 0)
def limF (p q : Int) : Fq × Int := if 4611686018427387904 < p.natAbs ∨ 4611686018427387904 < q.natAbs then (fr0, 5) else (⟨p, q⟩, 0)
theorem redF_of {n d p q : Int} {c : Nat} (hc : 0 < c) (hq : 0 < q) (hn : n = c * p) (hd : d = c * q) (hg : Nat.gcd p.natAbs q.natAbs = 1) : redF n d = limF p q := by
  have e1 : n.natAbs = c * p.natAbs := by rw [hn, Int.natAbs_mul]; rfl
  have e2 : d.natAbs = c * q.natAbs := by rw [hd, Int.natAbs_mul]; rfl
  have e3 : Nat.gcd n.natAbs d.natAbs = c := by rw [e1, e2, Nat.gcd_mul_left, hg, Nat.mul_one]
  have e4 : n.natAbs / c = p.natAbs := by rw [e1, Nat.mul_div_cancel_left _ hc]
  have e5 : d.natAbs / c = q.natAbs := by rw [e2, Nat.mul_div_cancel_left _ hc]
  have e6 : n < 0 ↔ p < 0 := by
    rw [hn]
    constructor
    · intro h
      rcases Int.lt_or_le p 0 with h1 | h1
      · exact h1
      · have := Int.mul_nonneg (show (0 : Int) ≤ (c : Int) by omega) h1
        omega
    · intro h
      exact Int.mul_neg_of_pos_of_neg (by omega) h
  unfold redF limF
  rw [e3, e4, e5]
  split
  · rfl
  · congr 2
    · split
      · rename_i h; rw [e6] at h; omega
      · rename_i h; rw [e6] at h; omega
    · omega
theorem limF_v {p q : Int} (hq : 0 < q) (hg : Nat.gcd p.natAbs q.natAbs = 1) (h : (limF p q).2 = 0) : vF (limF p q).1 := by
  unfold limF at h ⊢
  split at h
  · cases h
  · rename_i h1
    rw [if_neg h1]
    exact ⟨by simp only; omega, by simp only; omega, hg⟩
/-- Two products of what is left when common divisors are taken out. -/
theorem mul_parts {a b : Fq} (ha : vF a) (hb : vF b) : ∃ (g1 g2 : Nat) (a1 b1 d1 e1 : Int), g1 = Nat.gcd a.n.natAbs b.d.natAbs ∧ g2 = Nat.gcd b.n.natAbs a.d.natAbs ∧ 0 < g1 ∧ 0 < g2 ∧ a1 = a.n.tdiv g1 ∧ b1 = b.n.tdiv g2 ∧ d1 = a.d.tdiv g2 ∧ e1 = b.d.tdiv g1 ∧
    a.n = g1 * a1 ∧ b.n = g2 * b1 ∧ a.d = g2 * d1 ∧ b.d = g1 * e1 ∧ 0 < d1 ∧ 0 < e1 ∧ Nat.gcd (a1 * b1).natAbs (d1 * e1).natAbs = 1 := by
  obtain ⟨⟨a1p, _⟩, _, ga⟩ := ha
  obtain ⟨⟨b1p, _⟩, _, gb⟩ := hb
  have p1 : 0 < Nat.gcd a.n.natAbs b.d.natAbs := Nat.gcd_pos_of_pos_right _ (by omega)
  have p2 : 0 < Nat.gcd b.n.natAbs a.d.natAbs := Nat.gcd_pos_of_pos_right _ (by omega)
  have q1 : ((Nat.gcd a.n.natAbs b.d.natAbs : Nat) : Int) ∣ a.n := Int.ofNat_dvd_left.2 (Nat.gcd_dvd_left _ _)
  have q2 : ((Nat.gcd a.n.natAbs b.d.natAbs : Nat) : Int) ∣ b.d := Int.ofNat_dvd_left.2 (Nat.gcd_dvd_right _ _)
  have q3 : ((Nat.gcd b.n.natAbs a.d.natAbs : Nat) : Int) ∣ b.n := Int.ofNat_dvd_left.2 (Nat.gcd_dvd_left _ _)
  have q4 : ((Nat.gcd b.n.natAbs a.d.natAbs : Nat) : Int) ∣ a.d := Int.ofNat_dvd_left.2 (Nat.gcd_dvd_right _ _)
  have r1 := (Int.mul_tdiv_cancel' q1).symm
  have r2 := (Int.mul_tdiv_cancel' q2).symm
  have r3 := (Int.mul_tdiv_cancel' q3).symm
  have r4 := (Int.mul_tdiv_cancel' q4).symm
  refine ⟨_, _, _, _, _, _, rfl, rfl, p1, p2, rfl, rfl, rfl, rfl, r1, r3, r4, r2, ?_⟩
  have c1 := Nat.coprime_div_gcd_div_gcd p1
  have c2 := Nat.coprime_div_gcd_div_gcd p2
  have n1 : (a.n.tdiv (Nat.gcd a.n.natAbs b.d.natAbs : Nat)).natAbs = a.n.natAbs / Nat.gcd a.n.natAbs b.d.natAbs := by rw [Int.natAbs_tdiv]; rfl
  have n2 : (b.d.tdiv (Nat.gcd a.n.natAbs b.d.natAbs : Nat)).natAbs = b.d.natAbs / Nat.gcd a.n.natAbs b.d.natAbs := by rw [Int.natAbs_tdiv]; rfl
  have n3 : (b.n.tdiv (Nat.gcd b.n.natAbs a.d.natAbs : Nat)).natAbs = b.n.natAbs / Nat.gcd b.n.natAbs a.d.natAbs := by rw [Int.natAbs_tdiv]; rfl
  have n4 : (a.d.tdiv (Nat.gcd b.n.natAbs a.d.natAbs : Nat)).natAbs = a.d.natAbs / Nat.gcd b.n.natAbs a.d.natAbs := by rw [Int.natAbs_tdiv]; rfl
  rw [← n1, ← n2] at c1
  rw [← n3, ← n4] at c2
  have m1 : (a.n.tdiv (Nat.gcd a.n.natAbs b.d.natAbs : Nat)).natAbs ∣ a.n.natAbs := by rw [n1]; exact Nat.div_dvd_of_dvd (Nat.gcd_dvd_left _ _)
  have m2 : (b.d.tdiv (Nat.gcd a.n.natAbs b.d.natAbs : Nat)).natAbs ∣ b.d.natAbs := by rw [n2]; exact Nat.div_dvd_of_dvd (Nat.gcd_dvd_right _ _)
  have m3 : (b.n.tdiv (Nat.gcd b.n.natAbs a.d.natAbs : Nat)).natAbs ∣ b.n.natAbs := by rw [n3]; exact Nat.div_dvd_of_dvd (Nat.gcd_dvd_left _ _)
  have m4 : (a.d.tdiv (Nat.gcd b.n.natAbs a.d.natAbs : Nat)).natAbs ∣ a.d.natAbs := by rw [n4]; exact Nat.div_dvd_of_dvd (Nat.gcd_dvd_right _ _)
  generalize a.n.tdiv (Nat.gcd a.n.natAbs b.d.natAbs : Nat) = x1 at *
  generalize b.d.tdiv (Nat.gcd a.n.natAbs b.d.natAbs : Nat) = x2 at *
  generalize b.n.tdiv (Nat.gcd b.n.natAbs a.d.natAbs : Nat) = x3 at *
  generalize a.d.tdiv (Nat.gcd b.n.natAbs a.d.natAbs : Nat) = x4 at *
  have hpos : ∀ (g : Nat) (x y : Int), 0 < y → y = g * x → 0 < x := fun g x y hy he => by
    rcases Int.lt_or_le 0 x with h | h
    · exact h
    · have := Int.mul_nonpos_of_nonneg_of_nonpos (show (0 : Int) ≤ (g : Int) by omega) h
      omega
  refine ⟨hpos _ _ _ (by omega) r4, hpos _ _ _ (by omega) r2, ?_⟩
  rw [Int.natAbs_mul, Int.natAbs_mul]
  have k1 : Nat.Coprime x1.natAbs x4.natAbs := Nat.Coprime.coprime_dvd_left m1 (Nat.Coprime.coprime_dvd_right m4 ga)
  have k2 : Nat.Coprime x3.natAbs x2.natAbs := Nat.Coprime.coprime_dvd_left m3 (Nat.Coprime.coprime_dvd_right m2 gb)
  have k3 : Nat.Coprime x1.natAbs (x4.natAbs * x2.natAbs) := Nat.Coprime.mul_right k1 c1
  have k4 : Nat.Coprime x3.natAbs (x4.natAbs * x2.natAbs) := Nat.Coprime.mul_right c2 k2
  exact Nat.Coprime.mul_left k3 k4
def mulF (a b : Fq) : Fq × Int := if vB a && vB b then redF (a.n * b.n) (a.d * b.d) else (fr0, 1)
def divF (a b : Fq) : Fq × Int := if vB a && vB b then (if b.n = 0 then (fr0, 6) else if b.n < 0 then mulF a ⟨-b.d, -b.n⟩ else mulF a ⟨b.d, b.n⟩) else (fr0, 1)
theorem mul_mul_four (g1 g2 x y : Int) : g1 * x * (g2 * y) = g1 * g2 * (x * y) := by
  rw [Int.mul_assoc, Int.mul_assoc, ← Int.mul_assoc x, Int.mul_comm x g2, Int.mul_assoc g2]
theorem mulF_parts {a b : Fq} {g1 g2 : Nat} {a1 b1 d1 e1 : Int} (ha : vF a) (hb : vF b) (p1 : 0 < g1) (p2 : 0 < g2) (r1 : a.n = g1 * a1) (r2 : b.n = g2 * b1) (r3 : a.d = g2 * d1) (r4 : b.d = g1 * e1) (hd : 0 < d1) (he : 0 < e1) (hg : Nat.gcd (a1 * b1).natAbs (d1 * e1).natAbs = 1) :
    mulF a b = limF (a1 * b1) (d1 * e1) := by
  unfold mulF
  rw [(vB_iff a).2 ha, (vB_iff b).2 hb]
  refine redF_of (c := g1 * g2) (Nat.mul_pos p1 p2) (Int.mul_pos hd he) ?_ ?_ hg
  · rw [r1, r2, mul_mul_four, Int.natCast_mul]
  · rw [r3, r4, mul_mul_four, Int.natCast_mul, Int.mul_comm (g2 : Int)]
theorem inv_v {b : Fq} (hb : vF b) (h : 0 < b.n) : vF ⟨b.d, b.n⟩ := by
  obtain ⟨h1, h2, h3⟩ := hb
  exact ⟨by simp only; omega, by simp only; omega, by simp only; rw [Nat.gcd_comm]; exact h3⟩
theorem inv_v' {b : Fq} (hb : vF b) (h : b.n < 0) : vF ⟨-b.d, -b.n⟩ := by
  obtain ⟨h1, h2, h3⟩ := hb
  exact ⟨by simp only; omega, by simp only; omega, by simp only [Int.natAbs_neg]; rw [Nat.gcd_comm]; exact h3⟩
/-- The four corners. -/
def crnF (op : Fq → Fq → Fq × Int) (x y : Iv) : Iv × Int :=
  if (op x.lo y.lo).2 ≠ 0 then (iv0, (op x.lo y.lo).2) else
  if (op x.hi y.lo).2 ≠ 0 then (iv0, (op x.hi y.lo).2) else
  if (op x.lo y.hi).2 ≠ 0 then (iv0, (op x.lo y.hi).2) else
  if (op x.hi y.hi).2 ≠ 0 then (iv0, (op x.hi y.hi).2) else
  (⟨lstF (op x.lo y.lo).1 [(op x.hi y.lo).1, (op x.lo y.hi).1, (op x.hi y.hi).1], grtF (op x.lo y.lo).1 [(op x.hi y.lo).1, (op x.lo y.hi).1, (op x.hi y.hi).1]⟩, 0)
def imulF (x y : Iv) : Iv × Int := if ivB x && ivB y then crnF mulF x y else (iv0, 1)
def idivF (x y : Iv) : Iv × Int := if ivB x && ivB y then (if y.lo.n ≤ 0 ∧ 0 ≤ y.hi.n then (iv0, 6) else crnF divF x y) else (iv0, 1)
end Go.Proofs.Ythknflclfmnciaa
