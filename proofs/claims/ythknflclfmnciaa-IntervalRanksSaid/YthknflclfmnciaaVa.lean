
/- Small fractions in plain words: what stands for N over D. No program in sight. -/
import Derived.Test.YthknflclfmnciaaQd
import Derived.Test.YthknflclfmnciaaQw
namespace Go.Proofs.Ythknflclfmnciaa
open Go.RowKit
set_option linter.unusedVariables false
set_option linter.unusedSimpArgs false

/-- a is N over D in lowest terms. -/
def Rep (a : Fq) (N D : Int) : Prop := vF a ∧ 0 < D ∧ a.n * D = N * a.d
theorem Rep.le {a : Fq} {N D : Int} (h : Rep a N D) : a.d ≤ D ∧ a.n.natAbs ≤ N.natAbs := by
  obtain ⟨⟨⟨d1, d2⟩, n1, hg⟩, hD, he⟩ := h
  have h2 : a.n.natAbs * D.natAbs = N.natAbs * a.d.natAbs := by rw [← Int.natAbs_mul, ← Int.natAbs_mul, he]
  have hc : Nat.Coprime a.d.natAbs a.n.natAbs := by rw [Nat.coprime_comm]; exact hg
  have hdv : a.d.natAbs ∣ D.natAbs := hc.dvd_of_dvd_mul_left ⟨N.natAbs, by rw [h2, Nat.mul_comm]⟩
  have hle : a.d.natAbs ≤ D.natAbs := Nat.le_of_dvd (by omega) hdv
  refine ⟨by omega, ?_⟩
  have h3 : a.n.natAbs * D.natAbs ≤ N.natAbs * D.natAbs := by rw [h2]; exact Nat.mul_le_mul_left _ hle
  exact Nat.le_of_mul_le_mul_right h3 (by omega)
theorem Rep.refl {a : Fq} (h : vF a) : Rep a a.n a.d := ⟨h, by have := h.1.1; omega, rfl⟩
theorem Rep.wide {a : Fq} {N D : Int} (h : Rep a N D) {k : Int} (hk : 0 < k) : Rep a (N * k) (D * k) := by
  obtain ⟨h1, h2, h3⟩ := h
  refine ⟨h1, Int.mul_pos h2 hk, ?_⟩
  rw [← Int.mul_assoc, h3, Int.mul_assoc, Int.mul_comm a.d k, Int.mul_assoc]
theorem sgn_mul {z k y : Int} (hk : 0 < k) (h : y * k = z) : sgI y = sgI z := by
  have h0 : y = 0 ↔ z = 0 := by
    rw [← h]
    constructor
    · intro h; rw [h, Int.zero_mul]
    · intro h
      rcases Int.mul_eq_zero.1 h with h | h
      · exact h
      · omega
  have h1 : y < 0 ↔ z < 0 := by
    rw [← h]
    constructor
    · intro h; exact Int.mul_neg_of_neg_of_pos h hk
    · intro h
      rcases Int.lt_or_le y 0 with h2 | h2
      · exact h2
      · have := Int.mul_nonneg h2 (Int.le_of_lt hk)
        omega
  unfold sgI
  simp only [h0, h1]
/-- Order over one denominator. -/
theorem Rep.cmp {a b : Fq} {N M D : Int} (ha : Rep a N D) (hb : Rep b M D) : cmpF a b = sgI (N - M) := by
  rw [cmpF_v ha.1 hb.1]
  have e : cx a b * D = (N - M) * (a.d * b.d) := by
    unfold cx
    rw [Int.sub_mul, Int.sub_mul]
    have e1 : a.n * b.d * D = N * (a.d * b.d) := by rw [Int.mul_assoc, Int.mul_comm b.d D, ← Int.mul_assoc, ha.2.2, Int.mul_assoc]
    have e2 : b.n * a.d * D = M * (a.d * b.d) := by rw [Int.mul_assoc, Int.mul_comm a.d D, ← Int.mul_assoc, hb.2.2, Int.mul_assoc, Int.mul_comm b.d a.d]
    rw [e1, e2]
  rw [sgn_mul ha.2.1 e, ← sgn_mul (y := N - M) (Int.mul_pos (show 0 < a.d by have := ha.1.1.1; omega) (show 0 < b.d by have := hb.1.1.1; omega)) rfl]
/-- A new fraction that is N over D. -/
theorem rep_new {n d N D : Int} (hd : 0 < d) (hD : 0 < D) (he : n * D = N * d) (hN : N.natAbs ≤ 4611686018427387904) (hD2 : D ≤ 4611686018427387904) (hn : n.natAbs ≤ 9223372036854775807) (hd2 : d ≤ 9223372036854775807) : (newF n d).2 = 0 ∧ Rep (newF n d).1 N D := by
  have hg : 0 < Nat.gcd n.natAbs d.natAbs := Nat.gcd_pos_of_pos_right _ (by omega)
  have hc : Nat.Coprime (n.natAbs / Nat.gcd n.natAbs d.natAbs) (d.natAbs / Nat.gcd n.natAbs d.natAbs) := Nat.coprime_div_gcd_div_gcd hg
  have m1 := Nat.div_mul_cancel (Nat.gcd_dvd_left n.natAbs d.natAbs)
  have m2 := Nat.div_mul_cancel (Nat.gcd_dvd_right n.natAbs d.natAbs)
  have h2 : n.natAbs * D.natAbs = N.natAbs * d.natAbs := by rw [← Int.natAbs_mul, ← Int.natAbs_mul, he]
  have hdp : 0 < d.natAbs / Nat.gcd n.natAbs d.natAbs := Nat.div_pos (Nat.gcd_le_right _ (by omega)) hg
  obtain ⟨p, hp⟩ : ∃ p, n.natAbs / Nat.gcd n.natAbs d.natAbs = p := ⟨_, rfl⟩
  obtain ⟨q, hq⟩ : ∃ q, d.natAbs / Nat.gcd n.natAbs d.natAbs = q := ⟨_, rfl⟩
  rw [hp] at hc m1
  rw [hq] at hc m2 hdp
  obtain ⟨g, hgg⟩ : ∃ g, Nat.gcd n.natAbs d.natAbs = g := ⟨_, rfl⟩
  rw [hgg] at hg m1 m2
  have h3 : p * D.natAbs = N.natAbs * q := by
    rw [← m1, ← m2] at h2
    have : p * D.natAbs * g = N.natAbs * q * g := by
      rw [Nat.mul_assoc, Nat.mul_comm D.natAbs g, ← Nat.mul_assoc, h2, Nat.mul_assoc]
    exact Nat.eq_of_mul_eq_mul_right hg this
  have hqD : q ≤ D.natAbs := Nat.le_of_dvd (by omega) (hc.symm.dvd_of_dvd_mul_left ⟨N.natAbs, by rw [h3, Nat.mul_comm]⟩)
  have hpN : p ≤ N.natAbs := by
    have : p * D.natAbs ≤ N.natAbs * D.natAbs := by rw [h3]; exact Nat.mul_le_mul_left _ hqD
    exact Nat.le_of_mul_le_mul_right this (by omega)
  have hok : newF n d = (⟨if n < 0 then -(p : Int) else (p : Int), (q : Int)⟩, 0) := by
    unfold newF
    rw [if_neg (show ¬ d = 0 by omega), if_neg (by omega), hp, hq, if_neg (by omega), decide_eq_false (show ¬ d < 0 by omega)]
    simp
  have h0 : (newF n d).2 = 0 := by rw [hok]
  refine ⟨h0, vF_newF h0, hD, ?_⟩
  rw [hok]
  simp only
  have hn' : (if n < 0 then -(p : Int) else (p : Int)) * (g : Int) = n := by
    have : ((p * g : Nat) : Int) = (n.natAbs : Int) := by rw [m1]
    rw [Int.natCast_mul] at this
    split
    · rw [Int.neg_mul]; omega
    · omega
  have hd' : (q : Int) * (g : Int) = d := by
    have : ((q * g : Nat) : Int) = (d.natAbs : Int) := by rw [m2]
    rw [Int.natCast_mul] at this
    omega
  have h4 : (if n < 0 then -(p : Int) else (p : Int)) * D * (g : Int) = N * (q : Int) * (g : Int) := by
    rw [Int.mul_assoc, Int.mul_comm D, ← Int.mul_assoc, hn', he, Int.mul_assoc, hd']
  exact Int.eq_of_mul_eq_mul_right (by omega) h4
def addN (a b : Fq) : Fq := (newF (a.n * b.d + b.n * a.d) (a.d * b.d)).1
def mulN (a b : Fq) : Fq := (newF (a.n * b.n) (a.d * b.d)).1
theorem mul_small {x y : Int} (hx : x.natAbs ≤ 1073741824) (hy : y.natAbs ≤ 1073741824) : (x * y).natAbs ≤ 1152921504606846976 := by
  rw [Int.natAbs_mul]
  exact Nat.mul_le_mul hx hy
theorem rep_add {a b : Fq} {N M D : Int} (ha : Rep a N D) (hb : Rep b M D) (hN : N.natAbs ≤ 1073741824) (hM : M.natAbs ≤ 1073741824) (hD : D ≤ 1073741824) : newF (a.n * b.d + b.n * a.d) (a.d * b.d) = (addN a b, 0) ∧ Rep (addN a b) (N + M) D := by
  obtain ⟨a1, a2⟩ := ha.le
  obtain ⟨b1, b2⟩ := hb.le
  have ad := ha.1.1.1
  have bd := hb.1.1.1
  have s1 := mul_small (x := a.n) (y := b.d) (by omega) (by omega)
  have s2 := mul_small (x := b.n) (y := a.d) (by omega) (by omega)
  have s3 := mul_small (x := a.d) (y := b.d) (by omega) (by omega)
  have hp := Int.mul_pos (show 0 < a.d by omega) (show 0 < b.d by omega)
  have e : (a.n * b.d + b.n * a.d) * D = (N + M) * (a.d * b.d) := by
    have e1 : a.n * b.d * D = N * (a.d * b.d) := by rw [Int.mul_assoc, Int.mul_comm b.d D, ← Int.mul_assoc, ha.2.2, Int.mul_assoc]
    have e2 : b.n * a.d * D = M * (a.d * b.d) := by rw [Int.mul_assoc, Int.mul_comm a.d D, ← Int.mul_assoc, hb.2.2, Int.mul_assoc, Int.mul_comm b.d a.d]
    rw [Int.add_mul, Int.add_mul, e1, e2]
  obtain ⟨r1, r2⟩ := rep_new hp ha.2.1 e (by omega) (by omega) (by omega) (by omega)
  exact ⟨Prod.ext rfl r1, r2⟩
theorem rep_mul {a b : Fq} {N M D E : Int} (ha : Rep a N D) (hb : Rep b M E) (hN : N.natAbs ≤ 1073741824) (hM : M.natAbs ≤ 1073741824) (hD : D ≤ 1073741824) (hE : E ≤ 1073741824) : newF (a.n * b.n) (a.d * b.d) = (mulN a b, 0) ∧ Rep (mulN a b) (N * M) (D * E) := by
  obtain ⟨a1, a2⟩ := ha.le
  obtain ⟨b1, b2⟩ := hb.le
  have ad := ha.1.1.1
  have bd := hb.1.1.1
  have d0 := ha.2.1
  have e0 := hb.2.1
  have s1 := mul_small (x := a.n) (y := b.n) (by omega) (by omega)
  have s3 := mul_small (x := a.d) (y := b.d) (by omega) (by omega)
  have s4 := mul_small (x := N) (y := M) hN hM
  have s5 := mul_small (x := D) (y := E) (by omega) (by omega)
  have hp := Int.mul_pos (show 0 < a.d by omega) (show 0 < b.d by omega)
  have hq := Int.mul_pos d0 e0
  have e : (a.n * b.n) * (D * E) = (N * M) * (a.d * b.d) := by
    have e1 : (a.n * b.n) * (D * E) = (a.n * D) * (b.n * E) := by
      rw [Int.mul_assoc, Int.mul_assoc, ← Int.mul_assoc b.n, Int.mul_comm b.n D, Int.mul_assoc D]
    have e2 : (N * M) * (a.d * b.d) = (N * a.d) * (M * b.d) := by
      rw [Int.mul_assoc, Int.mul_assoc, ← Int.mul_assoc M, Int.mul_comm M a.d, Int.mul_assoc a.d]
    rw [e1, e2, ha.2.2, hb.2.2]
  obtain ⟨r1, r2⟩ := rep_new hp hq e (by omega) (by omega) (by omega) (by omega)
  exact ⟨Prod.ext rfl r1, r2⟩
end Go.Proofs.Ythknflclfmnciaa
