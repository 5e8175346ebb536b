
/- Sums of fractions in plain words: what is left when common divisors are taken out. No program in sight. -/
import Derived.Test.YthknflclfmnciaaVa
namespace Go.Proofs.Ythknflclfmnciaa
open Go.RowKit
set_option linter.unusedVariables false
set_option linter.unusedSimpArgs false

theorem cop_add {m k : Int} {d : Nat} (h : Nat.Coprime m.natAbs d) (hk : (d : Int) ∣ k) : Nat.Coprime (m + k).natAbs d := by
  have h1 : Nat.gcd (m + k).natAbs d ∣ m.natAbs := by
    have a1 : ((Nat.gcd (m + k).natAbs d : Nat) : Int) ∣ m + k := Int.ofNat_dvd_left.2 (Nat.gcd_dvd_left _ _)
    have a2 : ((Nat.gcd (m + k).natAbs d : Nat) : Int) ∣ k := Int.dvd_trans (Int.ofNat_dvd.2 (Nat.gcd_dvd_right _ _)) hk
    have a3 : ((Nat.gcd (m + k).natAbs d : Nat) : Int) ∣ m := by
      have := Int.dvd_sub a1 a2
      rwa [show m + k - k = m by omega] at this
    exact Int.ofNat_dvd_left.1 a3
  have h2 : Nat.gcd (m + k).natAbs d ∣ d := Nat.gcd_dvd_right _ _
  have h3 : Nat.gcd (m + k).natAbs d ∣ Nat.gcd m.natAbs d := Nat.dvd_gcd h1 h2
  rw [h] at h3
  exact Nat.dvd_one.1 h3
/-- The parts of a sum. -/
theorem add_parts {a b : Fq} (ha : vF a) (hb : vF b) : ∃ (g : Nat) (a1 b1 S : Int) (h : Nat) (p e : Int), g = Nat.gcd a.d.natAbs b.d.natAbs ∧ 0 < g ∧ a1 = a.d.tdiv g ∧ b1 = b.d.tdiv g ∧ a.d = g * a1 ∧ b.d = g * b1 ∧ 0 < a1 ∧ 0 < b1 ∧
    S = a.n * b1 + b.n * a1 ∧ h = Nat.gcd S.natAbs g ∧ 0 < h ∧ h ∣ g ∧ S = h * p ∧ b.d = h * e ∧ 0 < e ∧ Nat.gcd p.natAbs (a1 * e).natAbs = 1 ∧
    a.n * b.d + b.n * a.d = ((g * h : Nat) : Int) * p ∧ a.d * b.d = ((g * h : Nat) : Int) * (a1 * e) := by
  obtain ⟨⟨ad, _⟩, _, ga⟩ := ha
  obtain ⟨⟨bd, _⟩, _, gb⟩ := hb
  have p1 : 0 < Nat.gcd a.d.natAbs b.d.natAbs := Nat.gcd_pos_of_pos_right _ (by omega)
  have q1 : ((Nat.gcd a.d.natAbs b.d.natAbs : Nat) : Int) ∣ a.d := Int.ofNat_dvd_left.2 (Nat.gcd_dvd_left _ _)
  have q2 : ((Nat.gcd a.d.natAbs b.d.natAbs : Nat) : Int) ∣ b.d := Int.ofNat_dvd_left.2 (Nat.gcd_dvd_right _ _)
  have r1 := (Int.mul_tdiv_cancel' q1).symm
  have r2 := (Int.mul_tdiv_cancel' q2).symm
  have c1 := Nat.coprime_div_gcd_div_gcd p1
  have n1 : (a.d.tdiv (Nat.gcd a.d.natAbs b.d.natAbs : Nat)).natAbs = a.d.natAbs / Nat.gcd a.d.natAbs b.d.natAbs := by rw [Int.natAbs_tdiv]; rfl
  have n2 : (b.d.tdiv (Nat.gcd a.d.natAbs b.d.natAbs : Nat)).natAbs = b.d.natAbs / Nat.gcd a.d.natAbs b.d.natAbs := by rw [Int.natAbs_tdiv]; rfl
  rw [← n1, ← n2] at c1
  have m1 : (a.d.tdiv (Nat.gcd a.d.natAbs b.d.natAbs : Nat)).natAbs ∣ a.d.natAbs := by rw [n1]; exact Nat.div_dvd_of_dvd (Nat.gcd_dvd_left _ _)
  have m2 : (b.d.tdiv (Nat.gcd a.d.natAbs b.d.natAbs : Nat)).natAbs ∣ b.d.natAbs := by rw [n2]; exact Nat.div_dvd_of_dvd (Nat.gcd_dvd_right _ _)
  clear n1 n2
  obtain ⟨g, hg⟩ : ∃ g, Nat.gcd a.d.natAbs b.d.natAbs = g := ⟨_, rfl⟩
  rw [hg] at p1 r1 r2 c1 m1 m2
  obtain ⟨a1, ha1⟩ : ∃ z, a.d.tdiv (g : Int) = z := ⟨_, rfl⟩
  obtain ⟨b1, hb1⟩ : ∃ z, b.d.tdiv (g : Int) = z := ⟨_, rfl⟩
  rw [ha1] at r1 c1 m1
  rw [hb1] at r2 c1 m2
  have hpos : ∀ (g : Nat) (x y : Int), 0 < y → y = g * x → 0 < x := fun g x y hy he => by
    rcases Int.lt_or_le 0 x with h | h
    · exact h
    · have := Int.mul_nonpos_of_nonneg_of_nonpos (show (0 : Int) ≤ (g : Int) by omega) h
      omega
  have a1p := hpos _ _ _ (by omega) r1
  have b1p := hpos _ _ _ (by omega) r2
  obtain ⟨S, hS⟩ : ∃ S, a.n * b1 + b.n * a1 = S := ⟨_, rfl⟩
  have ph : 0 < Nat.gcd S.natAbs g := Nat.gcd_pos_of_pos_right _ p1
  have dS : ((Nat.gcd S.natAbs g : Nat) : Int) ∣ S := Int.ofNat_dvd_left.2 (Nat.gcd_dvd_left _ _)
  have dg : Nat.gcd S.natAbs g ∣ g := Nat.gcd_dvd_right _ _
  have cS := Nat.coprime_div_gcd_div_gcd ph
  obtain ⟨h, hh⟩ : ∃ h, Nat.gcd S.natAbs g = h := ⟨_, rfl⟩
  rw [hh] at ph dS dg cS
  obtain ⟨p, hp⟩ := dS
  obtain ⟨k, hk⟩ := dg
  have ep : S.natAbs / h = p.natAbs := by rw [hp, Int.natAbs_mul]; exact Nat.mul_div_cancel_left _ ph
  have ek : g / h = k := by rw [hk]; exact Nat.mul_div_cancel_left _ ph
  rw [ep, ek] at cS
  have eb : b.d = h * ((k : Int) * b1) := by rw [r2, hk, Int.natCast_mul, Int.mul_assoc]
  refine ⟨g, a1, b1, S, h, p, (k : Int) * b1, hg.symm, p1, ha1.symm, hb1.symm, r1, r2, a1p, b1p, hS.symm, hh.symm, ph, ⟨k, hk⟩, hp, eb, hpos _ _ _ (by omega) eb, ?_, ?_, ?_⟩
  · have pS : p.natAbs ∣ S.natAbs := ⟨h, by rw [hp, Int.natAbs_mul, Nat.mul_comm]; rfl⟩
    have u1 : Nat.Coprime S.natAbs a1.natAbs := by
      rw [← hS]
      refine cop_add ?_ (Int.dvd_trans (Int.natAbs_dvd.2 (Int.dvd_refl a1)) (Int.dvd_mul_left _ _))
      rw [Int.natAbs_mul]
      exact Nat.Coprime.mul_left (Nat.Coprime.coprime_dvd_right m1 ga) c1.symm
    have u2 : Nat.Coprime S.natAbs b1.natAbs := by
      rw [← hS, Int.add_comm]
      refine cop_add ?_ (Int.dvd_trans (Int.natAbs_dvd.2 (Int.dvd_refl b1)) (Int.dvd_mul_left _ _))
      rw [Int.natAbs_mul]
      exact Nat.Coprime.mul_left (Nat.Coprime.coprime_dvd_right m2 gb) c1
    rw [Int.natAbs_mul, Int.natAbs_mul]
    exact Nat.Coprime.mul_right (Nat.Coprime.coprime_dvd_left pS u1) (Nat.Coprime.mul_right cS (Nat.Coprime.coprime_dvd_left pS u2))
  · have : a.n * b.d + b.n * a.d = g * S := by
      rw [← hS, r1, r2, Int.mul_add, ← Int.mul_assoc a.n, Int.mul_comm a.n, Int.mul_assoc, ← Int.mul_assoc b.n, Int.mul_comm b.n, Int.mul_assoc]
    rw [this, hp, Int.natCast_mul, Int.mul_assoc]
  · have e1 : a.d * b.d = (g * a1) * (h * ((k : Int) * b1)) := by rw [← r1, ← eb]
    rw [e1, mul_mul_four, Int.natCast_mul]
end Go.Proofs.Ythknflclfmnciaa
