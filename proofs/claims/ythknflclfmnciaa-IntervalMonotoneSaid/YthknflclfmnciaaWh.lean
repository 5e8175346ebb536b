
/- The reference of fractions: greatest common divisors and quotients of wide numbers, lowest terms; walked. -/
import Derived.Test.YthknflclfmnciaaWg
namespace Go.Proofs.Ythknflclfmnciaa
open Go.RowKit
set_option linter.unusedVariables false
set_option linter.unusedSimpArgs false

theorem dg_low (z : Int) (h : 0 ≤ z) : ((dgN 8 z).getD 0 0).tmod 2 = z % 2 := by
  show (z % 4294967296).tmod 2 = z % 2
  rw [Int.tmod_eq_emod_of_nonneg (by omega)]
  omega
theorem dg_inj {x y : Int} (hx : 0 ≤ x ∧ x < pw 8) (hy : 0 ≤ y ∧ y < pw 8) (h : dgN 8 x = dgN 8 y) : x = y := by
  rw [← vl_dgN 8 x hx.1 hx.2, ← vl_dgN 8 y hy.1 hy.2, h]
def eq8 (l m : List Int) : Bool :=
  decide (l.getD 0 0 = m.getD 0 0) && (decide (l.getD 1 0 = m.getD 1 0) && (decide (l.getD 2 0 = m.getD 2 0) && (decide (l.getD 3 0 = m.getD 3 0) && (decide (l.getD 4 0 = m.getD 4 0) && (decide (l.getD 5 0 = m.getD 5 0) && (decide (l.getD 6 0 = m.getD 6 0) && (decide (l.getD 7 0 = m.getD 7 0) && true)))))))
theorem eq8_iff {l m : List Int} (hl : l.length = 8) (hm : m.length = 8) : eq8 l m = true ↔ l = m := by
  obtain ⟨a, b, c, d, e, f, g, i, rfl⟩ := eight hl
  obtain ⟨a', b', c', d', e', f', g', i', rfl⟩ := eight hm
  simp [eq8]
theorem eq8_zero {x : Nat} (hx : (x : Int) < pw 8) : (eq8 (dgN 8 (x : Int)) (dgN 8 0) = true → x = 0) ∧ (eq8 (dgN 8 (x : Int)) (dgN 8 0) = false → 0 < x) := by
  constructor
  · intro h
    have := dg_inj (by omega) ⟨by omega, pw_pos 8⟩ ((eq8_iff (dgN_len 8 _) (dgN_len 8 _)).1 h)
    omega
  · intro h
    rcases Nat.eq_zero_or_pos x with h0 | h0
    · subst h0
      have : eq8 (dgN 8 ((0 : Nat) : Int)) (dgN 8 0) = true := (eq8_iff (dgN_len 8 _) (dgN_len 8 _)).2 rfl
      rw [this] at h
      cases h
    · exact h0
theorem gcd_strip {a b G : Nat} (hG : G % 2 = 1) (h : Nat.gcd a b = G) (ha : a % 2 = 0) : Nat.gcd (a / 2) b = G := by
  obtain ⟨c, rfl⟩ : ∃ c, a = 2 * c := ⟨a / 2, by omega⟩
  rw [Nat.mul_div_cancel_left _ (by omega)]
  apply Nat.dvd_antisymm
  · rw [← h]
    exact Nat.dvd_gcd (Nat.dvd_trans (Nat.gcd_dvd_left _ _) (Nat.dvd_mul_left _ _)) (Nat.gcd_dvd_right _ _)
  · refine Nat.dvd_gcd ?_ (h ▸ Nat.gcd_dvd_right _ _)
    have h1 : G ∣ 2 * c := h ▸ Nat.gcd_dvd_left _ _
    have h2 : Nat.Coprime G 2 := by
      show Nat.gcd G 2 = 1
      rw [Nat.gcd_comm, Nat.gcd_rec, hG]
      rfl
    exact h2.dvd_of_dvd_mul_left h1
theorem gcd_strip' {a b G : Nat} (hG : G % 2 = 1) (h : Nat.gcd a b = G) (hb : b % 2 = 0) : Nat.gcd a (b / 2) = G := by
  rw [Nat.gcd_comm] at h ⊢
  exact gcd_strip hG h hb
theorem gcd_odd {a b : Nat} (h : ¬ (a % 2 = 0 ∧ b % 2 = 0)) : Nat.gcd a b % 2 = 1 := by
  rcases Nat.mod_two_eq_zero_or_one (Nat.gcd a b) with h1 | h1
  · have h2 : 2 ∣ Nat.gcd a b := Nat.dvd_of_mod_eq_zero h1
    have h3 := Nat.mod_eq_zero_of_dvd (Nat.dvd_trans h2 (Nat.gcd_dvd_left a b))
    have h4 := Nat.mod_eq_zero_of_dvd (Nat.dvd_trans h2 (Nat.gcd_dvd_right a b))
    exact absurd ⟨h3, h4⟩ h
  · exact h1
theorem pow_le_256 {a t x : Nat} (ha : 0 < a) (h : a * 2 ^ t = x) (hx : x < 2 ^ 256) : t < 256 := by
  have h1 : 2 ^ t ≤ x := by rw [← h]; exact Nat.le_mul_of_pos_left _ ha
  exact (Nat.pow_lt_pow_iff_right (by omega)).1 (Nat.lt_of_le_of_lt h1 hx)
theorem pw8n : pw 8 = ((2 ^ 256 : Nat) : Int) := by decide
set_option maxRecDepth 10000 in
theorem gcdN (x y : Nat) (w : World) (hx : x < 2 ^ 256) (hy : y < 2 ^ 256) : Con Try.prog 102 #[nV (dgN 8 (x : Int)), nV (dgN 8 (y : Int))] w (Ret w (nV (dgN 8 ((Nat.gcd x y : Nat) : Int)))) := by
  have p8 := pw8n
  generalize hM : (2 ^ 256 : Nat) = M at *
  rw [← nS_den (fun _ => none) (dgN 8 (x : Int)), ← nS_den (fun _ => none) (dgN 8 (y : Int))]
  refine enter tabOk mixed Try.func102 rfl Try.ntmps102 Try.results102 [.a (nS (dgN 8 (x : Int))), .a (nS (dgN 8 (y : Int)))] (fun _ => none) [] 0 rfl rfl (hp0 _ _ _) ?_
  ((conv=>whnf);repeat(refine And.intro (by omega) ?_;(conv=>whnf)))
  refine EvCall.plain Try.call78 (.a (nS (dgN 8 0))) rfl (fun ρ W hp => by rw [nS_den]; exact from_s 0 W (by omega)) ?_
  ((conv=>whnf);repeat(refine And.intro (by omega) ?_;(conv=>whnf)))
  refine EvIf.split (fun g1 => ?_) (fun g1 => ?_)
  · have g2 := (eq8_zero (by omega)).1 g1
    subst g2
    rw [Nat.gcd_zero_left]
    ((conv=>whnf);repeat(refine And.intro (by omega) ?_;(conv=>whnf)))
    exact EvRet.ret (fun ρ => nS_den ρ _)
  have gx := (eq8_zero (by omega)).2 g1
  ((conv=>whnf);repeat(refine And.intro (by omega) ?_;(conv=>whnf)))
  refine EvIf.split (fun g3 => ?_) (fun g3 => ?_)
  · have g2 := (eq8_zero (by omega)).1 g3
    subst g2
    rw [Nat.gcd_zero_right]
    ((conv=>whnf);repeat(refine And.intro (by omega) ?_;(conv=>whnf)))
    exact EvRet.ret (fun ρ => nS_den ρ _)
  have gy := (eq8_zero (by omega)).2 g3
  clear g1 g3
  have hodd : ∀ z : Nat, ((dgN 8 (z : Int)).getD 0 0).tmod 2 = ((z % 2 : Nat) : Int) := fun z => by rw [dg_low _ (by omega)]; omega
  have hhalf : ∀ (z : Nat) (W : World), z < M → Con Try.prog 113 #[nV (dgN 8 (z : Int))] W (Ret W (nV (dgN 8 ((z / 2 : Nat) : Int)))) := fun z W hz => halfN (z : Int) W (by omega)
  ((conv=>whnf);repeat(refine And.intro (by omega) ?_;(conv=>whnf)))
  refine EvLoop.inv (α := Nat × Nat × Nat) (fun p => 0 < p.1 ∧ 0 < p.2.1 ∧ p.1 * 2 ^ p.2.2 = x ∧ p.2.1 * 2 ^ p.2.2 = y) (fun p => p.1) (fun p => [(2, [], .p 0 0), (3, [], .p 1 0), (4, [], .p 2 0), (5, [], .p 3 0), (6, [], .v (.int .i64 ((p.2.2 : Int))))])
    (fun p => [⟨0, true, 83, 8, 1, .cs (nS (dgN 8 (p.1 : Int)))⟩, ⟨1, true, 83, 8, 1, .cs (nS (dgN 8 (p.2.1 : Int)))⟩, ⟨2, true, 83, 8, 1, .cs (nS [0, 0, 0, 0, 0, 0, 0, 0])⟩, ⟨3, true, 83, 8, 1, .cs (nS (dgN 8 0))⟩]) 4 (x, y, 0) ⟨gx, gy, by simp, by simp⟩ (Sub.of [] [] rfl ?_) ?_
  · ((repeat' (refine And.intro ?_ ?_)) <;> first | rfl | exact True.intro | omega)
  intro p ⟨pa, pb, ea, eb⟩
  generalize p.1 = a at *
  generalize p.2.1 = b at *
  generalize p.2.2 = t at *
  have ht := pow_le_256 pa ea (by rw [hM]; exact hx)
  have la : a < M := Nat.lt_of_le_of_lt (by rw [← ea]; exact Nat.le_mul_of_pos_right _ (Nat.two_pow_pos _)) hx
  have lb : b < M := Nat.lt_of_le_of_lt (by rw [← eb]; exact Nat.le_mul_of_pos_right _ (Nat.two_pow_pos _)) hy
  ((conv=>whnf);repeat(refine And.intro (by omega) ?_;(conv=>whnf)))
  refine EvIf.split (fun g1 => ?_) (fun g1 => ?_)
  · have g2 : a % 2 = 0 ∧ b % 2 = 0 := by
      simp only [Bool.and_eq_true, decide_eq_true_eq, hodd] at g1
      omega
    obtain ⟨c, rfl⟩ : ∃ c, a = 2 * c := ⟨a / 2, by omega⟩
    obtain ⟨d, rfl⟩ : ∃ d, b = 2 * d := ⟨b / 2, by omega⟩
    ((conv=>whnf);repeat(refine And.intro (by omega) ?_;(conv=>whnf)))
    refine EvCall.plain Try.call113 (.a (nS (dgN 8 (c : Int)))) rfl (fun ρ W hp => by
      have := hhalf (2 * c) W la
      rw [show 2 * c / 2 = c by omega, ← nS_den ρ (dgN 8 ((2 * c : Nat) : Int)), ← nS_den ρ (dgN 8 (c : Int))] at this
      exact this) ?_
    ((conv=>whnf);repeat(refine And.intro (by omega) ?_;(conv=>whnf)))
    refine EvCall.plain Try.call113 (.a (nS (dgN 8 (d : Int)))) rfl (fun ρ W hp => by
      have := hhalf (2 * d) W lb
      rw [show 2 * d / 2 = d by omega, ← nS_den ρ (dgN 8 ((2 * d : Nat) : Int)), ← nS_den ρ (dgN 8 (d : Int))] at this
      exact this) ?_
    ((conv=>whnf);repeat(refine And.intro (by omega) ?_;(conv=>whnf)))
    refine LoopI.back (c, d, t + 1) ⟨by simp only; omega, by simp only; omega, ?_, ?_⟩ (by simp only; omega) (Sub.of [] [] rfl ?_)
    · simp only
      rw [Nat.pow_succ, ← ea, Nat.mul_comm 2 c, Nat.mul_assoc, Nat.mul_comm 2 (2 ^ t)]
    · simp only
      rw [Nat.pow_succ, ← eb, Nat.mul_comm 2 d, Nat.mul_assoc, Nat.mul_comm 2 (2 ^ t)]
    · ((repeat' (refine And.intro ?_ ?_)) <;> first | rfl | exact True.intro | omega)
  have g2 : ¬ (a % 2 = 0 ∧ b % 2 = 0) := by
    simp only [Bool.and_eq_false_iff, decide_eq_false_iff_not, hodd] at g1
    omega
  have hG := gcd_odd g2
  have hxy : Nat.gcd x y = Nat.gcd a b * 2 ^ t := by rw [← ea, ← eb, Nat.gcd_mul_right]
  obtain ⟨G, eG⟩ : ∃ G, Nat.gcd a b = G := ⟨_, rfl⟩
  rw [eG] at hG hxy
  rw [hxy]
  have hlim : G * 2 ^ t < M := by rw [← hxy]; exact Nat.lt_of_le_of_lt (Nat.gcd_le_left _ gx) hx
  clear g1 g2
  ((conv=>whnf);repeat(refine And.intro (by omega) ?_;(conv=>whnf)))
  refine EvLoop.inv (α := Nat × Nat) (fun p => 0 < p.1 ∧ p.1 < M ∧ p.2 < M ∧ Nat.gcd p.1 p.2 = G) (fun p => p.1 + p.2) (fun p => [(2, [], .p 0 0), (3, [], .p 1 0), (4, [], .p 2 0), (5, [], .p 3 0), (6, [], .v (.int .i64 ((t : Int))))])
    (fun p => [⟨0, true, 83, 8, 1, .cs (nS (dgN 8 (p.1 : Int)))⟩, ⟨1, true, 83, 8, 1, .cs (nS (dgN 8 (p.2 : Int)))⟩, ⟨2, true, 83, 8, 1, .cs (nS [0, 0, 0, 0, 0, 0, 0, 0])⟩, ⟨3, true, 83, 8, 1, .cs (nS (dgN 8 0))⟩]) 4 (a, b) ⟨pa, la, lb, eG⟩ (Sub.of [] [] rfl ?_) ?_
  · ((repeat' (refine And.intro ?_ ?_)) <;> first | rfl | exact True.intro | omega)
  clear pa pb ea eb la lb eG
  clear a b
  intro q ⟨pa, la, lb, eG⟩
  generalize q.1 = a at *
  generalize q.2 = b at *
  ((conv=>whnf);repeat(refine And.intro (by omega) ?_;(conv=>whnf)))
  refine EvIf.split (fun g1 => ?_) (fun g1 => ?_)
  · have pb := (eq8_zero (x := b) (by omega)).2 ((Bool.not_eq_true' _).mp g1)
    ((conv=>whnf);repeat(refine And.intro (by omega) ?_;(conv=>whnf)))
    refine EvLoop.inv (α := Nat) (fun p => 0 < p ∧ p ≤ a ∧ Nat.gcd p b = G) (fun p => p) (fun p => [(2, [], .p 0 0), (3, [], .p 1 0), (4, [], .p 2 0), (5, [], .p 3 0), (6, [], .v (.int .i64 ((t : Int))))])
      (fun p => [⟨0, true, 83, 8, 1, .cs (nS (dgN 8 (p : Int)))⟩, ⟨1, true, 83, 8, 1, .cs (nS (dgN 8 (b : Int)))⟩, ⟨2, true, 83, 8, 1, .cs (nS [0, 0, 0, 0, 0, 0, 0, 0])⟩, ⟨3, true, 83, 8, 1, .cs (nS (dgN 8 0))⟩]) 4 a ⟨pa, Nat.le_refl _, eG⟩ (Sub.of [] [] rfl ?_) ?_
    · ((repeat' (refine And.intro ?_ ?_)) <;> first | rfl | exact True.intro | omega)
    intro c ⟨pc, lc, ec⟩
    ((conv=>whnf);repeat(refine And.intro (by omega) ?_;(conv=>whnf)))
    refine EvIf.split (fun g2 => ?_) (fun g2 => ?_)
    · have g3 : c % 2 = 0 := by
        simp only [decide_eq_true_eq, hodd] at g2
        omega
      ((conv=>whnf);repeat(refine And.intro (by omega) ?_;(conv=>whnf)))
      refine EvCall.plain Try.call113 (.a (nS (dgN 8 ((c / 2 : Nat) : Int)))) rfl (fun ρ W hp => by
        have := hhalf c W (by omega)
        rw [← nS_den ρ (dgN 8 (c : Int)), ← nS_den ρ (dgN 8 ((c / 2 : Nat) : Int))] at this
        exact this) ?_
      ((conv=>whnf);repeat(refine And.intro (by omega) ?_;(conv=>whnf)))
      refine LoopI.back (c / 2) ⟨by omega, by omega, gcd_strip hG ec g3⟩ (show c / 2 < c by omega) (Sub.of [] [] rfl ?_)
      ((repeat' (refine And.intro ?_ ?_)) <;> first | rfl | exact True.intro | omega)
    ((conv=>whnf);repeat(refine And.intro (by omega) ?_;(conv=>whnf)))
    refine EvLoop.inv (α := Nat) (fun p => 0 < p ∧ p ≤ b ∧ Nat.gcd c p = G) (fun p => p) (fun p => [(2, [], .p 0 0), (3, [], .p 1 0), (4, [], .p 2 0), (5, [], .p 3 0), (6, [], .v (.int .i64 ((t : Int))))])
      (fun p => [⟨0, true, 83, 8, 1, .cs (nS (dgN 8 (c : Int)))⟩, ⟨1, true, 83, 8, 1, .cs (nS (dgN 8 (p : Int)))⟩, ⟨2, true, 83, 8, 1, .cs (nS [0, 0, 0, 0, 0, 0, 0, 0])⟩, ⟨3, true, 83, 8, 1, .cs (nS (dgN 8 0))⟩]) 4 b ⟨pb, Nat.le_refl _, ec⟩ (Sub.of [] [] rfl ?_) ?_
    · ((repeat' (refine And.intro ?_ ?_)) <;> first | rfl | exact True.intro | omega)
    intro d ⟨pd, ld, ed⟩
    ((conv=>whnf);repeat(refine And.intro (by omega) ?_;(conv=>whnf)))
    refine EvIf.split (fun g3 => ?_) (fun g3 => ?_)
    · have g4 : d % 2 = 0 := by
        simp only [decide_eq_true_eq, hodd] at g3
        omega
      ((conv=>whnf);repeat(refine And.intro (by omega) ?_;(conv=>whnf)))
      refine EvCall.plain Try.call113 (.a (nS (dgN 8 ((d / 2 : Nat) : Int)))) rfl (fun ρ W hp => by
        have := hhalf d W (by omega)
        rw [← nS_den ρ (dgN 8 (d : Int)), ← nS_den ρ (dgN 8 ((d / 2 : Nat) : Int))] at this
        exact this) ?_
      ((conv=>whnf);repeat(refine And.intro (by omega) ?_;(conv=>whnf)))
      refine LoopI.back (d / 2) ⟨by omega, by omega, gcd_strip' hG ed g4⟩ (show d / 2 < d by omega) (Sub.of [] [] rfl ?_)
      ((repeat' (refine And.intro ?_ ?_)) <;> first | rfl | exact True.intro | omega)
    ((conv=>whnf);repeat(refine And.intro (by omega) ?_;(conv=>whnf)))
    have hl := fun ρ W => lessN (c : Int) (d : Int) W (by omega) (by omega)
    refine EvCall.plain Try.call82 (.v (.int .i64 (sgI ((c : Int) - (d : Int))))) rfl (fun ρ W hp => by
      have := lessN (c : Int) (d : Int) W (by omega) (by omega)
      rw [← nS_den ρ (dgN 8 (c : Int)), ← nS_den ρ (dgN 8 (d : Int))] at this
      exact this) ?_
    have s1 := sgI_le ((c : Int) - (d : Int))
    ((conv=>whnf);repeat(refine And.intro (by omega) ?_;(conv=>whnf)))
    refine EvIf.split (fun g5 => ?_) (fun g5 => ?_)
    · have g6 : d < c := by simp only [decide_eq_true_eq] at g5; omega
      ((conv=>whnf);repeat(refine And.intro (by omega) ?_;(conv=>whnf)))
      refine EvCall.plain Try.call83 (.a (nS (dgN 8 ((c - d : Nat) : Int)))) rfl (fun ρ W hp => by
        have := minusN (c : Int) (d : Int) W (by omega) (by omega) (by omega)
        rw [show (c : Int) - (d : Int) = ((c - d : Nat) : Int) by omega, ← nS_den ρ (dgN 8 (c : Int)), ← nS_den ρ (dgN 8 (d : Int)), ← nS_den ρ (dgN 8 ((c - d : Nat) : Int))] at this
        exact this) ?_
      ((conv=>whnf);repeat(refine And.intro (by omega) ?_;(conv=>whnf)))
      refine LoopI.back (d, c - d) ⟨by simp only; omega, by simp only; omega, by simp only; omega, ?_⟩ (by simp only; omega) (Sub.of [] [] rfl ?_)
      · simp only
        rw [Nat.gcd_sub_self_right (by omega), Nat.gcd_comm]
        exact ed
      · ((repeat' (refine And.intro ?_ ?_)) <;> first | rfl | exact True.intro | omega)
    · have g6 : c ≤ d := by simp only [decide_eq_false_iff_not] at g5; omega
      ((conv=>whnf);repeat(refine And.intro (by omega) ?_;(conv=>whnf)))
      refine EvCall.plain Try.call83 (.a (nS (dgN 8 ((d - c : Nat) : Int)))) rfl (fun ρ W hp => by
        have := minusN (d : Int) (c : Int) W (by omega) (by omega) (by omega)
        rw [show (d : Int) - (c : Int) = ((d - c : Nat) : Int) by omega, ← nS_den ρ (dgN 8 (c : Int)), ← nS_den ρ (dgN 8 (d : Int)), ← nS_den ρ (dgN 8 ((d - c : Nat) : Int))] at this
        exact this) ?_
      ((conv=>whnf);repeat(refine And.intro (by omega) ?_;(conv=>whnf)))
      refine LoopI.back (c, d - c) ⟨by simp only; omega, by simp only; omega, by simp only; omega, ?_⟩ (by simp only; omega) (Sub.of [] [] rfl ?_)
      · simp only
        rw [Nat.gcd_sub_self_right (by omega)]
        exact ed
      · ((repeat' (refine And.intro ?_ ?_)) <;> first | rfl | exact True.intro | omega)
  have pb := (eq8_zero (x := b) (by omega)).1 ((Bool.not_eq_false' _).mp g1)
  subst pb
  rw [Nat.gcd_zero_right] at eG
  subst eG
  clear g1
  ((conv=>whnf);repeat(refine And.intro (by omega) ?_;(conv=>whnf)))
  refine EvLoop.inv (α := Nat) (fun i => i ≤ t) (fun i => t - i) (fun i => [(2, [], .p 0 0), (3, [], .p 1 0), (4, [], .p 2 0), (5, [], .p 3 0), (6, [], .v (.int .i64 ((t : Int)))), (7, [], .v (.int .i64 ((i : Int))))])
    (fun i => [⟨0, true, 83, 8, 1, .cs (nS (dgN 8 ((a * 2 ^ i : Nat) : Int)))⟩, ⟨2, true, 83, 8, 1, .cs (nS [0, 0, 0, 0, 0, 0, 0, 0])⟩]) 4 0 (Nat.zero_le _) (Sub.of [] [] rfl ?_) ?_
  · rw [Nat.pow_zero, Nat.mul_one]
    ((repeat' (refine And.intro ?_ ?_)) <;> first | rfl | exact True.intro | omega)
  intro i hi
  ((conv=>whnf);repeat(refine And.intro (by omega) ?_;(conv=>whnf)))
  refine EvIf.split (fun g1 => ?_) (fun g1 => ?_)
  · have g2 : i < t := by have := of_decide_eq_true g1; omega
    have hle : a * 2 ^ (i + 1) ≤ a * 2 ^ t := Nat.mul_le_mul_left _ (Nat.pow_le_pow_right (by omega) (by omega))
    have he : a * 2 ^ (i + 1) = a * 2 ^ i + a * 2 ^ i := by rw [Nat.pow_succ, ← Nat.mul_assoc]; omega
    ((conv=>whnf);repeat(refine And.intro (by omega) ?_;(conv=>whnf)))
    refine EvCall.plain Try.call81 (.a (nS (dgN 8 ((a * 2 ^ (i + 1) : Nat) : Int)))) rfl (fun ρ W hp => by
      have := plusN ((a * 2 ^ i : Nat) : Int) ((a * 2 ^ i : Nat) : Int) W (Int.natCast_nonneg _) (Int.natCast_nonneg _) (by rw [← Int.natCast_add, ← he]; omega)
      rw [← Int.natCast_add, ← he, ← nS_den ρ (dgN 8 ((a * 2 ^ i : Nat) : Int)), ← nS_den ρ (dgN 8 ((a * 2 ^ (i + 1) : Nat) : Int))] at this
      exact this) ?_
    ((conv=>whnf);repeat(refine And.intro (by omega) ?_;(conv=>whnf)))
    refine LoopI.back (i + 1) (by omega) (by omega) (Sub.of [] [] rfl ?_)
    ((repeat' (refine And.intro ?_ ?_)) <;> first | rfl | exact True.intro | omega)
  · have g2 : i = t := by have := of_decide_eq_false g1; omega
    subst g2
    ((conv=>whnf);repeat(refine And.intro (by omega) ?_;(conv=>whnf)))
    exact EvRet.ret (fun ρ => nS_den ρ _)
theorem two_mul_pow (y k : Nat) : y * 2 ^ (k + 1) = y * 2 ^ k + y * 2 ^ k := by rw [Nat.pow_succ, ← Nat.mul_assoc]; omega
/-- The quotient, if it is one word. -/
def ovr (x y : Nat) : Nat := if x / y < 18446744073709551616 then x / y else 0
set_option maxRecDepth 10000 in
theorem overN (x y : Nat) (w : World) (hx : x < 2 ^ 200) (hy : 0 < y) (hy2 : y < 2 ^ 200) : Con Try.prog 103 #[nV (dgN 8 (x : Int)), nV (dgN 8 (y : Int))] w (Ret w (.tuple #[.int .u64 ((ovr x y : Nat) : Int), .bool (decide (x / y < 18446744073709551616))])) := by
  have p8 := pw8n
  have hMN : (2 ^ 200 : Nat) * 4 ≤ 2 ^ 256 := by decide
  generalize hM : (2 ^ 256 : Nat) = M at *
  generalize hN : (2 ^ 200 : Nat) = N at *
  clear hM hN
  rw [← nS_den (fun _ => none) (dgN 8 (x : Int)), ← nS_den (fun _ => none) (dgN 8 (y : Int))]
  refine enter tabOk mixed Try.func103 rfl Try.ntmps103 Try.results103 [.a (nS (dgN 8 (x : Int))), .a (nS (dgN 8 (y : Int)))] (fun _ => none) [] 0 rfl rfl (hp0 _ _ _) ?_
  ((conv=>whnf);repeat(refine And.intro (by omega) ?_;(conv=>whnf)))
  refine EvLoop.inv (α := Nat) (fun k => k ≤ 65 ∧ y * 2 ^ k < 2 * N ∧ (0 < k → y * 2 ^ (k - 1) ≤ x)) (fun k => 65 - k) (fun k => [(2, [], .p 0 0), (3, [], .p 1 0), (4, [], .v (.int .u64 0)), (5, [], .v (.bool (false))), (6, [], .p 2 0), (7, [], .v (.int .i64 ((k : Int))))])
    (fun k => [⟨0, true, 83, 8, 1, .cs (nS (dgN 8 (x : Int)))⟩, ⟨2, true, 83, 8, 1, .cs (nS (dgN 8 ((y * 2 ^ k : Nat) : Int)))⟩]) 3 0 ⟨by omega, by rw [Nat.pow_zero, Nat.mul_one]; omega, by omega⟩ (Sub.of [] [] rfl ?_) ?_
  · rw [Nat.pow_zero, Nat.mul_one]
    ((repeat' (refine And.intro ?_ ?_)) <;> first | rfl | exact True.intro | omega)
  intro k ⟨hk, hs, hle⟩
  obtain ⟨S, hS⟩ : ∃ S, y * 2 ^ k = S := ⟨_, rfl⟩
  rw [hS] at hs
  rw [hS]
  have hless := fun W => lessN (S : Int) (x : Int) W (by omega) (by omega)
  have s1 := sgI_le ((S : Int) - (x : Int))
  ((conv=>whnf);repeat(refine And.intro (by omega) ?_;(conv=>whnf)))
  refine EvCall.plain Try.call82 (.v (.int .i64 (sgI ((S : Int) - (x : Int))))) rfl (fun ρ W hp => by
    have := hless W
    rw [← nS_den ρ (dgN 8 (x : Int)), ← nS_den ρ (dgN 8 (S : Int))] at this
    exact this) ?_
  ((conv=>whnf);repeat(refine And.intro (by omega) ?_;(conv=>whnf)))
  refine EvIf.split (fun g1 => ?_) (fun g1 => ?_)
  · have g2 : S ≤ x ∧ k < 65 := by
      simp only [Bool.and_eq_true, decide_eq_true_eq] at g1
      omega
    have he := two_mul_pow y k
    rw [hS] at he
    ((conv=>whnf);repeat(refine And.intro (by omega) ?_;(conv=>whnf)))
    refine EvCall.plain Try.call81 (.a (nS (dgN 8 ((y * 2 ^ (k + 1) : Nat) : Int)))) rfl (fun ρ W hp => by
      have := plusN (S : Int) (S : Int) W (by omega) (by omega) (by omega)
      rw [← Int.natCast_add, ← he, ← nS_den ρ (dgN 8 (S : Int)), ← nS_den ρ (dgN 8 ((y * 2 ^ (k + 1) : Nat) : Int))] at this
      exact this) ?_
    ((conv=>whnf);repeat(refine And.intro (by omega) ?_;(conv=>whnf)))
    refine LoopI.back (k + 1) ⟨by omega, by rw [he]; omega, fun _ => ?_⟩ (by omega) (Sub.of [] [] rfl ?_)
    · rw [Nat.add_sub_cancel, hS]; exact g2.1
    · ((repeat' (refine And.intro ?_ ?_)) <;> first | rfl | exact True.intro | omega)
  ((conv=>whnf);repeat(refine And.intro (by omega) ?_;(conv=>whnf)))
  refine EvIf.split (fun g2 => ?_) (fun g2 => ?_)
  · have g3 : k = 65 := by simp only [decide_eq_true_eq] at g2; omega
    subst g3
    have g4 : 18446744073709551616 ≤ x / y := (Nat.le_div_iff_mul_le hy).2 (by rw [Nat.mul_comm]; exact hle (by omega))
    have e1 : ovr x y = 0 := by unfold ovr; rw [if_neg (by omega)]
    have e2 : decide (x / y < 18446744073709551616) = false := decide_eq_false (by omega)
    rw [e1, e2]
    ((conv=>whnf);repeat(refine And.intro (by omega) ?_;(conv=>whnf)))
    exact EvRet.ret (fun ρ => rfl)
  have g3 : k ≤ 64 := by simp only [decide_eq_false_iff_not] at g2; omega
  have g4 : x < S := by
    simp only [Bool.and_eq_false_iff, decide_eq_false_iff_not] at g1
    omega
  have g5 : x / y < 18446744073709551616 := by
    refine (Nat.div_lt_iff_lt_mul hy).2 (Nat.lt_of_lt_of_le g4 ?_)
    rw [← hS, Nat.mul_comm 18446744073709551616]
    exact Nat.mul_le_mul_left _ (Nat.pow_le_pow_right (n := 2) (j := 64) (by omega) g3)
  have e1 : ovr x y = x / y := by unfold ovr; rw [if_pos g5]
  rw [e1, decide_eq_true g5]
  clear e1 g1 g2 hle s1 hless
  have hS2 : y * 2 ^ (k - 0) = S := hS
  ((conv=>whnf);repeat(refine And.intro (by omega) ?_;(conv=>whnf)))
  refine EvLoop.inv (α := Nat × Nat × Nat) (fun p => p.1 ≤ k ∧ p.2.1 < y * 2 ^ (k - p.1) ∧ p.2.1 + p.2.2 * (y * 2 ^ (k - p.1)) = x ∧ p.2.2 < 2 ^ p.1 ∧ y * 2 ^ (k - p.1) ≤ S) (fun p => k - p.1) (fun p => [(2, [], .p 0 0), (3, [], .p 1 0), (4, [], .v (.int .u64 0)), (5, [], .v (.bool (false))), (6, [], .p 2 0), (7, [], .v (.int .i64 ((k : Int)))), (8, [], .v (.int .u64 (p.2.2 : Int))), (9, [], .v (.int .i64 ((p.1 : Int))))])
    (fun p => [⟨0, true, 83, 8, 1, .cs (nS (dgN 8 (p.2.1 : Int)))⟩, ⟨2, true, 83, 8, 1, .cs (nS (dgN 8 ((y * 2 ^ (k - p.1) : Nat) : Int)))⟩]) 3 (0, x, 0) ⟨Nat.zero_le _, by simp only; rw [hS2]; exact g4, by simp, by simp, by simp only; rw [hS2]; exact Nat.le_refl _⟩ (Sub.of [] [] rfl ?_) ?_
  · simp only
    rw [hS2]
    ((repeat' (refine And.intro ?_ ?_)) <;> first | rfl | exact True.intro | omega)
  intro p ⟨q1, q2, q3, q4, q5⟩
  generalize p.1 = i at *
  generalize p.2.1 = a at *
  generalize p.2.2 = n at *
  ((conv=>whnf);repeat(refine And.intro (by omega) ?_;(conv=>whnf)))
  refine EvIf.split (fun g1 => ?_) (fun g1 => ?_)
  · have g2 : i < k := by simp only [decide_eq_true_eq] at g1; omega
    obtain ⟨j, hj⟩ : ∃ j, k - i = j + 1 := ⟨k - i - 1, by omega⟩
    have hj2 : k - (i + 1) = j := by omega
    have he := two_mul_pow y j
    rw [hj] at q2 q3 q5
    rw [hj]
    rw [he] at q2 q3 q5
    have hn : n < 9223372036854775808 := Nat.lt_of_lt_of_le q4 (Nat.pow_le_pow_right (n := 2) (j := 63) (by omega) (by omega))
    have hn2 : 2 * n + 1 < 2 ^ (i + 1) := by rw [Nat.pow_succ]; omega
    obtain ⟨R, hR⟩ : ∃ R, y * 2 ^ j = R := ⟨_, rfl⟩
    rw [he, hR]
    rw [hR] at q2 q3 q5
    have w1 : IntKind.u64.wrap (2 * (n : Int)) = 2 * (n : Int) := u64_in _ (by omega)
    have w2 : IntKind.u64.wrap (2 * (n : Int) + 1) = 2 * (n : Int) + 1 := u64_in _ (by omega)
    have q6 : n * (R + R) = 2 * n * R := by rw [Nat.mul_add, Nat.mul_comm 2 n, Nat.mul_assoc, Nat.two_mul, Nat.mul_add]
    ((conv=>whnf);repeat(refine And.intro (by omega) ?_;(conv=>whnf)))
    refine EvCall.plain Try.call113 (.a (nS (dgN 8 (R : Int)))) rfl (fun ρ W hp => by
      have := halfN ((R + R : Nat) : Int) W (by omega)
      rw [show ((R + R : Nat) : Int) / 2 = (R : Int) by omega, ← nS_den ρ (dgN 8 ((R + R : Nat) : Int)), ← nS_den ρ (dgN 8 (R : Int))] at this
      exact this) ?_
    ((conv=>whnf);repeat(refine And.intro (by omega) ?_;(conv=>whnf)))
    have s1 := sgI_le ((R : Int) - (a : Int))
    refine EvCall.plain Try.call82 (.v (.int .i64 (sgI ((R : Int) - (a : Int))))) rfl (fun ρ W hp => by
      have := lessN (R : Int) (a : Int) W (by omega) (by omega)
      rw [← nS_den ρ (dgN 8 (R : Int)), ← nS_den ρ (dgN 8 (a : Int))] at this
      exact this) ?_
    ((conv=>whnf);repeat(refine And.intro (by omega) ?_;(conv=>whnf)))
    refine EvIf.split (fun g5 => ?_) (fun g5 => ?_)
    · have g6 : R ≤ a := by simp only [decide_eq_true_eq] at g5; omega
      ((conv=>whnf);repeat(refine And.intro (by omega) ?_;(conv=>whnf)))
      refine EvCall.plain Try.call83 (.a (nS (dgN 8 ((a - R : Nat) : Int)))) rfl (fun ρ W hp => by
        have := minusN (a : Int) (R : Int) W (by omega) (by omega) (by omega)
        rw [show (a : Int) - (R : Int) = ((a - R : Nat) : Int) by omega, ← nS_den ρ (dgN 8 (a : Int)), ← nS_den ρ (dgN 8 (R : Int)), ← nS_den ρ (dgN 8 ((a - R : Nat) : Int))] at this
        exact this) ?_
      ((conv=>whnf);repeat(refine And.intro (by omega) ?_;(conv=>whnf)))
      rw [w1, w2]
      refine LoopI.back (i + 1, a - R, 2 * n + 1) ⟨by simp only; omega, ?_, ?_, hn2, ?_⟩ (by simp only; omega) (Sub.of [] [] rfl ?_)
      · simp only; rw [hj2, hR]; omega
      · simp only; rw [hj2, hR, Nat.succ_mul]; omega
      · simp only; rw [hj2, hR]; omega
      · simp only
        rw [hj2, hR]
        ((repeat' (refine And.intro ?_ ?_)) <;> first | rfl | exact True.intro | omega)
    · have g6 : a < R := by simp only [decide_eq_false_iff_not] at g5; omega
      ((conv=>whnf);repeat(refine And.intro (by omega) ?_;(conv=>whnf)))
      rw [w1]
      refine LoopI.back (i + 1, a, 2 * n) ⟨by simp only; omega, ?_, ?_, Nat.lt_of_succ_lt hn2, ?_⟩ (by simp only; omega) (Sub.of [] [] rfl ?_)
      · simp only; rw [hj2, hR]; omega
      · simp only; rw [hj2, hR]; omega
      · simp only; rw [hj2, hR]; omega
      · simp only
        rw [hj2, hR]
        ((repeat' (refine And.intro ?_ ?_)) <;> first | rfl | exact True.intro | omega)
  have g2 : i = k := by simp only [decide_eq_false_iff_not] at g1; omega
  subst g2
  rw [Nat.sub_self, Nat.pow_zero, Nat.mul_one] at q2 q3
  have g6 : x / y = n := by
    rw [← q3, Nat.mul_comm, Nat.add_mul_div_left _ _ hy, Nat.div_eq_of_lt q2, Nat.zero_add]
  rw [g6]
  ((conv=>whnf);repeat(refine And.intro (by omega) ?_;(conv=>whnf)))
  exact EvRet.ret (fun ρ => rfl)
set_option maxRecDepth 10000 in
theorem lowestN (neg : Bool) (x y : Nat) (w : World) (hx : x < 2 ^ 200) (hy : 0 < y) (hy2 : y < 2 ^ 200) : Con Try.prog 80 #[.bool neg, nV (dgN 8 (x : Int)), nV (dgN 8 (y : Int))] w (Ret w (feV (redF (if neg then -(x : Int) else (x : Int)) (y : Int)))) := by
  have hg := gcdN x y
  have hgp : 0 < Nat.gcd x y := Nat.gcd_pos_of_pos_right _ hy
  have hgl : Nat.gcd x y ≤ y := Nat.gcd_le_right _ hy
  have hred : redF (if neg then -(x : Int) else (x : Int)) (y : Int) = if 4611686018427387904 < x / Nat.gcd x y ∨ 4611686018427387904 < y / Nat.gcd x y then (fr0, 5) else (⟨if neg then -((x / Nat.gcd x y : Nat) : Int) else ((x / Nat.gcd x y : Nat) : Int), ((y / Nat.gcd x y : Nat) : Int)⟩, 0) := by
    cases neg with
    | true =>
      unfold redF
      simp only [if_true, Int.natAbs_neg, Int.natAbs_natCast]
      split
      · rfl
      · rcases Nat.eq_zero_or_pos x with h | h
        · subst h; simp
        · rw [if_pos (by omega)]
    | false =>
      unfold redF
      simp only [Bool.false_eq_true, if_false, Int.natAbs_natCast]
      split
      · rfl
      · rw [if_neg (by omega)]
  rw [hred]
  obtain ⟨g, eg⟩ : ∃ g, Nat.gcd x y = g := ⟨_, rfl⟩
  rw [eg] at hg hgp hgl
  rw [eg]
  have o1 := fun W => overN x g W hx hgp (Nat.lt_of_le_of_lt hgl hy2)
  have o2 := fun W => overN y g W hy2 hgp (Nat.lt_of_le_of_lt hgl hy2)
  have hg' := fun W => hg W (Nat.lt_trans hx (by decide)) (Nat.lt_trans hy2 (by decide))
  have v1 : ovr x g = if x / g < 18446744073709551616 then x / g else 0 := rfl
  have v2 : ovr y g = if y / g < 18446744073709551616 then y / g else 0 := rfl
  clear hred hg hx hy2 hgl
  generalize ovr x g = n at *
  generalize ovr y g = d at *
  generalize x / g = X at *
  generalize y / g = Y at *
  rw [← nS_den (fun _ => none) (dgN 8 (x : Int)), ← nS_den (fun _ => none) (dgN 8 (y : Int))]
  refine enter tabOk mixed Try.func80 rfl Try.ntmps80 Try.results80 [.v (.bool neg), .a (nS (dgN 8 (x : Int))), .a (nS (dgN 8 (y : Int)))] (fun _ => none) [] 0 rfl rfl (hp0 _ _ _) ?_
  ((conv=>whnf);repeat(refine And.intro (by omega) ?_;(conv=>whnf)))
  refine EvCall.plain Try.call102 (.a (nS (dgN 8 (g : Int)))) rfl (fun ρ W hp => by
    have := hg' W
    rw [← nS_den ρ (dgN 8 (x : Int)), ← nS_den ρ (dgN 8 (y : Int)), ← nS_den ρ (dgN 8 (g : Int))] at this
    exact this) ?_
  ((conv=>whnf);repeat(refine And.intro (by omega) ?_;(conv=>whnf)))
  refine EvCall.plain Try.call103 (.t [.v (.int .u64 (n : Int)), .v (.bool (decide (X < 18446744073709551616)))]) rfl (fun ρ W hp => by
    have := o1 W
    rw [← nS_den ρ (dgN 8 (x : Int)), ← nS_den ρ (dgN 8 (g : Int))] at this
    exact this) ?_
  ((conv=>whnf);repeat(refine And.intro (by omega) ?_;(conv=>whnf)))
  refine EvCall.plain Try.call103 (.t [.v (.int .u64 (d : Int)), .v (.bool (decide (Y < 18446744073709551616)))]) rfl (fun ρ W hp => by
    have := o2 W
    rw [← nS_den ρ (dgN 8 (y : Int)), ← nS_den ρ (dgN 8 (g : Int))] at this
    exact this) ?_
  ((conv=>whnf);repeat(refine And.intro (by omega) ?_;(conv=>whnf)))
  refine EvIf.split (fun g1 => ?_) (fun g1 => ?_)
  · have g2 : 4611686018427387904 < X ∨ 4611686018427387904 < Y := by
      simp only [Bool.or_eq_true, Bool.not_eq_true', decide_eq_true_eq, decide_eq_false_iff_not] at g1
      split at v1 <;> split at v2 <;> omega
    rw [if_pos g2]
    ((conv=>whnf);repeat(refine And.intro (by omega) ?_;(conv=>whnf)))
    exact EvRet.ret (fun ρ => rfl)
  have g2 : ¬ (4611686018427387904 < X ∨ 4611686018427387904 < Y) ∧ n = X ∧ d = Y := by
    simp only [Bool.or_eq_false_iff, Bool.not_eq_false', decide_eq_true_eq, decide_eq_false_iff_not] at g1
    rw [if_pos (by omega)] at v1 v2
    omega
  rw [if_neg g2.1]
  obtain ⟨g3, rfl, rfl⟩ := g2
  have wn := i64_in (n : Int) (by omega)
  have wd := i64_in (d : Int) (by omega)
  clear v1 v2
  ((conv=>whnf);repeat(refine And.intro (by omega) ?_;(conv=>whnf)))
  cases neg with
  | true =>
    refine EvIf.pos rfl ?_
    ((conv=>whnf);repeat(refine And.intro (by omega) ?_;(conv=>whnf)))
    exact EvRet.ret (fun ρ => by simp [den, denL, wn, wd, feV, fV])
  | false =>
    refine EvIf.neg rfl ?_
    ((conv=>whnf);repeat(refine And.intro (by omega) ?_;(conv=>whnf)))
    exact EvRet.ret (fun ρ => by simp [den, denL, wn, wd, feV, fV])
end Go.Proofs.Ythknflclfmnciaa
