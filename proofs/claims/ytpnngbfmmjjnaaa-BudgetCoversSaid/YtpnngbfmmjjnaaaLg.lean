
/- Lossy steps: what Retain keeps. No program in sight. -/
import Derived.Test.YtpnngbfmmjjnaaaLf
import Derived.Test.YtpnngbfmmjjnaaaFp
namespace Go.Proofs.Ytpnngbfmmjjnaaa
open Go.RowKit
set_option linter.unusedVariables false
set_option linter.unusedSimpArgs false

theorem lowV_nx {d : Dc} {s t : Int} (x : Int) (h : s ≤ t) : lowV d s (t + 1) x = lowV d s t x + d.down ∧ highV d s (t + 1) x = highV d s t x + d.up := by
  unfold lowV highV
  rw [if_pos h, if_pos (by omega), if_pos h, if_pos (by omega), show t + 1 - s = t - s + 1 by omega, Int.mul_add, Int.mul_add]
  simp only [Int.mul_one]
  omega
theorem lowV_pv {d : Dc} {s t : Int} (x : Int) (h : t + 1 ≤ s) : lowV d s t x = lowV d s (t + 1) x - d.up ∧ highV d s t x = highV d s (t + 1) x - d.down := by
  unfold lowV highV
  have n1 : ¬ s ≤ t := by omega
  rw [if_neg n1, if_neg n1]
  by_cases h1 : s = t + 1
  · subst h1
    rw [if_pos (Int.le_refl _), if_pos (Int.le_refl _), show t + 1 - t = 1 by omega, show t + 1 - (t + 1) = 0 by omega]
    simp only [Int.mul_one, Int.mul_zero]
    omega
  · have n2 : ¬ s ≤ t + 1 := by omega
    rw [if_neg n2, if_neg n2, show s - t = s - (t + 1) + 1 by omega, Int.mul_add, Int.mul_add]
    simp only [Int.mul_one]
    omega
theorem lowV_trip {d : Dc} {s b t : Int} (x : Int) (h1 : s ≤ b) (h2 : b ≤ t) : lowV d s t x = lowV d b t (lowV d s b x) ∧ highV d s t x = highV d b t (highV d s b x) := by
  have h3 : s ≤ t := by omega
  unfold lowV highV
  rw [if_pos h1, if_pos h2, if_pos h3, if_pos h1, if_pos h2, if_pos h3, show t - s = b - s + (t - b) by omega, Int.mul_add, Int.mul_add]
  omega
section
variable {d : Dc} {l : List Cl} (hv : validCode d = 0) (hl : ∀ c ∈ l, validB d c = true)
include hv hl
theorem prop_up (s : Int) : ∀ n : Nat, lowV d s (s + n) (rLo d l s) ≤ rLo d l (s + n) ∧ rHi d l (s + n) ≤ highV d s (s + n) (rHi d l s)
  | 0 => by rw [show s + ((0 : Nat) : Int) = s by omega, lowV_self, highV_self]; omega
  | n + 1 => by
    have ih := prop_up s n
    have e1 := (lowV_nx (d := d) (s := s) (t := s + n) (rLo d l s) (by omega)).1
    have e2 := (lowV_nx (d := d) (s := s) (t := s + n) (rHi d l s) (by omega)).2
    have s1 := rLo_step hv hl (s + n)
    have s2 := rHi_step hv hl (s + n)
    rw [show s + ((n + 1 : Nat) : Int) = s + n + 1 by omega, e1, e2]
    omega
theorem prop_dn (s : Int) : ∀ n : Nat, lowV d s (s - n) (rLo d l s) ≤ rLo d l (s - n) ∧ rHi d l (s - n) ≤ highV d s (s - n) (rHi d l s)
  | 0 => by rw [show s - ((0 : Nat) : Int) = s by omega, lowV_self, highV_self]; omega
  | n + 1 => by
    have ih := prop_dn s n
    have e1 := (lowV_pv (d := d) (s := s) (t := s - n - 1) (rLo d l s) (by omega)).1
    have e2 := (lowV_pv (d := d) (s := s) (t := s - n - 1) (rHi d l s) (by omega)).2
    have s1 := rLo_step hv hl (s - n - 1)
    have s2 := rHi_step hv hl (s - n - 1)
    rw [show s - (n : Int) - 1 + 1 = s - n by omega] at e1 e2 s1 s2
    rw [show s - ((n + 1 : Nat) : Int) = s - n - 1 by omega, e1, e2]
    omega
theorem prop_any (s t : Int) : lowV d s t (rLo d l s) ≤ rLo d l t ∧ rHi d l t ≤ highV d s t (rHi d l s) := by
  by_cases h : s ≤ t
  · have := prop_up hv hl s (t - s).toNat
    rwa [show s + ((t - s).toNat : Int) = t by omega] at this
  · have := prop_dn hv hl s (s - t).toNat
    rwa [show s - ((s - t).toNat : Int) = t by omega] at this
variable {X : List Cl} {b : Int} (hX : ∀ c, c ∈ X ↔ (c ∈ l ∧ b ≤ c.t) ∨ c = ⟨b, b, rLo d l b, rHi d l b⟩)
include hX
theorem ret_wide (t : Int) : rLo d X t ≤ rLo d l t ∧ rHi d l t ≤ rHi d X t := by
  have hp := prop_any hv hl b t
  constructor
  · refine rLo_le.2 (fun c hc => ?_)
    have hall := (rLo_le (d := d) (l := l) (t := t)).1 (Int.le_refl _)
    rcases List.mem_cons.1 hc with rfl | hc
    · exact hall _ (List.mem_cons_self ..)
    · rcases (hX c).1 hc with ⟨h1, _⟩ | rfl
      · exact hall _ (List.mem_cons_of_mem _ h1)
      · refine (leastV_le (Int.le_refl _)).2 (fun s h1 h2 => ?_)
        simp only at h1 h2
        obtain rfl : s = b := by omega
        exact hp.1
  · refine rHi_ge.2 (fun c hc => ?_)
    have hall := (rHi_ge (d := d) (l := l) (t := t)).1 (Int.le_refl _)
    rcases List.mem_cons.1 hc with rfl | hc
    · exact hall _ (List.mem_cons_self ..)
    · rcases (hX c).1 hc with ⟨h1, _⟩ | rfl
      · exact hall _ (List.mem_cons_of_mem _ h1)
      · refine (greatV_ge (Int.le_refl _)).2 (fun s h1 h2 => ?_)
        simp only at h1 h2
        obtain rfl : s = b := by omega
        exact hp.2
theorem ret_tail {t : Int} (ht : b ≤ t) : rLo d X t = rLo d l t ∧ rHi d X t = rHi d l t := by
  have hw := ret_wide hv hl hX t
  have hpt : (⟨b, b, rLo d l b, rHi d l b⟩ : Cl) ∈ X := (hX _).2 (.inr rfl)
  constructor
  · refine Int.le_antisymm hw.1 (rLo_le.2 (fun c hc => ?_))
    have hall := (rLo_le (d := d) (l := X) (t := t)).1 (Int.le_refl _)
    rcases List.mem_cons.1 hc with rfl | hc'
    · exact hall _ (List.mem_cons_self ..)
    · by_cases hbt : b ≤ c.t
      · exact hall _ (List.mem_cons_of_mem _ ((hX c).2 (.inl ⟨hc', hbt⟩)))
      · have hcv := (valid_iff d c).1 (hl c hc')
        refine (leastV_le (by omega)).2 (fun s h1 h2 => ?_)
        have q1 := (leastV_le (by omega)).1 ((rLo_le (d := d) (l := l) (t := b)).1 (Int.le_refl _) c hc) s h1 h2
        have q2 := (leastV_le (Int.le_refl _)).1 (hall _ (List.mem_cons_of_mem _ hpt)) b (Int.le_refl _) (Int.le_refl _)
        simp only at q2
        rw [(lowV_trip c.lo (by omega) ht).1]
        rw [lowV_0] at q2 ⊢
        omega
  · refine Int.le_antisymm (rHi_ge.2 (fun c hc => ?_)) hw.2
    have hall := (rHi_ge (d := d) (l := X) (t := t)).1 (Int.le_refl _)
    rcases List.mem_cons.1 hc with rfl | hc'
    · exact hall _ (List.mem_cons_self ..)
    · by_cases hbt : b ≤ c.t
      · exact hall _ (List.mem_cons_of_mem _ ((hX c).2 (.inl ⟨hc', hbt⟩)))
      · have hcv := (valid_iff d c).1 (hl c hc')
        refine (greatV_ge (by omega)).2 (fun s h1 h2 => ?_)
        have q1 := (greatV_ge (by omega)).1 ((rHi_ge (d := d) (l := l) (t := b)).1 (Int.le_refl _) c hc) s h1 h2
        have q2 := (greatV_ge (Int.le_refl _)).1 (hall _ (List.mem_cons_of_mem _ hpt)) b (Int.le_refl _) (Int.le_refl _)
        simp only at q2
        rw [(lowV_trip c.hi (by omega) ht).2]
        rw [highV_0] at q2 ⊢
        omega
/-- What Retain keeps has an envelope. -/
theorem ret_new (hb : d.first ≤ b ∧ b ≤ d.last) (hok : ∀ i : Nat, i < spanN d → rLo d l (d.first + i) ≤ rHi d l (d.first + i)) (hxl : X.length ≤ 4096) :
    (∀ c ∈ X, validB d c = true) ∧ newR d X = (⟨d.first, rLoL d X (spanN d), rHiL d X (spanN d)⟩, 0) := by
  have hbd := valid_bounds hv
  have hsp : (spanN d : Int) = d.last - d.first + 1 := by unfold spanN; omega
  have hXv : ∀ c ∈ X, validB d c = true := fun c hc => by
    rcases (hX c).1 hc with ⟨h1, _⟩ | rfl
    · exact hl c h1
    · rw [valid_iff]
      have h0 := hok (b - d.first).toNat (by omega)
      obtain ⟨hL, hH⟩ := rL_hist hv hl hsp hok
      have a := (hL.2.1 (b - d.first).toNat (by rw [rLoL_len]; omega)).1
      have a2 := (hH.2.1 (b - d.first).toNat (by rw [rHiL_len]; omega)).1
      rw [(rL_get d l _ _ (by omega)).1] at a
      rw [(rL_get d l _ _ (by omega)).2] at a2
      rw [show d.first + ((b - d.first).toNat : Int) = b by omega] at h0 a a2
      simp only
      omega
  refine ⟨hXv, ?_⟩
  rcases newR_cases hv hxl hXv hsp with ⟨_, h2⟩ | ⟨h1, _⟩
  · exact h2
  · refine absurd (fun i hi => ?_) h1
    have := ret_wide hv hl hX (d.first + i)
    have := hok i hi
    omega
end
theorem kept_mem {d : Dc} {l : List Cl} {b : Int} (hb : d.first ≤ b ∧ b ≤ d.last) (c : Cl) : c ∈ sortC (keptL ⟨d.first, rLoL d l (spanN d), rHiL d l (spanN d)⟩ l b) ↔ (c ∈ l ∧ b ≤ c.t) ∨ c = ⟨b, b, rLo d l b, rHi d l b⟩ := by
  have hsp : (spanN d : Int) = d.last - d.first + 1 := by unfold spanN; omega
  have hl1 := rLoL_len d l (spanN d)
  have hl2 := rHiL_len d l (spanN d)
  have hat : atR ⟨d.first, rLoL d l (spanN d), rHiL d l (spanN d)⟩ b = (rLo d l b, rHi d l b, 0) := by
    rw [atR, if_pos (by simp only; omega)]
    simp only
    rw [(rL_get d l _ _ (by omega)).1, (rL_get d l _ _ (by omega)).2, show d.first + ((b - d.first).toNat : Int) = b by omega]
  rw [mem_sortC, keptL, hat, if_pos rfl]
  simp
end Go.Proofs.Ytpnngbfmmjjnaaa
