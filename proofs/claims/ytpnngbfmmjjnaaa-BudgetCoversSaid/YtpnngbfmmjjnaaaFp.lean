
/- Envelopes: more claims narrow, order and repetition do not matter; which source implies a bound. No program in sight. -/
import Derived.Test.YtpnngbfmmjjnaaaEn
namespace Go.Proofs.Ytpnngbfmmjjnaaa
open Go.RowKit
set_option linter.unusedVariables false
set_option linter.unusedSimpArgs false

theorem srcL_mono {d : Dc} {l l' : List Cl} (h : ∀ c ∈ l, c ∈ l') : ∀ c ∈ srcL d l, c ∈ srcL d l' := by
  intro c hc
  rcases List.mem_cons.1 hc with rfl | hc
  · exact List.mem_cons_self ..
  · exact List.mem_cons_of_mem _ (h c hc)
theorem rLo_mono {d : Dc} {l l' : List Cl} (h : ∀ c ∈ l, c ∈ l') (t : Int) : rLo d l t ≤ rLo d l' t := rLo_le.2 fun c hc => rLo_le.1 (Int.le_refl _) c (srcL_mono h c hc)
theorem rHi_mono {d : Dc} {l l' : List Cl} (h : ∀ c ∈ l, c ∈ l') (t : Int) : rHi d l' t ≤ rHi d l t := rHi_ge.2 fun c hc => rHi_ge.1 (Int.le_refl _) c (srcL_mono h c hc)
theorem newR_set {d : Dc} {l l' : List Cl} {n : Nat} (hv : validCode d = 0) (hn : (n : Int) = d.last - d.first + 1) (h : ∀ c, c ∈ l ↔ c ∈ l') (h1 : l.length ≤ 4096) (h2 : l'.length ≤ 4096) (hl : ∀ c ∈ l, validB d c = true) : newR d l' = newR d l := by
  have e1 : ∀ t, rLo d l' t = rLo d l t := fun t => Int.le_antisymm (rLo_mono (fun c hc => (h c).2 hc) t) (rLo_mono (fun c hc => (h c).1 hc) t)
  have e2 : ∀ t, rHi d l' t = rHi d l t := fun t => Int.le_antisymm (rHi_mono (fun c hc => (h c).1 hc) t) (rHi_mono (fun c hc => (h c).2 hc) t)
  have e3 : rLoL d l' n = rLoL d l n := List.map_congr_left fun i _ => e1 _
  have e4 : rHiL d l' n = rHiL d l n := List.map_congr_left fun i _ => e2 _
  have a := newR_cases (l := l) hv h1 hl hn
  have b := newR_cases (l := l') hv h2 (fun c hc => hl c ((h c).2 hc)) hn
  simp only [e1, e2, e3, e4] at b
  rcases a with ⟨a1, a2⟩ | ⟨a1, a2⟩
  · rcases b with ⟨b1, b2⟩ | ⟨b1, b2⟩
    · rw [a2, b2]
    · exact absurd a1 b1
  · rcases b with ⟨b1, b2⟩ | ⟨b1, b2⟩
    · exact absurd b1 a1
    · rw [a2, b2]
/-- More claims: a narrower envelope, or a contradiction. -/
theorem newR_more {d : Dc} {l l' : List Cl} {n : Nat} (hv : validCode d = 0) (hn : (n : Int) = d.last - d.first + 1) (h : ∀ c ∈ l, c ∈ l') (h1 : l.length ≤ 4096) (h2 : l'.length ≤ 4096) (hl : ∀ c ∈ l', validB d c = true) :
    newR d l' = (env0', 13) ∨ (newR d l' = (⟨d.first, rLoL d l' n, rHiL d l' n⟩, 0) ∧ newR d l = (⟨d.first, rLoL d l n, rHiL d l n⟩, 0) ∧ ∀ i, i < n → (rLoL d l n).getD i 0 ≤ (rLoL d l' n).getD i 0 ∧ (rHiL d l' n).getD i 0 ≤ (rHiL d l n).getD i 0) := by
  rcases newR_cases (l := l') hv h2 hl hn with ⟨a1, a2⟩ | ⟨a1, a2⟩
  · right
    refine ⟨a2, ?_, fun i hi => ?_⟩
    · rcases newR_cases (l := l) hv h1 (fun c hc => hl c (h c hc)) hn with ⟨b1, b2⟩ | ⟨b1, b2⟩
      · exact b2
      · exact absurd (fun i hi => Int.le_trans (rLo_mono h _) (Int.le_trans (a1 i hi) (rHi_mono h _))) b1
    · rw [(rL_get d l n i hi).1, (rL_get d l n i hi).2, (rL_get d l' n i hi).1, (rL_get d l' n i hi).2]
      exact ⟨rLo_mono h _, rHi_mono h _⟩
  · exact .inl a2
theorem lin_le (k a b s : Int) (h1 : a ≤ s) (h2 : s ≤ b) : (k * s ≤ k * a ∨ k * s ≤ k * b) ∧ (k * a ≤ k * s ∨ k * b ≤ k * s) := by
  by_cases hk : 0 ≤ k
  · exact ⟨.inr (Int.mul_le_mul_of_nonneg_left h2 hk), .inl (Int.mul_le_mul_of_nonneg_left h1 hk)⟩
  · have a1 := Int.mul_le_mul_of_nonneg_left h1 (show 0 ≤ -k by omega)
    have a2 := Int.mul_le_mul_of_nonneg_left h2 (show 0 ≤ -k by omega)
    simp only [Int.neg_mul] at a1 a2
    exact ⟨.inl (by omega), .inr (by omega)⟩
/-- The tick of a source that is nearest to t. -/
def nearC (c : Cl) (t : Int) : Int := min (max t c.f) c.t
theorem low_three {d : Dc} {c : Cl} {t s : Int} (h1 : c.f ≤ s) (h2 : s ≤ c.t) : lowV d s t c.lo ≤ lowV d c.f t c.lo ∨ lowV d s t c.lo ≤ lowV d c.t t c.lo ∨ lowV d s t c.lo ≤ lowV d (nearC c t) t c.lo := by
  unfold lowV nearC
  by_cases hs : s ≤ t
  · rw [if_pos hs, if_pos (show c.f ≤ t by omega), if_pos (show min (max t c.f) c.t ≤ t by omega)]
    rcases (lin_le d.down (t - min (max t c.f) c.t) (t - c.f) (t - s) (by omega) (by omega)).1 with h | h
    · right; right; omega
    · left; omega
  · rw [if_neg hs, if_neg (show ¬ c.t ≤ t by omega)]
    by_cases hf : c.f ≤ t
    · rw [if_pos hf, if_pos (show min (max t c.f) c.t ≤ t by omega), show min (max t c.f) c.t = t by omega, show t - t = 0 by omega, Int.mul_zero]
      rcases (lin_le d.up 0 (c.t - t) (s - t) (by omega) (by omega)).2 with h | h
      · rw [Int.mul_zero] at h; right; right; omega
      · right; left; omega
    · rw [if_neg hf, if_neg (show ¬ min (max t c.f) c.t ≤ t by omega)]
      rcases (lin_le d.up (c.f - t) (c.t - t) (s - t) (by omega) (by omega)).2 with h | h
      · left; omega
      · right; left; omega
theorem high_three {d : Dc} {c : Cl} {t s : Int} (h1 : c.f ≤ s) (h2 : s ≤ c.t) : highV d c.f t c.hi ≤ highV d s t c.hi ∨ highV d c.t t c.hi ≤ highV d s t c.hi ∨ highV d (nearC c t) t c.hi ≤ highV d s t c.hi := by
  unfold highV nearC
  by_cases hs : s ≤ t
  · rw [if_pos hs, if_pos (show c.f ≤ t by omega), if_pos (show min (max t c.f) c.t ≤ t by omega)]
    rcases (lin_le d.up (t - min (max t c.f) c.t) (t - c.f) (t - s) (by omega) (by omega)).2 with h | h
    · right; right; omega
    · left; omega
  · rw [if_neg hs, if_neg (show ¬ c.t ≤ t by omega)]
    by_cases hf : c.f ≤ t
    · rw [if_pos hf, if_pos (show min (max t c.f) c.t ≤ t by omega), show min (max t c.f) c.t = t by omega, show t - t = 0 by omega, Int.mul_zero]
      rcases (lin_le d.down 0 (c.t - t) (s - t) (by omega) (by omega)).1 with h | h
      · rw [Int.mul_zero] at h; right; right; omega
      · right; left; omega
    · rw [if_neg hf, if_neg (show ¬ min (max t c.f) c.t ≤ t by omega)]
      rcases (lin_le d.down (c.f - t) (c.t - t) (s - t) (by omega) (by omega)).1 with h | h
      · left; omega
      · right; left; omega
/-- A source implies the lower bound x at t, asked at three ticks. -/
theorem least_three {d : Dc} {c : Cl} {t x : Int} (hc : c.f ≤ c.t) (hx : leastV d c t ≤ x) : leastV d c t = x ↔ lowV d c.f t c.lo = x ∨ lowV d c.t t c.lo = x ∨ lowV d (nearC c t) t c.lo = x := by
  have hle := (leastV_le hc).1 hx
  have a1 := hle c.f (by omega) (by omega)
  have a2 := hle c.t (by omega) (by omega)
  have a3 := hle (nearC c t) (by unfold nearC; omega) (by unfold nearC; omega)
  have hself := (leastV_le (d := d) (t := t) hc).1 (Int.le_refl _)
  have b1 := hself c.f (by omega) (by omega)
  have b2 := hself c.t (by omega) (by omega)
  have b3 := hself (nearC c t) (by unfold nearC; omega) (by unfold nearC; omega)
  constructor
  · intro h
    apply Classical.byContradiction
    intro hh
    have : leastV d c t ≤ x - 1 := by
      rw [leastV_le hc]
      intro s h1 h2
      rcases low_three (d := d) (t := t) h1 h2 with h | h | h <;> omega
    omega
  · intro h
    omega
theorem great_three {d : Dc} {c : Cl} {t x : Int} (hc : c.f ≤ c.t) (hx : x ≤ greatV d c t) : greatV d c t = x ↔ highV d c.f t c.hi = x ∨ highV d c.t t c.hi = x ∨ highV d (nearC c t) t c.hi = x := by
  have hle := (greatV_ge hc).1 hx
  have a1 := hle c.f (by omega) (by omega)
  have a2 := hle c.t (by omega) (by omega)
  have a3 := hle (nearC c t) (by unfold nearC; omega) (by unfold nearC; omega)
  have hself := (greatV_ge (d := d) (t := t) hc).1 (Int.le_refl _)
  have b1 := hself c.f (by omega) (by omega)
  have b2 := hself c.t (by omega) (by omega)
  have b3 := hself (nearC c t) (by unfold nearC; omega) (by unfold nearC; omega)
  constructor
  · intro h
    apply Classical.byContradiction
    intro hh
    have : x + 1 ≤ greatV d c t := by
      rw [greatV_ge hc]
      intro s h1 h2
      rcases high_three (d := d) (t := t) h1 h2 with h | h | h <;> omega
    omega
  · intro h
    omega
/-- Some source is as tight as all of them. -/
theorem rLo_att (d : Dc) (l : List Cl) (t : Int) : ∃ c ∈ srcL d l, leastV d c t = rLo d l t := by
  apply Classical.byContradiction
  intro h
  have : rLo d l t ≤ rLo d l t - 1 := by
    rw [rLo_le]
    intro c hc
    have a := rLo_le.1 (Int.le_refl (rLo d l t)) c hc
    have b : leastV d c t ≠ rLo d l t := fun e => h ⟨c, hc, e⟩
    omega
  omega
theorem rHi_att (d : Dc) (l : List Cl) (t : Int) : ∃ c ∈ srcL d l, greatV d c t = rHi d l t := by
  apply Classical.byContradiction
  intro h
  have : rHi d l t + 1 ≤ rHi d l t := by
    rw [rHi_ge]
    intro c hc
    have a := rHi_ge.1 (Int.le_refl (rHi d l t)) c hc
    have b : greatV d c t ≠ rHi d l t := fun e => h ⟨c, hc, e⟩
    omega
  omega
end Go.Proofs.Ytpnngbfmmjjnaaa
