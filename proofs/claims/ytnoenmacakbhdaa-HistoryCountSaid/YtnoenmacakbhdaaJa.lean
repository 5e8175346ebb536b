
/- Histories: how many there are. No program in sight. -/
import Derived.Test.YtnoenmacakbhdaaHd
namespace Go.Proofs.Ytnoenmacakbhdaa
open Go.RowKit
set_option linter.unusedVariables false
set_option linter.unusedSimpArgs false
set_option linter.unusedSectionVars false

/-! sums -/
def sumR : Nat → (Nat → Int) → Int
  | 0, _ => 0
  | n + 1, f => sumR n f + f n
theorem sumR_congr {f g : Nat → Int} : ∀ {n : Nat}, (∀ i, i < n → f i = g i) → sumR n f = sumR n g
  | 0, _ => rfl
  | n + 1, h => by simp only [sumR]; rw [sumR_congr (fun i hi => h i (by omega)), h n (by omega)]
theorem sumR_le {f g : Nat → Int} : ∀ {n : Nat}, (∀ i, i < n → f i ≤ g i) → sumR n f ≤ sumR n g
  | 0, _ => Int.le_refl _
  | n + 1, h => by
    have h1 := sumR_le (n := n) (fun i hi => h i (by omega))
    have h2 := h n (by omega)
    simp only [sumR]
    omega
theorem sumR_zero : ∀ n : Nat, sumR n (fun _ => 0) = 0
  | 0 => rfl
  | n + 1 => by simp only [sumR]; rw [sumR_zero n]; rfl
theorem sumR_nn {f : Nat → Int} {n : Nat} (h : ∀ i, i < n → 0 ≤ f i) : 0 ≤ sumR n f := by
  have := sumR_le (f := fun _ => 0) (g := f) (n := n) h
  rwa [sumR_zero] at this
theorem sumR_add (f g : Nat → Int) : ∀ n : Nat, sumR n (fun i => f i + g i) = sumR n f + sumR n g
  | 0 => rfl
  | n + 1 => by simp only [sumR]; rw [sumR_add f g n]; omega
theorem sumR_swap (m : Nat) (f : Nat → Nat → Int) : ∀ n : Nat, sumR n (fun i => sumR m (f i)) = sumR m (fun j => sumR n (fun i => f i j))
  | 0 => by simp only [sumR]; rw [sumR_zero]
  | n + 1 => by simp only [sumR]; rw [sumR_swap m f n, sumR_add]
theorem sumR_one {f : Nat → Int} : ∀ {n k : Nat}, k < n → (∀ i, i < n → 0 ≤ f i) → f k ≤ sumR n f
  | 0, k, hk, _ => absurd hk (by omega)
  | n + 1, k, hk, h => by
    simp only [sumR]
    have h0 := sumR_nn (f := f) (n := n) (fun i hi => h i (by omega))
    by_cases hkn : k = n
    · subst hkn; omega
    · have := sumR_one (f := f) (n := n) (k := k) (by omega) (fun i hi => h i (by omega))
      have := h n (by omega)
      omega
theorem sumR_pos {f : Nat → Int} : ∀ {n : Nat}, (∀ i, i < n → 0 ≤ f i) → 0 < sumR n f → ∃ i, i < n ∧ 0 < f i
  | 0, _, h => absurd h (by simp [sumR])
  | n + 1, h, hp => by
    simp only [sumR] at hp
    by_cases hn : 0 < f n
    · exact ⟨n, by omega, hn⟩
    · obtain ⟨i, hi, hf⟩ := sumR_pos (f := f) (n := n) (fun i hi => h i (by omega)) (by omega)
      exact ⟨i, by omega, hf⟩
theorem sumR_shift (f : Nat → Int) (a : Nat) : ∀ n : Nat, sumR (a + n) f = sumR a f + sumR n (fun i => f (a + i))
  | 0 => by simp [sumR]
  | n + 1 => by
    rw [show a + (n + 1) = a + n + 1 by omega]
    simp only [sumR]
    rw [sumR_shift f a n]
    omega
theorem sumR_win {f : Nat → Int} {S a n : Nat} (h : a + n ≤ S) (h0 : ∀ i, i < S → (i < a ∨ a + n ≤ i) → f i = 0) : sumR S f = sumR n (fun i => f (a + i)) := by
  obtain ⟨r, rfl⟩ : ∃ r, S = a + n + r := ⟨S - (a + n), by omega⟩
  rw [sumR_shift, sumR_shift, sumR_congr (g := fun _ => 0) (fun i hi => h0 i (by omega) (.inl hi)), sumR_zero, sumR_congr (f := fun i => f (a + n + i)) (g := fun _ => 0) (fun i hi => h0 _ (by omega) (.inr (by omega))), sumR_zero]
  omega
theorem sumR_min {m : Int} (hm : 0 ≤ m) {f : Nat → Int} : ∀ {n : Nat}, (∀ i, i < n → 0 ≤ f i) → min m (sumR n (fun i => min m (f i))) = min m (sumR n f)
  | 0, _ => rfl
  | n + 1, h => by
    have ih := sumR_min hm (f := f) (n := n) (fun i hi => h i (by omega))
    have h1 := sumR_nn (f := f) (n := n) (fun i hi => h i (by omega))
    have h2 := sumR_nn (f := fun i => min m (f i)) (n := n) (fun i hi => by have := h i (by omega); show 0 ≤ min m (f i); omega)
    have h3 := h n (by omega)
    simp only [sumR]
    omega
theorem sumR_ones : ∀ n : Nat, sumR n (fun _ => 1) = n
  | 0 => rfl
  | n + 1 => by simp only [sumR]; rw [sumR_ones n]; omega
theorem sumT_R (xs : List Int) : ∀ k, sumT xs k = sumR k (fun i => xs.getD i 0)
  | 0 => rfl
  | k + 1 => by simp only [sumT, sumR]; rw [sumT_R xs k]
theorem sumR_single (f : Nat → Int) (x : Int) : ∀ S : Nat, sumR S (fun i => if (i : Int) = x then f i else 0) = if 0 ≤ x ∧ x < S then f x.toNat else 0
  | 0 => by simp only [sumR]; rw [if_neg (by omega)]
  | S + 1 => by
    simp only [sumR]
    rw [sumR_single f x S]
    by_cases h : (S : Int) = x
    · rw [if_neg (by omega), if_pos h, if_pos (by omega), ← h]
      simp
    · rw [if_neg h]
      by_cases h2 : 0 ≤ x ∧ x < S
      · rw [if_pos h2, if_pos (by omega)]; omega
      · rw [if_neg h2, if_neg (by omega)]; omega
/-- A window of values, counted from its own beginning or from the beginning of all. -/
theorem sumR_reindex (f : Nat → Int) (o : Int) (S : Nat) : ∀ U : Nat, sumR U (fun r => if 0 ≤ o + r ∧ o + r < S then f (o + r).toNat else 0) = sumR S (fun i => if o ≤ i ∧ (i : Int) < o + U then f i else 0)
  | 0 => by
    simp only [sumR]
    rw [sumR_congr (g := fun _ => 0) (fun i hi => if_neg (by omega)), sumR_zero]
  | U + 1 => by
    simp only [sumR]
    rw [sumR_reindex f o S U, ← sumR_single f (o + U) S, ← sumR_add]
    refine sumR_congr (fun i hi => ?_)
    by_cases h1 : (i : Int) = o + U
    · rw [if_neg (by omega), if_pos h1, if_pos (by omega)]; omega
    · rw [if_neg h1]
      by_cases h2 : o ≤ i ∧ (i : Int) < o + U
      · rw [if_pos h2, if_pos (by omega)]; omega
      · rw [if_neg h2, if_neg (by omega)]; omega
/-! beginnings of histories -/
def stepB (d : Dc) (i j : Nat) : Prop := d.down ≤ (j : Int) - i ∧ (j : Int) - i ≤ d.up
instance (d : Dc) (i j : Nat) : Decidable (stepB d i j) := by unfold stepB; exact inferInstance
def inBd (d : Dc) (l : List Cl) (k j : Nat) : Prop := lowB d l (d.first + k) ≤ d.lo + j ∧ d.lo + j ≤ highB d l (d.first + k)
instance (d : Dc) (l : List Cl) (k j : Nat) : Decidable (inBd d l k j) := by unfold inBd; exact inferInstance
def inEn (d : Dc) (l : List Cl) (k j : Nat) : Prop := rLo d l (d.first + k) ≤ d.lo + j ∧ d.lo + j ≤ rHi d l (d.first + k)
instance (d : Dc) (l : List Cl) (k j : Nat) : Decidable (inEn d l k j) := by unfold inEn; exact inferInstance
def valS (d : Dc) : Nat := (d.hi - d.lo + 1).toNat
def cF (d : Dc) (l : List Cl) : Nat → Nat → Int
  | 0, j => if inBd d l 0 j then 1 else 0
  | k + 1, j => if inBd d l (k + 1) j then sumR (valS d) (fun i => if stepB d i j then cF d l k i else 0) else 0
theorem cF_nn (d : Dc) (l : List Cl) : ∀ k j, 0 ≤ cF d l k j
  | 0, j => by simp only [cF]; split <;> omega
  | k + 1, j => by
    simp only [cF]
    split
    · refine sumR_nn (fun i hi => ?_)
      have := cF_nn d l k i
      split <;> omega
    · omega
theorem cF_in {d : Dc} {l : List Cl} {k j : Nat} (h : 0 < cF d l k j) : inBd d l k j := by
  apply Classical.byContradiction
  intro hn
  cases k with
  | zero => simp only [cF] at h; rw [if_neg hn] at h; omega
  | succ k => simp only [cF] at h; rw [if_neg hn] at h; omega
theorem cF_prev {d : Dc} {l : List Cl} {k j : Nat} (h : 0 < cF d l (k + 1) j) : ∃ i, i < valS d ∧ stepB d i j ∧ 0 < cF d l k i := by
  have hin := cF_in h
  simp only [cF] at h
  rw [if_pos hin] at h
  obtain ⟨i, hi, hf⟩ := sumR_pos (fun i hi => by have := cF_nn d l k i; split <;> omega) h
  by_cases hs : stepB d i j
  · rw [if_pos hs] at hf; exact ⟨i, hi, hs, hf⟩
  · rw [if_neg hs] at hf; omega
theorem bd_src {d : Dc} {l : List Cl} {k j : Nat} (hb : validCode d = 0) (hk : d.first + k ≤ d.last) : inBd d l k j ↔ ∀ c ∈ srcL d l, c.f ≤ d.first + k → d.first + k ≤ c.t → c.lo ≤ d.lo + j ∧ d.lo + j ≤ c.hi := by
  unfold inBd
  rw [lowB_le, le_highB]
  constructor
  · rintro ⟨⟨a1, a2⟩, a3, a4⟩ c hc h1 h2
    rcases List.mem_cons.1 hc with rfl | hc
    · exact ⟨a1, a3⟩
    · exact ⟨a2 c hc h1 h2, a4 c hc h1 h2⟩
  · intro h
    have h0 := h (rangeC d) (List.mem_cons_self ..) (by simp only [rangeC]; omega) (by simp only [rangeC]; omega)
    exact ⟨⟨h0.1, fun c hc h1 h2 => (h c (List.mem_cons_of_mem _ hc) h1 h2).1⟩, h0.2, fun c hc h1 h2 => (h c (List.mem_cons_of_mem _ hc) h1 h2).2⟩
theorem lowV_next {d : Dc} {s t : Int} (x : Int) (h : s ≤ t) : lowV d s (t + 1) x = lowV d s t x + d.down ∧ highV d s (t + 1) x = highV d s t x + d.up := by
  unfold lowV highV
  rw [if_pos h, if_pos (by omega), if_pos h, if_pos (by omega), show t + 1 - s = t - s + 1 by omega, Int.mul_add, Int.mul_add]
  simp only [Int.mul_one]
  omega
theorem lowV_prev {d : Dc} {s t : Int} (x : Int) (h : t + 1 ≤ s) : lowV d s t x = lowV d s (t + 1) x - d.up ∧ highV d s t x = highV d s (t + 1) x - d.down := by
  unfold lowV highV
  have n1 : ¬ s ≤ t := by omega
  rw [if_neg n1, if_neg n1]
  by_cases h1 : s = t + 1
  · subst h1
    rw [if_pos (Int.le_refl _), if_pos (Int.le_refl _), show t + 1 - t = 1 by omega, show t + 1 - (t + 1) = 0 by omega]
    simp only [Int.mul_one, Int.mul_zero]
    omega
  · have n2 : ¬ s ≤ t + 1 := by omega
    rw [if_neg n2, if_neg n2, show s - t = s - (t + 1) + 1 by omega, Int.mul_add, Int.mul_add]
    simp only [Int.mul_one]
    omega
theorem en_iff {d : Dc} {l : List Cl} {k j n : Nat} (hv : validCode d = 0) (hl : ∀ c ∈ l, validB d c = true) (hn : (n : Int) = d.last - d.first + 1) (hk : k < n) :
    inEn d l k j ↔ ∀ c ∈ srcL d l, ∀ s : Nat, c.f ≤ d.first + s → d.first + s ≤ c.t → lowV d s k c.lo ≤ d.lo + j ∧ d.lo + j ≤ highV d s k c.hi := by
  unfold inEn
  rw [rLo_le, rHi_ge]
  have hok := src_ok hv hl
  have e1 : ∀ (s : Nat) x, lowV d (d.first + s) (d.first + k) x = lowV d s k x := fun s x => by rw [lowV_add, ← lowV_0]
  have e2 : ∀ (s : Nat) x, highV d (d.first + s) (d.first + k) x = highV d s k x := fun s x => by rw [highV_add, ← highV_0]
  constructor
  · rintro ⟨a1, a2⟩ c hc s h1 h2
    have hc1 := hok c hc
    unfold SrcOk at hc1
    have b1 := (leastV_le (by omega)).1 (a1 c hc) (d.first + s) h1 h2
    have b2 := (greatV_ge (by omega)).1 (a2 c hc) (d.first + s) h1 h2
    rw [e1] at b1
    rw [e2] at b2
    exact ⟨b1, b2⟩
  · intro h
    constructor
    · intro c hc
      have hc1 := hok c hc
      unfold SrcOk at hc1
      rw [leastV_le (by omega)]
      intro s h1 h2
      obtain ⟨s', hs⟩ : ∃ s' : Nat, s = d.first + s' := ⟨(s - d.first).toNat, by omega⟩
      subst hs
      rw [e1]
      exact (h c hc s' h1 h2).1
    · intro c hc
      have hc1 := hok c hc
      unfold SrcOk at hc1
      rw [greatV_ge (by omega)]
      intro s h1 h2
      obtain ⟨s', hs⟩ : ∃ s' : Nat, s = d.first + s' := ⟨(s - d.first).toNat, by omega⟩
      subst hs
      rw [e2]
      exact (h c hc s' h1 h2).2
section
variable {d : Dc} {l : List Cl} {n : Nat} (hv : validCode d = 0) (hl : ∀ c ∈ l, validB d c = true) (hn : (n : Int) = d.last - d.first + 1)
include hv hl hn
theorem fwd_ok : ∀ (k j : Nat), k < n → 0 < cF d l k j → ∀ c ∈ srcL d l, ∀ s : Nat, s ≤ k → c.f ≤ d.first + s → d.first + s ≤ c.t → lowV d s k c.lo ≤ d.lo + j ∧ d.lo + j ≤ highV d s k c.hi := by
  intro k
  induction k with
  | zero =>
    intro j hk h c hc s hs h1 h2
    obtain rfl : s = 0 := by omega
    rw [lowV_self, highV_self]
    exact (bd_src hv (by omega)).1 (cF_in h) c hc h1 h2
  | succ k ih =>
    intro j hk h c hc s hs h1 h2
    by_cases hsk : s = k + 1
    · subst hsk
      rw [lowV_self, highV_self]
      exact (bd_src hv (by omega)).1 (cF_in h) c hc h1 h2
    · obtain ⟨i, hi, hst, hf⟩ := cF_prev h
      have := ih i (by omega) hf c hc s (by omega) h1 h2
      have e := lowV_next (d := d) (s := s) (t := k) c.lo (by omega)
      have e' := lowV_next (d := d) (s := s) (t := k) c.hi (by omega)
      unfold stepB at hst
      rw [show ((k + 1 : Nat) : Int) = (k : Int) + 1 by omega, e.1, e'.2]
      omega
theorem last_in {j : Nat} (h : 0 < cF d l (n - 1) j) : inEn d l (n - 1) j := by
  have hb := valid_bounds hv
  rw [en_iff hv hl hn (by omega)]
  intro c hc s h1 h2
  have hc1 := src_ok hv hl c hc
  unfold SrcOk at hc1
  exact fwd_ok hv hl hn (n - 1) j (by omega) h c hc s (by omega) h1 h2
theorem back_in {k i j : Nat} (hk : k + 1 < n) (h : 0 < cF d l k i) (hs : stepB d i j) (hj : inEn d l (k + 1) j) : inEn d l k i := by
  rw [en_iff hv hl hn (by omega)]
  rw [en_iff hv hl hn hk] at hj
  intro c hc s h1 h2
  by_cases hsk : s ≤ k
  · exact fwd_ok hv hl hn k i (by omega) h c hc s hsk h1 h2
  · have a := hj c hc s h1 h2
    have e := lowV_prev (d := d) (s := s) (t := k) c.lo (by omega)
    have e' := lowV_prev (d := d) (s := s) (t := k) c.hi (by omega)
    rw [show ((k + 1 : Nat) : Int) = (k : Int) + 1 by omega] at a
    unfold stepB at hs
    rw [e.1, e'.2]
    omega
theorem en_bd {k j : Nat} (hk : k < n) (h : inEn d l k j) : inBd d l k j := by
  rw [bd_src hv (by omega)]
  rw [en_iff hv hl hn hk] at h
  intro c hc h1 h2
  have := h c hc k h1 h2
  rwa [lowV_self, highV_self] at this
/-- Where the bounds lie. -/
theorem en_rng {k : Nat} (hk : k < n) (hok : ∀ i : Nat, i < n → rLo d l (d.first + i) ≤ rHi d l (d.first + i)) : d.lo ≤ rLo d l (d.first + k) ∧ rHi d l (d.first + k) ≤ d.hi ∧ rLo d l (d.first + k) ≤ rHi d l (d.first + k) := by
  obtain ⟨hL, hH⟩ := rL_hist hv hl hn hok
  have a := (hL.2.1 k (by rw [rLoL_len]; exact hk)).1
  have b := (hH.2.1 k (by rw [rHiL_len]; exact hk)).1
  rw [(rL_get d l n k hk).1] at a
  rw [(rL_get d l n k hk).2] at b
  exact ⟨a.1, b.2, hok k hk⟩
theorem en_next {k i : Nat} (hk : k + 1 < n) (hok : ∀ i : Nat, i < n → rLo d l (d.first + i) ≤ rHi d l (d.first + i)) (h : inEn d l k i) : ∃ j, j < valS d ∧ stepB d i j ∧ inEn d l (k + 1) j := by
  have hb := valid_bounds hv
  have r1 := en_rng hv hl hn (k := k + 1) hk hok
  have s1 := rLo_step hv hl (d.first + k)
  have s2 := rHi_step hv hl (d.first + k)
  have e : d.first + ((k + 1 : Nat) : Int) = d.first + k + 1 := by omega
  rw [e] at r1
  unfold inEn at h
  refine ⟨(max (rLo d l (d.first + k + 1)) (d.lo + i + d.down) - d.lo).toNat, ?_, ?_, ?_⟩
  · unfold valS; omega
  · unfold stepB; omega
  · unfold inEn; rw [e]; omega
theorem en_prev {k j : Nat} (hk : k + 1 < n) (hok : ∀ i : Nat, i < n → rLo d l (d.first + i) ≤ rHi d l (d.first + i)) (h : inEn d l (k + 1) j) : ∃ i, i < valS d ∧ stepB d i j ∧ inEn d l k i := by
  have hb := valid_bounds hv
  have r1 := en_rng hv hl hn (k := k) (by omega) hok
  have s1 := rLo_step hv hl (d.first + k)
  have s2 := rHi_step hv hl (d.first + k)
  have e : d.first + ((k + 1 : Nat) : Int) = d.first + k + 1 := by omega
  unfold inEn at h
  rw [e] at h
  refine ⟨(max (rLo d l (d.first + k)) (d.lo + j - d.up) - d.lo).toNat, ?_, ?_, ?_⟩
  · unfold valS; omega
  · unfold stepB; omega
  · unfold inEn; omega
theorem en_one (hok : ∀ i : Nat, i < n → rLo d l (d.first + i) ≤ rHi d l (d.first + i)) : ∀ (k j : Nat), k < n → inEn d l k j → 1 ≤ cF d l k j := by
  intro k
  induction k with
  | zero => intro j hk h; simp only [cF]; rw [if_pos (en_bd hv hl hn hk h)]; omega
  | succ k ih =>
    intro j hk h
    obtain ⟨i, hi, hs, he⟩ := en_prev hv hl hn hk hok h
    have h1 := ih i (by omega) he
    simp only [cF]
    rw [if_pos (en_bd hv hl hn hk h)]
    have := sumR_one (f := fun i => if stepB d i j then cF d l k i else 0) (n := valS d) (k := i) hi (fun i hi => by have := cF_nn d l k i; show 0 ≤ (if stepB d i j then cF d l k i else 0); split <;> omega)
    rw [if_pos hs] at this
    omega
end
def totT (d : Dc) (l : List Cl) (k : Nat) : Int := sumR (valS d) (fun j => if inEn d l k j then cF d l k j else 0)
def totN (d : Dc) (l : List Cl) (n : Nat) : Int := sumR (valS d) (fun j => cF d l (n - 1) j)
section
variable {d : Dc} {l : List Cl} {n : Nat} (hv : validCode d = 0) (hl : ∀ c ∈ l, validB d c = true) (hn : (n : Int) = d.last - d.first + 1)
include hv hl hn
theorem tot_last : totN d l n = totT d l (n - 1) := sumR_congr (fun j hj => by
  by_cases h : inEn d l (n - 1) j
  · rw [if_pos h]
  · rw [if_neg h]
    have := cF_nn d l (n - 1) j
    apply Classical.byContradiction
    intro hne
    exact h (last_in hv hl hn (by omega)))
theorem tot_mono (hok : ∀ i : Nat, i < n → rLo d l (d.first + i) ≤ rHi d l (d.first + i)) {k : Nat} (hk : k + 1 < n) : totT d l k ≤ totT d l (k + 1) := by
  have e : totT d l (k + 1) = sumR (valS d) (fun j => sumR (valS d) (fun i => if inEn d l (k + 1) j ∧ stepB d i j then cF d l k i else 0)) := sumR_congr (fun j hj => by
    by_cases h : inEn d l (k + 1) j
    · rw [if_pos h]
      simp only [cF]
      rw [if_pos (en_bd hv hl hn hk h)]
      refine sumR_congr (fun i hi => ?_)
      by_cases hs : stepB d i j
      · rw [if_pos hs, if_pos ⟨h, hs⟩]
      · rw [if_neg hs, if_neg (fun h' => hs h'.2)]
    · rw [if_neg h, sumR_congr (g := fun _ => 0) (fun i hi => if_neg (fun h' => h h'.1)), sumR_zero])
  rw [e, sumR_swap]
  refine sumR_le (fun i hi => ?_)
  have hnn : ∀ j, j < valS d → 0 ≤ (fun j => if inEn d l (k + 1) j ∧ stepB d i j then cF d l k i else 0) j := fun j hj => by
    have := cF_nn d l k i
    show 0 ≤ (if inEn d l (k + 1) j ∧ stepB d i j then cF d l k i else 0)
    split <;> omega
  by_cases h : inEn d l k i
  · rw [if_pos h]
    obtain ⟨j, hj, hs, he⟩ := en_next hv hl hn hk hok h
    have := sumR_one (n := valS d) (k := j) hj hnn
    rw [if_pos ⟨he, hs⟩] at this
    exact this
  · rw [if_neg h]
    exact sumR_nn hnn
theorem tot_win (hok : ∀ i : Nat, i < n → rLo d l (d.first + i) ≤ rHi d l (d.first + i)) {k : Nat} (hk : k < n) (f : Nat → Int) (h0 : ∀ j, ¬ inEn d l k j → f j = 0) :
    sumR (valS d) f = sumR (rHi d l (d.first + k) - rLo d l (d.first + k) + 1).toNat (fun i => f ((rLo d l (d.first + k) - d.lo).toNat + i)) := by
  have r := en_rng hv hl hn hk hok
  refine sumR_win (by unfold valS; omega) (fun i hi h => h0 i ?_)
  unfold inEn
  omega
theorem tot_width (hok : ∀ i : Nat, i < n → rLo d l (d.first + i) ≤ rHi d l (d.first + i)) {k : Nat} (hk : k < n) : rHi d l (d.first + k) - rLo d l (d.first + k) + 1 ≤ totT d l k := by
  have r := en_rng hv hl hn hk hok
  unfold totT
  rw [tot_win hv hl hn hok hk _ (fun j hj => if_neg hj)]
  have h1 := sumR_le (f := fun _ => 1) (g := fun i => if inEn d l k ((rLo d l (d.first + k) - d.lo).toNat + i) then cF d l k ((rLo d l (d.first + k) - d.lo).toNat + i) else 0) (n := (rHi d l (d.first + k) - rLo d l (d.first + k) + 1).toNat) (fun i hi => by
    have he : inEn d l k ((rLo d l (d.first + k) - d.lo).toNat + i) := by unfold inEn; omega
    show 1 ≤ (if inEn d l k ((rLo d l (d.first + k) - d.lo).toNat + i) then cF d l k ((rLo d l (d.first + k) - d.lo).toNat + i) else 0)
    rw [if_pos he]
    exact en_one hv hl hn hok k _ hk he)
  rw [sumR_ones] at h1
  omega
theorem tot_ge (hok : ∀ i : Nat, i < n → rLo d l (d.first + i) ≤ rHi d l (d.first + i)) {k : Nat} (hk : k < n) : rHi d l (d.first + k) - rLo d l (d.first + k) + 1 ≤ totN d l n := by
  rw [tot_last hv hl hn]
  have key : ∀ r, k + r < n → totT d l k ≤ totT d l (k + r) := by
    intro r
    induction r with
    | zero => intro _; exact Int.le_refl _
    | succ r ih =>
      intro h
      have h1 := ih (by omega)
      have h2 := tot_mono hv hl hn hok (k := k + r) (by omega)
      rw [show k + (r + 1) = k + r + 1 by omega]
      omega
  have h1 := key (n - 1 - k) (by omega)
  rw [show k + (n - 1 - k) = n - 1 by omega] at h1
  have := tot_width hv hl hn hok hk
  omega
theorem tot_ok (h : 0 < totN d l n) : ∀ i : Nat, i < n → rLo d l (d.first + i) ≤ rHi d l (d.first + i) := by
  have hb := valid_bounds hv
  have key : ∀ r, r ≤ n - 1 → ∃ j, 0 < cF d l (n - 1 - r) j ∧ inEn d l (n - 1 - r) j := by
    intro r
    induction r with
    | zero =>
      intro _
      obtain ⟨j, hj, hf⟩ := sumR_pos (fun j hj => cF_nn d l (n - 1) j) h
      exact ⟨j, hf, last_in hv hl hn hf⟩
    | succ r ih =>
      intro hr
      obtain ⟨j, h1, h2⟩ := ih (by omega)
      obtain ⟨k, hk⟩ : ∃ k, n - 1 - r = k + 1 := ⟨n - 1 - r - 1, by omega⟩
      rw [hk] at h1 h2
      rw [show n - 1 - (r + 1) = k by omega]
      obtain ⟨i, hi, hs, hf⟩ := cF_prev h1
      exact ⟨i, hf, back_in hv hl hn (by omega) hf hs h2⟩
  intro i hi
  obtain ⟨j, _, h2⟩ := key (n - 1 - i) (by omega)
  rw [show n - 1 - (n - 1 - i) = i by omega] at h2
  unfold inEn at h2
  omega
/-- Only one, if the bounds meet everywhere. -/
theorem tot_one (hok : ∀ i : Nat, i < n → rLo d l (d.first + i) = rHi d l (d.first + i)) : totN d l n = 1 := by
  have hok' : ∀ i : Nat, i < n → rLo d l (d.first + i) ≤ rHi d l (d.first + i) := fun i hi => Int.le_of_eq (hok i hi)
  have hb := valid_bounds hv
  have key : ∀ k, k < n → cF d l k (rLo d l (d.first + k) - d.lo).toNat = 1 := by
    intro k
    induction k with
    | zero =>
      intro hk
      have r := en_rng hv hl hn hk hok'
      have hin : inEn d l 0 (rLo d l (d.first + (0 : Nat)) - d.lo).toNat := by unfold inEn; omega
      simp only [cF]
      rw [if_pos (en_bd hv hl hn hk hin)]
    | succ k ih =>
      intro hk
      have h1 := ih (by omega)
      have r := en_rng hv hl hn hk hok'
      have r0 := en_rng hv hl hn (k := k) (by omega) hok'
      have e1 := hok (k + 1) hk
      have e0 := hok k (by omega)
      have hin : inEn d l (k + 1) (rLo d l (d.first + (k + 1 : Nat)) - d.lo).toNat := by unfold inEn; omega
      simp only [cF]
      rw [if_pos (en_bd hv hl hn hk hin), tot_win hv hl hn hok' (k := k) (by omega) _ (fun j hj => by
        by_cases hs : stepB d j (rLo d l (d.first + (k + 1 : Nat)) - d.lo).toNat
        · rw [if_pos hs]
          have := cF_nn d l k j
          apply Classical.byContradiction
          intro hne
          exact hj (back_in hv hl hn hk (by omega) hs hin)
        · rw [if_neg hs])]
      rw [show (rHi d l (d.first + (k : Int)) - rLo d l (d.first + k) + 1).toNat = 1 by omega]
      simp only [sumR, Nat.add_zero]
      have s1 := rLo_step hv hl (d.first + k)
      rw [if_pos (by
        unfold stepB
        rw [show d.first + ((k + 1 : Nat) : Int) = d.first + k + 1 by omega] at *
        omega), h1]
      rfl
  have r := en_rng hv hl hn (k := n - 1) (by omega) hok'
  have e := hok (n - 1) (by omega)
  rw [tot_last hv hl hn]
  unfold totT
  rw [tot_win hv hl hn hok' (k := n - 1) (by omega) _ (fun j hj => if_neg hj), show (rHi d l (d.first + ((n - 1 : Nat) : Int)) - rLo d l (d.first + ((n - 1 : Nat) : Int)) + 1).toNat = 1 by omega]
  simp only [sumR, Nat.add_zero]
  rw [if_pos (by unfold inEn; omega), key (n - 1) (by omega)]
  rfl
end
end Go.Proofs.Ytnoenmacakbhdaa
