
/- Envelopes: the tightest bounds, in plain words. No program in sight. -/
import Derived.Test.YtpnngbfmmjjnaaaClC
namespace Go.Proofs.Ytpnngbfmmjjnaaa
open Go.RowKit
set_option linter.unusedVariables false
set_option linter.unusedSimpArgs false

/-! lower bounds: forth, then back -/
def fwd (lo : Nat → Int) (a : Int) : Nat → Int
  | 0 => lo 0
  | j + 1 => max (lo (j + 1)) (fwd lo a j + a)
/-- k steps from the end. -/
def bwk (f : Nat → Int) (a : Int) (n : Nat) : Nat → Int
  | 0 => f (n - 1)
  | k + 1 => max (f (n - 1 - (k + 1))) (bwk f a n k - a)
def bwd (f : Nat → Int) (a : Int) (n : Nat) (j : Nat) : Int := bwk f a n (n - 1 - j)
theorem bwd_end (f : Nat → Int) (a : Int) (n : Nat) : bwd f a n (n - 1) = f (n - 1) := by simp [bwd, bwk]
theorem bwd_step (f : Nat → Int) (a : Int) (n j : Nat) (h : j + 1 < n) : bwd f a n j = max (f j) (bwd f a n (j + 1) - a) := by
  unfold bwd
  obtain ⟨k, hk⟩ : ∃ k, n - 1 - j = k + 1 := ⟨n - 2 - j, by omega⟩
  rw [hk, show n - 1 - (j + 1) = k by omega]
  simp only [bwk]
  rw [show n - 1 - (k + 1) = j by omega]
theorem fwd_le (lo : Nat → Int) (a x : Int) : ∀ j : Nat, fwd lo a j ≤ x ↔ ∀ i : Nat, i ≤ j → lo i + a * ((j : Int) - i) ≤ x
  | 0 => by
    simp only [fwd]
    constructor
    · intro h i hi
      obtain rfl : i = 0 := by omega
      simpa using h
    · intro h
      simpa using h 0 (Nat.le_refl _)
  | j + 1 => by
    have ih := fwd_le lo a (x - a) j
    simp only [fwd]
    have key : ∀ i : Nat, a * (((j + 1 : Nat) : Int) - i) = a * ((j : Int) - i) + a := fun i => by
      rw [show (((j + 1 : Nat) : Int) - i) = ((j : Int) - i) + 1 by omega, Int.mul_add, Int.mul_one]
    constructor
    · intro h i hi
      by_cases hij : i = j + 1
      · subst hij
        simp
        omega
      · have h1 : fwd lo a j ≤ x - a := by omega
        have h2 := ih.1 h1 i (by omega)
        rw [key]
        omega
    · intro h
      have h1 := h (j + 1) (Nat.le_refl _)
      simp at h1
      have h2 : fwd lo a j ≤ x - a := ih.2 (fun i hi => by
        have := h i (by omega)
        rw [key] at this
        omega)
      omega
theorem bwd_le (f : Nat → Int) (a : Int) (n : Nat) : ∀ (k : Nat) (x : Int), k < n → (bwk f a n k ≤ x ↔ ∀ i : Nat, n - 1 - k ≤ i → i < n → f i - a * ((i : Int) - ((n - 1 - k : Nat) : Int)) ≤ x)
  | 0, x, hn => by
    simp only [bwk]
    constructor
    · intro h i h1 h2
      obtain rfl : i = n - 1 := by omega
      simpa using h
    · intro h
      simpa using h (n - 1) (by omega) (by omega)
  | k + 1, x, hn => by
    have ih := bwd_le f a n k (x + a) (by omega)
    simp only [bwk]
    have key : ∀ i : Nat, a * ((i : Int) - ((n - 1 - (k + 1) : Nat) : Int)) = a * ((i : Int) - ((n - 1 - k : Nat) : Int)) + a := fun i => by
      rw [show ((i : Int) - ((n - 1 - (k + 1) : Nat) : Int)) = ((i : Int) - ((n - 1 - k : Nat) : Int)) + 1 by omega, Int.mul_add, Int.mul_one]
    constructor
    · intro h i h1 h2
      by_cases hij : i = n - 1 - (k + 1)
      · subst hij
        simp
        omega
      · have h3 : bwk f a n k ≤ x + a := by omega
        have h4 := ih.1 h3 i (by omega) h2
        rw [key]
        omega
    · intro h
      have h1 := h (n - 1 - (k + 1)) (Nat.le_refl _) (by omega)
      simp at h1
      have h2 : bwk f a n k ≤ x + a := ih.2 (fun i h3 h4 => by
        have := h i (by omega) h4
        rw [key] at this
        omega)
      omega
theorem mul_up {a b k : Int} (h : a ≤ b) (hk : 0 ≤ k) : a * k ≤ b * k := Int.mul_le_mul_of_nonneg_right h hk
/-- The bound at j, forth and back, is the greatest that a tick implies. -/
theorem both_le (d : Dc) (lo : Nat → Int) (n j : Nat) (x : Int) (hj : j < n) (hd : d.down ≤ d.up) : bwd (fwd lo d.down) d.up n j ≤ x ↔ ∀ i : Nat, i < n → lowV d i j (lo i) ≤ x := by
  unfold bwd
  rw [bwd_le _ _ _ _ _ (by omega), show n - 1 - (n - 1 - j) = j by omega]
  constructor
  · intro h i hi
    unfold lowV
    split
    · rename_i hij
      have := (fwd_le lo d.down (x + d.up * ((j : Int) - j)) j).1 (by have := h j (Nat.le_refl _) hj; omega) i (by omega)
      simpa using this
    · rename_i hij
      have h1 := h i (by omega) hi
      have h2 := (fwd_le lo d.down (x + d.up * ((i : Int) - j)) i).1 (by omega) i (Nat.le_refl _)
      simp at h2
      omega
  · intro h s hs1 hs2
    have h1 : fwd lo d.down s ≤ x + d.up * ((s : Int) - j) := (fwd_le lo d.down _ s).2 (fun r hr => by
      have h2 := h r (by omega)
      unfold lowV at h2
      split at h2
      · rename_i hrj
        have e1 : d.down * ((s : Int) - r) = d.down * ((j : Int) - r) + d.down * ((s : Int) - j) := by rw [← Int.mul_add]; congr 1; omega
        have e2 := mul_up hd (show 0 ≤ ((s : Int) - j) by omega)
        omega
      · rename_i hrj
        have e1 : d.up * ((s : Int) - j) = d.up * ((s : Int) - r) + d.up * ((r : Int) - j) := by rw [← Int.mul_add]; congr 1; omega
        have e2 := mul_up hd (show 0 ≤ ((s : Int) - r) by omega)
        omega)
    omega
/-! upper bounds are lower bounds, turned round -/
def fwdH (hi : Nat → Int) (a : Int) : Nat → Int
  | 0 => hi 0
  | j + 1 => min (hi (j + 1)) (fwdH hi a j + a)
def bwkH (f : Nat → Int) (a : Int) (n : Nat) : Nat → Int
  | 0 => f (n - 1)
  | k + 1 => min (f (n - 1 - (k + 1))) (bwkH f a n k - a)
def bwdH (f : Nat → Int) (a : Int) (n : Nat) (j : Nat) : Int := bwkH f a n (n - 1 - j)
theorem bwdH_end (f : Nat → Int) (a : Int) (n : Nat) : bwdH f a n (n - 1) = f (n - 1) := by simp [bwdH, bwkH]
theorem bwdH_step (f : Nat → Int) (a : Int) (n j : Nat) (h : j + 1 < n) : bwdH f a n j = min (f j) (bwdH f a n (j + 1) - a) := by
  unfold bwdH
  obtain ⟨k, hk⟩ : ∃ k, n - 1 - j = k + 1 := ⟨n - 2 - j, by omega⟩
  rw [hk, show n - 1 - (j + 1) = k by omega]
  simp only [bwkH]
  rw [show n - 1 - (k + 1) = j by omega]
theorem fwdH_neg (hi : Nat → Int) (a : Int) : ∀ j, fwdH hi a j = - fwd (fun i => - hi i) (-a) j
  | 0 => by simp [fwdH, fwd]
  | j + 1 => by
    have := fwdH_neg hi a j
    simp only [fwdH, fwd]
    omega
theorem bwkH_neg (f : Nat → Int) (a : Int) (n : Nat) : ∀ k, bwkH f a n k = - bwk (fun i => - f i) (-a) n k
  | 0 => by simp [bwkH, bwk]
  | k + 1 => by
    have := bwkH_neg f a n k
    simp only [bwkH, bwk]
    omega
/-- The mirror of a declaration. -/
def mir (d : Dc) : Dc := { d with lo := -d.hi, hi := -d.lo, down := -d.up, up := -d.down }
theorem highV_mir (d : Dc) (s t x : Int) : highV d s t x = - lowV (mir d) s t (-x) := by
  unfold highV lowV mir
  simp only
  split
  · rw [Int.neg_mul]; omega
  · rw [Int.neg_mul]; omega
theorem both_ge (d : Dc) (hi : Nat → Int) (n j : Nat) (x : Int) (hj : j < n) (hd : d.down ≤ d.up) : x ≤ bwdH (fwdH hi d.up) d.down n j ↔ ∀ i : Nat, i < n → x ≤ highV d i j (hi i) := by
  have h1 : bwdH (fwdH hi d.up) d.down n j = - bwd (fwd (fun i => - hi i) (mir d).down) (mir d).up n j := by
    unfold bwdH bwd
    rw [bwkH_neg]
    congr 2
    funext i
    rw [fwdH_neg]
    simp [mir]
  have h2 := both_le (mir d) (fun i => - hi i) n j (-x) hj (by simp only [mir]; omega)
  rw [h1]
  constructor
  · intro h i hi'
    have := h2.1 (by omega) i hi'
    rw [highV_mir]
    omega
  · intro h
    have := h2.2 (fun i hi' => by have := h i hi'; rw [highV_mir] at this; omega)
    omega
end Go.Proofs.Ytpnngbfmmjjnaaa
