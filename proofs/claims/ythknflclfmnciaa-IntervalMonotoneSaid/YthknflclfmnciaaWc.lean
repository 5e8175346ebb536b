
/- A number of two words divided by one word: the guesses of the digits, in plain words. No program in sight. -/
import Derived.Test.YthknflclfmnciaaQp
import Derived.Lib.BitFns
namespace Go.Proofs.Ythknflclfmnciaa
set_option linter.unusedVariables false
set_option linter.unusedSimpArgs false

/-- A guess q with rest r for the quotient of u and a further digit d by a divisor of two digits. -/
def Guess (u d y1 y0 q r : Nat) : Prop := u = q * y1 + r ∧ (u * 4294967296 + d) / (y1 * 4294967296 + y0) ≤ q
theorem guess_mul (q y1 y0 : Nat) : q * (y1 * 4294967296 + y0) = q * y1 * 4294967296 + q * y0 := by
  rw [Nat.mul_add, ← Nat.mul_assoc]
theorem guess_first {u d y1 y0 : Nat} (h1 : 2147483648 ≤ y1) (hd : d < 4294967296) : Guess u d y1 y0 (u / y1) (u % y1) := by
  have hm := Nat.div_add_mod u y1
  rw [Nat.mul_comm] at hm
  have hl := Nat.mod_lt u (show 0 < y1 by omega)
  refine ⟨hm.symm, ?_⟩
  refine Nat.le_of_lt_succ ((Nat.div_lt_iff_lt_mul (show 0 < y1 * 4294967296 + y0 by omega)).2 ?_)
  rw [Nat.succ_mul, guess_mul]
  have := Nat.zero_le (u / y1 * y0)
  generalize u / y1 * y1 = m at *
  omega
theorem guess_le {u d y1 y0 q r : Nat} (h : Guess u d y1 y0 q r) (h1 : 2147483648 ≤ y1) (h0 : y0 < 4294967296) (hu : u < y1 * 4294967296 + y0) : q ≤ 4294967297 ∧ (4294967296 ≤ q → r < 4294967296) := by
  obtain ⟨he, _⟩ := h
  constructor
  · apply Nat.le_of_lt_succ
    apply Nat.lt_of_mul_lt_mul_right (a := y1)
    generalize q * y1 = m at *
    show m < 4294967298 * y1
    omega
  · intro hq
    have := Nat.mul_le_mul_right y1 hq
    generalize q * y1 = m at *
    omega
theorem guess_down {u d y1 y0 q r : Nat} (h : Guess u d y1 y0 q r) (h1 : 2147483648 ≤ y1) (hd : d < 4294967296) (hu : u < y1 * 4294967296 + y0) (ht : 4294967296 ≤ q ∨ 4294967296 * r + d < q * y0) : 1 ≤ q ∧ Guess u d y1 y0 (q - 1) (r + y1) := by
  obtain ⟨he, hq⟩ := h
  have hq1 : 1 ≤ q := by
    rcases ht with ht | ht
    · omega
    · rcases Nat.eq_zero_or_pos q with h | h
      · subst h; simp at ht
      · exact h
  obtain ⟨p, rfl⟩ : ∃ p, q = p + 1 := ⟨q - 1, by omega⟩
  refine ⟨hq1, ?_, ?_⟩
  · rw [Nat.add_sub_cancel, he, Nat.succ_mul]; omega
  · rw [Nat.add_sub_cancel]
    refine Nat.le_of_lt_succ ((Nat.div_lt_iff_lt_mul (show 0 < y1 * 4294967296 + y0 by omega)).2 ?_)
    show u * 4294967296 + d < (p + 1) * (y1 * 4294967296 + y0)
    rcases ht with ht | ht
    · have := Nat.mul_le_mul_right (y1 * 4294967296 + y0) ht
      generalize (p + 1) * (y1 * 4294967296 + y0) = m at *
      omega
    · rw [guess_mul]
      generalize (p + 1) * y1 = m at *
      generalize (p + 1) * y0 = n at *
      omega
theorem guess_end {u d y1 y0 q r : Nat} (h : Guess u d y1 y0 q r) (h1 : 2147483648 ≤ y1) (h0 : y0 < 4294967296) (hu : u < y1 * 4294967296 + y0) (ht : 4294967296 ≤ r ∨ q < 4294967296 ∧ q * y0 ≤ 4294967296 * r + d) : q = (u * 4294967296 + d) / (y1 * 4294967296 + y0) := by
  have hb := guess_le h h1 h0 hu
  obtain ⟨he, hq⟩ := h
  apply Nat.le_antisymm _ hq
  refine (Nat.le_div_iff_mul_le (show 0 < y1 * 4294967296 + y0 by omega)).2 ?_
  rw [guess_mul]
  have hq2 : q < 4294967296 := by
    rcases ht with ht | ht
    · rcases Nat.lt_or_ge q 4294967296 with h | h
      · exact h
      · have := hb.2 h; omega
    · exact ht.1
  have hn : q * y0 ≤ 4294967296 * r + d := by
    rcases ht with ht | ht
    · have : q * y0 ≤ 4294967296 * 4294967296 := Nat.mul_le_mul (by omega) (by omega)
      omega
    · exact ht.2
  generalize q * y1 = m at *
  omega
/-- Both digits together. -/
theorem two_digits {u d1 d0 Y : Nat} (hY : 0 < Y) :
    (u * 18446744073709551616 + d1 * 4294967296 + d0) / Y = (u * 4294967296 + d1) / Y * 4294967296 + ((u * 4294967296 + d1) % Y * 4294967296 + d0) / Y ∧
    (u * 18446744073709551616 + d1 * 4294967296 + d0) % Y = ((u * 4294967296 + d1) % Y * 4294967296 + d0) % Y := by
  have e1 := Nat.div_add_mod (u * 4294967296 + d1) Y
  have e : u * 18446744073709551616 + d1 * 4294967296 + d0 = ((u * 4294967296 + d1) % Y * 4294967296 + d0) + Y * ((u * 4294967296 + d1) / Y * 4294967296) := by
    rw [← Nat.mul_assoc]
    generalize (u * 4294967296 + d1) / Y = a at *
    generalize (u * 4294967296 + d1) % Y = b at *
    generalize Y * a = c at *
    omega
  constructor
  · rw [e, Nat.add_mul_div_left _ _ hY, Nat.add_comm]
  · rw [e, Nat.add_mul_mod_self_left]
theorem digit_lt {u d Y : Nat} (hu : u < Y) (hd : d < 4294967296) : (u * 4294967296 + d) / Y < 4294967296 := by
  refine (Nat.div_lt_iff_lt_mul (by omega)).2 ?_
  omega
/-- The word's length. -/
theorem bitLen_two {x : Nat} (h0 : 0 < x) (h : x < 18446744073709551616) : 1 ≤ Lib.bitLen x ∧ Lib.bitLen x ≤ 64 ∧ 2 ^ (Lib.bitLen x - 1) ≤ x ∧ x < 2 ^ Lib.bitLen x := by
  have key : ∀ (f x : Nat), x < 2 ^ f → (x = 0 → Lib.bitLenAux f x = 0) ∧ (0 < x → 1 ≤ Lib.bitLenAux f x ∧ Lib.bitLenAux f x ≤ f ∧ 2 ^ (Lib.bitLenAux f x - 1) ≤ x ∧ x < 2 ^ Lib.bitLenAux f x) := by
    intro f
    induction f with
    | zero => intro x hx; refine ⟨fun _ => rfl, fun h => ?_⟩; simp at hx; omega
    | succ f ih =>
      intro x hx
      refine ⟨fun h => by simp [Lib.bitLenAux, h], fun h => ?_⟩
      have hx2 : x / 2 < 2 ^ f := by rw [Nat.pow_succ] at hx; omega
      obtain ⟨i1, i2⟩ := ih (x / 2) hx2
      simp only [Lib.bitLenAux, if_neg (show ¬ x = 0 by omega)]
      rcases Nat.eq_zero_or_pos (x / 2) with h2 | h2
      · rw [i1 h2]
        refine ⟨by omega, by omega, ?_, ?_⟩
        · simp; omega
        · simp; omega
      · obtain ⟨a1, a2, a3, a4⟩ := i2 h2
        generalize Lib.bitLenAux f (x / 2) = k at *
        obtain ⟨j, rfl⟩ : ∃ j, k = j + 1 := ⟨k - 1, by omega⟩
        refine ⟨by omega, by omega, ?_, ?_⟩
        · rw [show 1 + (j + 1) - 1 = j + 1 by omega, Nat.pow_succ]
          rw [Nat.add_sub_cancel] at a3
          omega
        · rw [show 1 + (j + 1) = j + 1 + 1 by omega, Nat.pow_succ]
          omega
  exact (key 64 x h).2 h0
/-- A divisor shifted up to its full length. -/
theorem shift_full {y : Nat} (h0 : 0 < y) (h : y < 18446744073709551616) : ∃ s, s ≤ 63 ∧ Lib.bitLen y + s = 64 ∧ 9223372036854775808 ≤ y * 2 ^ s ∧ y * 2 ^ s < 18446744073709551616 := by
  obtain ⟨a1, a2, a3, a4⟩ := bitLen_two h0 h
  refine ⟨64 - Lib.bitLen y, by omega, by omega, ?_, ?_⟩
  · have e : 2 ^ (Lib.bitLen y - 1) * 2 ^ (64 - Lib.bitLen y) = 9223372036854775808 := by
      rw [← Nat.pow_add, show Lib.bitLen y - 1 + (64 - Lib.bitLen y) = 63 by omega]
    rw [← e]
    exact Nat.mul_le_mul_right _ a3
  · have e : 2 ^ Lib.bitLen y * 2 ^ (64 - Lib.bitLen y) = 18446744073709551616 := by
      rw [← Nat.pow_add, show Lib.bitLen y + (64 - Lib.bitLen y) = 64 by omega]
    rw [← e]
    exact Nat.mul_lt_mul_of_pos_right a4 (Nat.two_pow_pos _)
/-- The shifted dividend's words. -/
theorem shift_words {hi lo s : Nat} (hs : s ≤ 63) (hl : lo < 18446744073709551616) :
    lo / 2 ^ (64 - s) < 2 ^ s ∧ (hi * 18446744073709551616 + lo) * 2 ^ s = (hi * 2 ^ s + lo / 2 ^ (64 - s)) * 18446744073709551616 + lo * 2 ^ s % 18446744073709551616 := by
  have e : 2 ^ (64 - s) * 2 ^ s = 18446744073709551616 := by
    rw [← Nat.pow_add, show 64 - s + s = 64 by omega]
  constructor
  · refine (Nat.div_lt_iff_lt_mul (Nat.two_pow_pos _)).2 ?_
    rw [Nat.mul_comm, e]
    exact hl
  · have h1 : lo * 2 ^ s / 18446744073709551616 = lo / 2 ^ (64 - s) := by
      rw [← e, Nat.mul_div_mul_right _ _ (Nat.two_pow_pos _)]
    have h2 := Nat.div_add_mod (lo * 2 ^ s) 18446744073709551616
    rw [h1] at h2
    rw [Nat.add_mul, Nat.add_mul, Nat.mul_assoc, Nat.mul_comm 18446744073709551616, ← Nat.mul_assoc]
    generalize lo * 2 ^ s = A at *
    generalize hi * 2 ^ s = B at *
    generalize lo / 2 ^ (64 - s) = C at *
    omega
theorem shift_div {n y s : Nat} (hy : 0 < y) : n * 2 ^ s / (y * 2 ^ s) = n / y ∧ n * 2 ^ s % (y * 2 ^ s) / 2 ^ s = n % y := by
  refine ⟨Nat.mul_div_mul_right _ _ (Nat.two_pow_pos _), ?_⟩
  rw [Nat.mul_mod_mul_right, Nat.mul_div_cancel _ (Nat.two_pow_pos _)]
theorem shift_lt {hi y s : Nat} {c : Nat} (h : hi < y) (hc : c < 2 ^ s) : hi * 2 ^ s + c < y * 2 ^ s := by
  have := Nat.mul_le_mul_right (2 ^ s) (Nat.succ_le_of_lt h)
  rw [Nat.succ_mul] at this
  omega
/-- Bits put together and cut off. -/
theorem or_words (a c s : Nat) (ha : a * 2 ^ s < 18446744073709551616) (hc : c < 2 ^ s) (hc2 : c < 18446744073709551616) : ((BitVec.ofInt 64 ((a * 2 ^ s : Nat) : Int) ||| BitVec.ofInt 64 (c : Int)).toNat : Int) = ((a * 2 ^ s + c : Nat) : Int) := by
  rw [BitVec.toNat_or, BitVec.toNat_ofInt, BitVec.toNat_ofInt]
  have e1 : (((a * 2 ^ s : Nat) : Int) % ((2 ^ 64 : Nat) : Int)).toNat = a * 2 ^ s := by
    generalize a * 2 ^ s = A at *
    omega
  have e2 : ((c : Int) % ((2 ^ 64 : Nat) : Int)).toNat = c := by omega
  rw [e1, e2, Nat.mul_comm a, Nat.two_pow_add_eq_or_of_lt hc]
theorem and_low (x : Nat) (hx : x < 18446744073709551616) : ((BitVec.ofInt 64 (x : Int) &&& BitVec.ofInt 64 4294967295).toNat : Int) = ((x % 4294967296 : Nat) : Int) := by
  rw [BitVec.toNat_and, BitVec.toNat_ofInt, BitVec.toNat_ofInt]
  have e1 : ((x : Int) % ((2 ^ 64 : Nat) : Int)).toNat = x := by omega
  have e2 : ((4294967295 : Int) % ((2 ^ 64 : Nat) : Int)).toNat = 2 ^ 32 - 1 := by decide
  rw [e1, e2, Nat.and_two_pow_sub_one_eq_mod]
end Go.Proofs.Ythknflclfmnciaa
