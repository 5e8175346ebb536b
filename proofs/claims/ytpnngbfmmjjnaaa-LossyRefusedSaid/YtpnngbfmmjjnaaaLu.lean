
/- The reference of the lossy steps: Thin and Rollup, walked. -/
import Derived.Test.YtpnngbfmmjjnaaaLt
namespace Go.Proofs.Ytpnngbfmmjjnaaa
open Go.RowKit
set_option linter.unusedVariables false
set_option linter.unusedSimpArgs false

/-! windows -/
def mnF (g : List Int) (s : Nat) : Nat → Int
  | 0 => g.getD s 0
  | j + 1 => min (mnF g s j) (g.getD (s + j) 0)
def mxF (g : List Int) (s : Nat) : Nat → Int
  | 0 => g.getD s 0
  | j + 1 => max (mxF g s j) (g.getD (s + j) 0)
theorem mnF_ok (g : List Int) (s : Nat) : ∀ j, (∀ i, i < j → mnF g s j ≤ g.getD (s + i) 0) ∧ (∃ i, (i < j ∨ i = 0) ∧ mnF g s j = g.getD (s + i) 0)
  | 0 => ⟨fun i h => by omega, 0, .inr rfl, rfl⟩
  | j + 1 => by
    obtain ⟨h1, i0, h2, h3⟩ := mnF_ok g s j
    simp only [mnF]
    refine ⟨fun i hi => ?_, ?_⟩
    · by_cases hij : i = j
      · subst hij; omega
      · have := h1 i (by omega); omega
    · by_cases h : mnF g s j ≤ g.getD (s + j) 0
      · exact ⟨i0, by omega, by omega⟩
      · exact ⟨j, by omega, by omega⟩
theorem mxF_ok (g : List Int) (s : Nat) : ∀ j, (∀ i, i < j → g.getD (s + i) 0 ≤ mxF g s j) ∧ (∃ i, (i < j ∨ i = 0) ∧ mxF g s j = g.getD (s + i) 0)
  | 0 => ⟨fun i h => by omega, 0, .inr rfl, rfl⟩
  | j + 1 => by
    obtain ⟨h1, i0, h2, h3⟩ := mxF_ok g s j
    simp only [mxF]
    refine ⟨fun i hi => ?_, ?_⟩
    · by_cases hij : i = j
      · subst hij; omega
      · have := h1 i (by omega); omega
    · by_cases h : g.getD (s + j) 0 ≤ mxF g s j
      · exact ⟨i0, by omega, by omega⟩
      · exact ⟨j, by omega, by omega⟩
def winC (f t q : Int) (lo hi : List Int) (a : Nat) : Cl :=
  ⟨max f ((f / q + a) * q), min t ((f / q + a) * q + q - 1),
    mnF lo (max f ((f / q + a) * q) - f).toNat (min t ((f / q + a) * q + q - 1) - max f ((f / q + a) * q) + 1).toNat,
    mxF hi (max f ((f / q + a) * q) - f).toNat (min t ((f / q + a) * q + q - 1) - max f ((f / q + a) * q) + 1).toNat⟩
def winL (f t q : Int) (lo hi : List Int) (n : Nat) : List Cl := (List.range n).map (winC f t q lo hi)
theorem winL_len (f t q : Int) (lo hi : List Int) (n : Nat) : (winL f t q lo hi n).length = n := by simp [winL]
theorem winL_snoc (f t q : Int) (lo hi : List Int) (n : Nat) : winL f t q lo hi (n + 1) = winL f t q lo hi n ++ [winC f t q lo hi n] := by simp [winL, List.range_succ]
theorem mul_step {a b q : Int} (h : a < b) (hq : 0 ≤ q) : a * q + q ≤ b * q := by
  have := Int.mul_le_mul_of_nonneg_right (show a + 1 ≤ b by omega) hq
  rw [Int.add_mul, Int.one_mul] at this
  exact this
theorem div_bd (n : Int) {q : Int} (hq : 1 ≤ q) : n / q * q ≤ n ∧ n < n / q * q + q := by
  have h1 := Int.mul_ediv_add_emod n q
  have h2 := Int.emod_nonneg n (show q ≠ 0 by omega)
  have h3 := Int.emod_lt_of_pos n (show 0 < q by omega)
  rw [Int.mul_comm] at h1
  omega
theorem div_uniq {n q m : Int} (hq : 1 ≤ q) (h1 : m * q ≤ n) (h2 : n < m * q + q) : n / q = m := by
  have h := div_bd n hq
  rcases Int.lt_trichotomy (n / q) m with h3 | h3 | h3
  · have := mul_step h3 (show 0 ≤ q by omega); omega
  · exact h3
  · have := mul_step h3 (show 0 ≤ q by omega); omega
theorem rolL_win {f q : Int} (lo hi : List Int) (hf : 0 ≤ f) (hq : 1 ≤ q) : ∀ i : Nat, ((rolL f q lo hi (i + 1)).length : Int) = (f + i) / q - f / q + 1 ∧
    ∀ a : Nat, a < (rolL f q lo hi (i + 1)).length → ((rolL f q lo hi (i + 1)).getD a cl0).f = max f ((f / q + a) * q) ∧ ((rolL f q lo hi (i + 1)).getD a cl0).t = min (f + i) ((f / q + a) * q + q - 1)
  | 0 => by
    have e : rolL f q lo hi (0 + 1) = [⟨f + (0 : Nat), f + (0 : Nat), lo.getD 0 0, hi.getD 0 0⟩] := by simp [rolL]
    have h := div_bd f hq
    rw [e]
    refine ⟨by simp, fun a ha => ?_⟩
    obtain rfl : a = 0 := by simpa using ha
    simp only [List.getD_cons_zero]
    rw [show f / q + ((0 : Nat) : Int) = f / q by omega]
    omega
  | i + 1 => by
    obtain ⟨ih1, ih2⟩ := rolL_win lo hi hf hq i
    have e : rolL f q lo hi (i + 1 + 1) = if i + 1 = 0 ∨ (f + ((i + 1 : Nat) : Int)).tmod q = 0 then rolL f q lo hi (i + 1) ++ [⟨f + ((i + 1 : Nat) : Int), f + ((i + 1 : Nat) : Int), lo.getD (i + 1) 0, hi.getD (i + 1) 0⟩] else (rolL f q lo hi (i + 1)).set ((rolL f q lo hi (i + 1)).length - 1) ⟨(lastC (rolL f q lo hi (i + 1))).f, f + ((i + 1 : Nat) : Int), min (lastC (rolL f q lo hi (i + 1))).lo (lo.getD (i + 1) 0), max (lastC (rolL f q lo hi (i + 1))).hi (hi.getD (i + 1) 0)⟩ := rfl
    rw [e]
    clear e
    have hpos := (rolL_len f q lo hi (i + 1)).2 (by omega)
    generalize rolL f q lo hi (i + 1) = s at *
    have hd := div_bd (f + ((i + 1 : Nat) : Int)) hq
    have hd0 := div_bd (f + (i : Int)) hq
    have hdf := div_bd f hq
    have hmod : (f + ((i + 1 : Nat) : Int)).tmod q = (f + ((i + 1 : Nat) : Int)) - (f + ((i + 1 : Nat) : Int)) / q * q := by
      rw [Int.tmod_eq_emod_of_nonneg (by omega)]
      have h1 := Int.mul_ediv_add_emod (f + ((i + 1 : Nat) : Int)) q
      rw [Int.mul_comm] at h1
      omega
    obtain ⟨m, hm⟩ : ∃ m, (f + ((i + 1 : Nat) : Int)) / q = m := ⟨_, rfl⟩
    rw [hm] at hd hmod
    obtain ⟨g, hg⟩ : ∃ g, f / q = g := ⟨_, rfl⟩
    rw [hg] at ih1 ih2 hdf ⊢
    rw [hm]
    by_cases hc : (f + ((i + 1 : Nat) : Int)).tmod q = 0
    · rw [if_pos (.inr hc)]
      have hmq : m * q = f + ((i + 1 : Nat) : Int) := by omega
      have hprev : (f + (i : Int)) / q = m - 1 := div_uniq hq (by rw [Int.sub_mul]; omega) (by rw [Int.sub_mul]; omega)
      rw [hprev] at ih1
      refine ⟨by simp; omega, fun a ha => ?_⟩
      simp only [List.length_append, List.length_singleton] at ha
      by_cases h : a < s.length
      · rw [getD_app1 s _ a h]
        obtain ⟨h1, h2⟩ := ih2 a h
        rw [h1, h2]
        have := mul_step (show g + (a : Int) < m by omega) (show 0 ≤ q by omega)
        exact ⟨rfl, by omega⟩
      · obtain rfl : a = s.length := by omega
        rw [getD_app2]
        have hgm : g + (s.length : Int) = m := by omega
        rw [hgm]
        show f + ((i + 1 : Nat) : Int) = _ ∧ f + ((i + 1 : Nat) : Int) = _
        omega
    · rw [if_neg (by omega)]
      have hprev : (f + (i : Int)) / q = m := div_uniq hq (by omega) (by omega)
      rw [hprev] at ih1
      refine ⟨by simp; omega, fun a ha => ?_⟩
      rw [List.length_set] at ha
      by_cases h : s.length - 1 = a
      · have e2 : (s.set (s.length - 1) ⟨(lastC s).f, f + ((i + 1 : Nat) : Int), min (lastC s).lo (lo.getD (i + 1) 0), max (lastC s).hi (hi.getD (i + 1) 0)⟩).getD a cl0 = ⟨(lastC s).f, f + ((i + 1 : Nat) : Int), min (lastC s).lo (lo.getD (i + 1) 0), max (lastC s).hi (hi.getD (i + 1) 0)⟩ := by
          rw [h]
          simp [List.getD_eq_getElem?_getD, ha]
        rw [e2]
        have hlf : (lastC s).f = (s.getD a cl0).f := by unfold lastC; rw [h]
        obtain ⟨h1, h2⟩ := ih2 a ha
        have hgm : g + (a : Int) = m := by omega
        rw [hgm] at h1 h2 ⊢
        refine ⟨hlf.trans h1, ?_⟩
        show f + ((i + 1 : Nat) : Int) = _
        omega
      · have e2 : (s.set (s.length - 1) ⟨(lastC s).f, f + ((i + 1 : Nat) : Int), min (lastC s).lo (lo.getD (i + 1) 0), max (lastC s).hi (hi.getD (i + 1) 0)⟩).getD a cl0 = s.getD a cl0 := by
          simp only [List.getD_eq_getElem?_getD, List.getElem?_set_ne h]
        rw [e2]
        obtain ⟨h1, h2⟩ := ih2 a ha
        have := mul_step (show g + (a : Int) < m by omega) (show 0 ≤ q by omega)
        rw [h1, h2]
        exact ⟨rfl, by omega⟩
theorem win_rol {f q : Int} (lo hi : List Int) (hf : 0 ≤ f) (hq : 1 ≤ q) (n : Nat) (hn : 0 < n) {M : Nat} (hM : (M : Int) = (f + n - 1) / q - f / q + 1) : winL f (f + n - 1) q lo hi M = rolL f q lo hi n := by
  obtain ⟨i, rfl⟩ : ∃ i, n = i + 1 := ⟨n - 1, by omega⟩
  have e0 : f + ((i + 1 : Nat) : Int) - 1 = f + i := by omega
  rw [e0] at hM ⊢
  obtain ⟨h1, h2⟩ := rolL_win lo hi hf hq i
  have hc := (rolL_each f q lo hi (i + 1)).1
  have hL : (rolL f q lo hi (i + 1)).length = M := by omega
  generalize rolL f q lo hi (i + 1) = s at *
  refine ext_cl (by rw [winL_len]; exact hL.symm) (fun a ha => ?_)
  rw [winL_len] at ha
  have e1 : (winL f (f + i) q lo hi M).getD a cl0 = winC f (f + i) q lo hi a := by simp [winL, List.getD_eq_getElem?_getD, ha]
  rw [e1]
  obtain ⟨h3, h4⟩ := h2 a (by omega)
  have hcc := hc _ (getD_mem_cl (show a < s.length by omega))
  generalize s.getD a cl0 = x at *
  have xa := hcc.a
  have xb := hcc.b
  have xe := hcc.e
  have elo : mnF lo (x.f - f).toNat (x.t - x.f + 1).toNat = x.lo := by
    obtain ⟨m1, i0, m2, m3⟩ := mnF_ok lo (x.f - f).toNat (x.t - x.f + 1).toNat
    obtain ⟨k, k1, k2, k3⟩ := hcc.lo_
    have a1 := m1 (k - (x.f - f).toNat) (by omega)
    rw [show (x.f - f).toNat + (k - (x.f - f).toNat) = k by omega] at a1
    have a2 := (hcc.in_ ((x.f - f).toNat + i0) (by omega) (by omega)).1
    omega
  have ehi : mxF hi (x.f - f).toNat (x.t - x.f + 1).toNat = x.hi := by
    obtain ⟨m1, i0, m2, m3⟩ := mxF_ok hi (x.f - f).toNat (x.t - x.f + 1).toNat
    obtain ⟨k, k1, k2, k3⟩ := hcc.hi_
    have a1 := m1 (k - (x.f - f).toNat) (by omega)
    rw [show (x.f - f).toNat + (k - (x.f - f).toNat) = k by omega] at a1
    have a2 := (hcc.in_ ((x.f - f).toNat + i0) (by omega) (by omega)).2
    omega
  unfold winC
  rw [← h3, ← h4, elo, ehi]
end Go.Proofs.Ytpnngbfmmjjnaaa
