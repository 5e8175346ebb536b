
/- Histories: what Count counts. No program in sight. -/
import Derived.Test.YtnoenmacakbhdaaJa
namespace Go.Proofs.Ytnoenmacakbhdaa
open Go.RowKit
set_option linter.unusedVariables false
set_option linter.unusedSimpArgs false
set_option linter.unusedSectionVars false

theorem sumT_win (xs : List Int) {a b : Nat} (h : a ≤ b) : sumT xs b - sumT xs a = sumR (b - a) (fun i => xs.getD (a + i) 0) := by
  obtain ⟨r, rfl⟩ : ∃ r, b = a + r := ⟨b - a, by omega⟩
  rw [sumT_R, sumT_R, sumR_shift, show a + r - a = r by omega]
  omega
section
variable {d : Dc} {l : List Cl} {n : Nat} (hv : validCode d = 0) (hl : ∀ c ∈ l, validB d c = true) (hn : (n : Int) = d.last - d.first + 1)
include hv hl hn
theorem cntK_eq (hok : ∀ i : Nat, i < n → rLo d l (d.first + i) ≤ rHi d l (d.first + i)) {m : Int} (hm : 1 ≤ m) : ∀ k, k < n → ∀ i : Nat, (i : Int) < rHi d l (d.first + k) - rLo d l (d.first + k) + 1 →
    (cntK d (rLoL d l n) (rHiL d l n) m k).getD i 0 = min m (cF d l k ((rLo d l (d.first + k) - d.lo).toNat + i)) := by
  intro k
  induction k with
  | zero =>
    intro hk i hi
    have r := en_rng hv hl hn hk hok
    have hin : inEn d l 0 ((rLo d l (d.first + (0 : Nat)) - d.lo).toNat + i) := by unfold inEn; omega
    have e : (cntK d (rLoL d l n) (rHiL d l n) m 0).getD i 0 = 1 := map_get _ _ _ (by rw [(rL_get d l n 0 hk).1, (rL_get d l n 0 hk).2]; omega)
    rw [e]
    simp only [cF]
    rw [if_pos (en_bd hv hl hn hk hin)]
    omega
  | succ k ih =>
    intro hk i hi
    have r := en_rng hv hl hn hk hok
    have r0 := en_rng hv hl hn (k := k) (by omega) hok
    have ih' := ih (by omega)
    have hin : inEn d l (k + 1) ((rLo d l (d.first + (k + 1 : Nat)) - d.lo).toNat + i) := by unfold inEn; omega
    have e : (cntK d (rLoL d l n) (rHiL d l n) m (k + 1)).getD i 0 = advN d ((rLoL d l n).getD (k + 1) 0) ((rLoL d l n).getD k 0) ((rHiL d l n).getD k 0) (cntK d (rLoL d l n) (rHiL d l n) m k) m i := map_get _ _ _ (by rw [(rL_get d l n (k + 1) hk).1, (rL_get d l n (k + 1) hk).2]; omega)
    rw [e, (rL_get d l n (k + 1) hk).1, (rL_get d l n k (by omega)).1, (rL_get d l n k (by omega)).2]
    simp only [cF]
    rw [if_pos (en_bd hv hl hn hk hin), tot_win hv hl hn hok (k := k) (by omega) _ (fun j hj => by
      by_cases hs : stepB d j ((rLo d l (d.first + (k + 1 : Nat)) - d.lo).toNat + i)
      · rw [if_pos hs]
        have := cF_nn d l k j
        apply Classical.byContradiction
        intro hne
        exact hj (back_in hv hl hn hk (by omega) hs hin)
      · rw [if_neg hs])]
    generalize cntK d (rLoL d l n) (rHiL d l n) m k = cs at *
    have hnn := cF_nn d l k
    generalize cF d l k = F at *
    generalize rLo d l (d.first + (k + 1 : Nat)) = L1 at *
    generalize rLo d l (d.first + (k : Int)) = L0 at *
    generalize rHi d l (d.first + (k : Int)) = H0 at *
    unfold advN
    obtain ⟨f, hf⟩ : ∃ f, f = advFrom d L1 L0 (i : Int) := ⟨_, rfl⟩
    obtain ⟨t, ht⟩ : ∃ t, t = advTo d L1 L0 H0 (i : Int) := ⟨_, rfl⟩
    rw [← hf, ← ht]
    unfold advFrom at hf
    unfold advTo at ht
    have hst : ∀ x : Nat, (x : Int) < H0 - L0 + 1 → (stepB d ((L0 - d.lo).toNat + x) ((L1 - d.lo).toNat + i) ↔ f ≤ x ∧ (x : Int) ≤ t) := fun x hx => by
      unfold stepB
      omega
    by_cases hft : f ≤ t
    · rw [if_pos hft, sumT_win cs (by omega), sumR_win (S := (H0 - L0 + 1).toNat) (a := f.toNat) (n := (t + 1).toNat - f.toNat) (by omega) (fun x hx h => if_neg (fun h' => by
        have := (hst x (by omega)).1 h'
        omega))]
      have q := sumR_min (m := m) (by omega) (f := fun x => F ((L0 - d.lo).toNat + (f.toNat + x))) (n := (t + 1).toNat - f.toNat) (fun x hx => hnn _)
      have q1 : sumR ((t + 1).toNat - f.toNat) (fun x => cs.getD (f.toNat + x) 0) = sumR ((t + 1).toNat - f.toNat) (fun x => min m (F ((L0 - d.lo).toNat + (f.toNat + x)))) := sumR_congr (fun x hx => ih' _ (by omega))
      have q2 : sumR ((t + 1).toNat - f.toNat) (fun x => if stepB d ((L0 - d.lo).toNat + (f.toNat + x)) ((L1 - d.lo).toNat + i) then F ((L0 - d.lo).toNat + (f.toNat + x)) else 0) = sumR ((t + 1).toNat - f.toNat) (fun x => F ((L0 - d.lo).toNat + (f.toNat + x))) := sumR_congr (fun x hx => if_pos ((hst _ (by omega)).2 (by omega)))
      rw [q1, q2, ← q]
      omega
    · rw [if_neg hft, sumR_congr (g := fun _ => 0) (fun x hx => if_neg (fun h' => by
        have := (hst x (by omega)).1 h'
        omega)), sumR_zero]
      omega
theorem cntE_eq (hok : ∀ i : Nat, i < n → rLo d l (d.first + i) ≤ rHi d l (d.first + i)) {m : Int} (hm : 1 ≤ m) : cntE d n (rLoL d l n) (rHiL d l n) m = min m (totN d l n) := by
  have hb := valid_bounds hv
  unfold cntE
  by_cases hw : ∃ i, i < n ∧ m ≤ (rHiL d l n).getD i 0 - (rLoL d l n).getD i 0 + 1
  · rw [if_pos hw]
    obtain ⟨i, hi, h⟩ := hw
    rw [(rL_get d l n i hi).1, (rL_get d l n i hi).2] at h
    have := tot_ge hv hl hn hok hi
    omega
  · rw [if_neg hw, cntK_len, (rL_get d l n (n - 1) (by omega)).1, (rL_get d l n (n - 1) (by omega)).2, sumT_R]
    unfold totN
    rw [tot_win hv hl hn hok (k := n - 1) (by omega) _ (fun j hj => by
      have := cF_nn d l (n - 1) j
      apply Classical.byContradiction
      intro hne
      exact hj (last_in hv hl hn (by omega)))]
    have r := en_rng hv hl hn (k := n - 1) (by omega) hok
    have e := cntK_eq hv hl hn hok hm (n - 1) (by omega)
    have q := sumR_min (m := m) (by omega) (f := fun x => cF d l (n - 1) ((rLo d l (d.first + ((n - 1 : Nat) : Int)) - d.lo).toNat + x)) (n := (rHi d l (d.first + ((n - 1 : Nat) : Int)) - rLo d l (d.first + ((n - 1 : Nat) : Int)) + 1).toNat) (fun x hx => cF_nn _ _ _ _)
    rw [sumR_congr (fun x hx => e x (by omega)), ← q]
    omega
end
theorem totN_nn (d : Dc) (l : List Cl) (n : Nat) : 0 ≤ totN d l n := sumR_nn (fun j hj => cF_nn _ _ _ _)
theorem cntR_eq {d : Dc} {l : List Cl} (hv : validCode d = 0) (hl : ∀ c ∈ l, validB d c = true) (hll : l.length ≤ 4096) (most : Int) : cntR d l most = max 0 (min (min most 10000) (totN d l (spanN d))) := by
  have hbd := valid_bounds hv
  have hsp : (spanN d : Int) = d.last - d.first + 1 := by unfold spanN; omega
  have hnn := totN_nn d l (spanN d)
  rcases two_ok hv hll hl with ⟨hok, hN⟩ | ⟨hno, hN⟩
  · rw [cntR, hN]
    by_cases h0 : min most 10000 ≤ 0
    · rw [if_pos (.inr h0)]; omega
    · rw [if_neg (by simp; omega)]
      simp only
      rw [cntE_eq hv hl hsp hok (by omega)]
      omega
  · have h0 : totN d l (spanN d) = 0 := by
      apply Classical.byContradiction
      intro hne
      exact hno (tot_ok hv hl hsp (by omega))
    rw [cntR, hN, if_pos (by simp), h0]
    omega
/-! the reference's lists -/
def wasL (d : Dc) (l : List Cl) (k : Nat) : List Int := (List.range (valS d)).map fun j => if k = 0 then 0 else min 10000 (cF d l (k - 1) j)
theorem wasL_len (d : Dc) (l : List Cl) (k : Nat) : (wasL d l k).length = valS d := by simp [wasL]
theorem wasL_bd (d : Dc) (l : List Cl) (k j : Nat) : 0 ≤ (wasL d l k).getD j 0 ∧ (wasL d l k).getD j 0 ≤ 10000 := by
  by_cases hj : j < valS d
  · have e : (wasL d l k).getD j 0 = if k = 0 then 0 else min 10000 (cF d l (k - 1) j) := map_get _ _ _ hj
    rw [e]
    have := cF_nn d l (k - 1) j
    split <;> omega
  · rw [getD_out (by rw [wasL_len]; omega)]
    omega
/-- The list in the making: the values below `b` are done. -/
def nowL (d : Dc) (l : List Cl) (k : Nat) (b : Int) : List Int := (List.range (valS d)).map fun (j : Nat) => if d.lo + (j : Int) < b then min 10000 (cF d l k j) else 0
theorem nowL_len (d : Dc) (l : List Cl) (k : Nat) (b : Int) : (nowL d l k b).length = valS d := by simp [nowL]
theorem nowL_bd (d : Dc) (l : List Cl) (k : Nat) (b : Int) (j : Nat) : 0 ≤ (nowL d l k b).getD j 0 ∧ (nowL d l k b).getD j 0 ≤ 10000 := by
  by_cases hj : j < valS d
  · have e : (nowL d l k b).getD j 0 = if d.lo + (j : Int) < b then min 10000 (cF d l k j) else 0 := map_get _ _ _ hj
    rw [e]
    have := cF_nn d l k j
    split <;> omega
  · rw [getD_out (by rw [nowL_len]; omega)]
    omega
theorem nowL_get0 {d : Dc} {l : List Cl} {k j : Nat} {b : Int} (h : b ≤ d.lo + j) : (nowL d l k b).getD j 0 = 0 := by
  by_cases hj : j < valS d
  · have e : (nowL d l k b).getD j 0 = if d.lo + (j : Int) < b then min 10000 (cF d l k j) else 0 := map_get _ _ _ hj
    rw [e, if_neg (by omega)]
  · rw [getD_out (by rw [nowL_len]; omega)]
theorem list_ext' {xs ys : List Int} (hl : xs.length = ys.length) (h : ∀ i, i < xs.length → xs.getD i 0 = ys.getD i 0) : xs = ys := by
  refine List.ext_getElem hl (fun i h1 h2 => ?_)
  have := h i h1
  simpa [List.getD_eq_getElem?_getD, h1, h2] using this
theorem set_getD' (xs : List Int) (i j : Nat) (x : Int) (hi : i < xs.length) : (xs.set i x).getD j 0 = if i = j then x else xs.getD j 0 := by
  by_cases h : i = j
  · subst h
    rw [if_pos rfl]
    simp [List.getD_eq_getElem?_getD, hi]
  · rw [if_neg h]
    simp only [List.getD_eq_getElem?_getD]
    rw [List.getElem?_set_ne h]
theorem nowL_first {d : Dc} {l : List Cl} {k : Nat} : nowL d l k (lowB d l (d.first + k)) = List.replicate (valS d) 0 := by
  refine list_ext' (by simp [nowL]) (fun i hi => ?_)
  rw [nowL_len] at hi
  have e : (nowL d l k (lowB d l (d.first + k))).getD i 0 = if d.lo + (i : Int) < lowB d l (d.first + k) then min 10000 (cF d l k i) else 0 := map_get _ _ _ hi
  have e2 : (List.replicate (valS d) (0 : Int)).getD i 0 = 0 := by simp [List.getD_eq_getElem?_getD, hi]
  rw [e, e2]
  split
  · rename_i h
    have hz : cF d l k i = 0 := by
      have := cF_nn d l k i
      apply Classical.byContradiction
      intro hne
      have := cF_in (d := d) (l := l) (k := k) (j := i) (by omega)
      unfold inBd at this
      omega
    rw [hz]; rfl
  · rfl
theorem nowL_set0 {d : Dc} {l : List Cl} {k j : Nat} (hj : j < valS d) : (nowL d l k (d.lo + j)).set j 0 = nowL d l k (d.lo + j) := by
  refine list_ext' (by simp) (fun i hi => ?_)
  rw [set_getD' _ _ _ _ (by rw [nowL_len]; exact hj)]
  by_cases h : j = i
  · subst h
    rw [if_pos rfl, nowL_get0 (Int.le_refl _)]
  · rw [if_neg h]
theorem nowL_next {d : Dc} {l : List Cl} {k j : Nat} (hj : j < valS d) : (nowL d l k (d.lo + j)).set j (min 10000 (cF d l k j)) = nowL d l k (d.lo + j + 1) := by
  refine list_ext' (by simp [nowL_len]) (fun i hi => ?_)
  rw [List.length_set, nowL_len] at hi
  rw [set_getD' _ _ _ _ (by rw [nowL_len]; exact hj)]
  have e1 : (nowL d l k (d.lo + j)).getD i 0 = if d.lo + (i : Int) < d.lo + j then min 10000 (cF d l k i) else 0 := map_get _ _ _ hi
  have e2 : (nowL d l k (d.lo + j + 1)).getD i 0 = if d.lo + (i : Int) < d.lo + j + 1 then min 10000 (cF d l k i) else 0 := map_get _ _ _ hi
  rw [e1, e2]
  by_cases h : j = i
  · subst h
    rw [if_pos rfl, if_pos (by omega)]
  · rw [if_neg h]
    by_cases h2 : d.lo + (i : Int) < d.lo + j
    · rw [if_pos h2, if_pos (by omega)]
    · rw [if_neg h2, if_neg (by omega)]
theorem nowL_last {d : Dc} {l : List Cl} {k : Nat} {b : Int} (hb : highB d l (d.first + k) < b) : nowL d l k b = wasL d l (k + 1) := by
  refine list_ext' (by simp [nowL_len, wasL_len]) (fun i hi => ?_)
  rw [nowL_len] at hi
  have e1 : (nowL d l k b).getD i 0 = if d.lo + (i : Int) < b then min 10000 (cF d l k i) else 0 := map_get _ _ _ hi
  have e2 : (wasL d l (k + 1)).getD i 0 = if k + 1 = 0 then 0 else min 10000 (cF d l (k + 1 - 1) i) := map_get _ _ _ hi
  rw [e1, e2, if_neg (show ¬ k + 1 = 0 by omega), show k + 1 - 1 = k by omega]
  split
  · rfl
  · rename_i h
    have hz : cF d l k i = 0 := by
      have := cF_nn d l k i
      apply Classical.byContradiction
      intro hne
      have := cF_in (d := d) (l := l) (k := k) (j := i) (by omega)
      unfold inBd at this
      omega
    rw [hz]; rfl
/-- What the inner loop has summed after `r` rounds. -/
def accV (d : Dc) (l : List Cl) (k j r : Nat) : Int := if k = 0 then 1 else min 10000 (sumR r (fun i => if 0 ≤ (j : Int) - d.up + i ∧ (j : Int) - d.up + i < valS d then (wasL d l k).getD ((j : Int) - d.up + i).toNat 0 else 0))
theorem accV_bd (d : Dc) (l : List Cl) (k j r : Nat) : 0 ≤ accV d l k j r ∧ accV d l k j r ≤ 10000 := by
  unfold accV
  split
  · omega
  · have := sumR_nn (n := r) (f := fun i => if 0 ≤ (j : Int) - d.up + i ∧ (j : Int) - d.up + i < valS d then (wasL d l k).getD ((j : Int) - d.up + i).toNat 0 else 0) (fun i hi => by
      have := wasL_bd d l k ((j : Int) - d.up + i).toNat
      show 0 ≤ (if 0 ≤ (j : Int) - d.up + i ∧ (j : Int) - d.up + i < valS d then (wasL d l k).getD ((j : Int) - d.up + i).toNat 0 else 0)
      split <;> omega)
    omega
theorem accV_step {d : Dc} {l : List Cl} {k j r : Nat} (hk : k ≠ 0) (h : 0 ≤ (j : Int) - d.up + r ∧ (j : Int) - d.up + r < valS d) : accV d l k j (r + 1) = min 10000 (accV d l k j r + (wasL d l k).getD ((j : Int) - d.up + r).toNat 0) := by
  have := wasL_bd d l k ((j : Int) - d.up + r).toNat
  unfold accV
  rw [if_neg hk, if_neg hk]
  simp only [sumR]
  rw [if_pos h]
  omega
theorem accV_keep {d : Dc} {l : List Cl} {k j r : Nat} (h : k = 0 ∨ ¬ (0 ≤ (j : Int) - d.up + r ∧ (j : Int) - d.up + r < valS d)) : accV d l k j (r + 1) = accV d l k j r := by
  unfold accV
  by_cases hk : k = 0
  · rw [if_pos hk, if_pos hk]
  · rw [if_neg hk, if_neg hk]
    simp only [sumR]
    rw [if_neg (by rcases h with h | h; exact absurd h hk; exact h), Int.add_zero]
theorem accV_full {d : Dc} {l : List Cl} {k j r : Nat} (hr : (r : Int) = d.up - d.down + 1) (hin : inBd d l k j) : accV d l k j r = min 10000 (cF d l k j) := by
  unfold accV
  cases k with
  | zero => rw [if_pos rfl]; simp only [cF]; rw [if_pos hin]; rfl
  | succ k =>
    rw [if_neg (by omega), sumR_reindex (fun x => (wasL d l (k + 1)).getD x 0) ((j : Int) - d.up) (valS d) r]
    simp only [cF]
    rw [if_pos hin]
    have q := sumR_min (m := 10000) (by omega) (f := fun i => if stepB d i j then cF d l k i else 0) (n := valS d) (fun i hi => by
      have := cF_nn d l k i
      show 0 ≤ (if stepB d i j then cF d l k i else 0)
      split <;> omega)
    rw [← q]
    congr 1
    refine sumR_congr (fun i hi => ?_)
    have e : (wasL d l (k + 1)).getD i 0 = if k + 1 = 0 then 0 else min 10000 (cF d l (k + 1 - 1) i) := map_get _ _ _ hi
    rw [e, if_neg (show ¬ k + 1 = 0 by omega), show k + 1 - 1 = k by omega]
    by_cases hs : stepB d i j
    · rw [if_pos hs, if_pos (by unfold stepB at hs; omega)]
    · rw [if_neg hs, if_neg (by unfold stepB at hs; omega)]
      rfl
theorem was_tot {d : Dc} {l : List Cl} {n : Nat} (hn : 1 ≤ n) {m : Int} (hm : 0 ≤ m ∧ m ≤ 10000) : min m (sumR (valS d) (fun i => (wasL d l n).getD i 0)) = min m (totN d l n) := by
  have q := sumR_min (m := 10000) (by omega) (f := fun i => cF d l (n - 1) i) (n := valS d) (fun i hi => cF_nn _ _ _ _)
  have e : sumR (valS d) (fun i => (wasL d l n).getD i 0) = sumR (valS d) (fun i => min 10000 (cF d l (n - 1) i)) := sumR_congr (fun i hi => by
    have e : (wasL d l n).getD i 0 = if n = 0 then 0 else min 10000 (cF d l (n - 1) i) := map_get _ _ _ hi
    rw [e, if_neg (by omega)])
  rw [e]
  unfold totN
  omega
end Go.Proofs.Ytnoenmacakbhdaa
