
/- Envelopes: what the reference computes, and that it is the same. -/
import Derived.Test.YtpnngbfmmjjnaaaEc
namespace Go.Proofs.Ytpnngbfmmjjnaaa
open Go.RowKit
set_option linter.unusedVariables false
set_option linter.unusedSimpArgs false

def leastK (d : Dc) (c : Cl) (t : Int) : Nat → Int
  | 0 => lowV d c.f t c.lo
  | k + 1 => max (leastK d c t k) (lowV d (c.f + k) t c.lo)
def greatK (d : Dc) (c : Cl) (t : Int) : Nat → Int
  | 0 => highV d c.f t c.hi
  | k + 1 => min (greatK d c t k) (highV d (c.f + k) t c.hi)
def leastV (d : Dc) (c : Cl) (t : Int) : Int := leastK d c t (c.t - c.f + 1).toNat
def greatV (d : Dc) (c : Cl) (t : Int) : Int := greatK d c t (c.t - c.f + 1).toNat
theorem leastK_le (d : Dc) (c : Cl) (t x : Int) : ∀ k : Nat, leastK d c t k ≤ x ↔ lowV d c.f t c.lo ≤ x ∧ ∀ j : Nat, j < k → lowV d (c.f + j) t c.lo ≤ x
  | 0 => by simp [leastK]
  | k + 1 => by
    have ih := leastK_le d c t x k
    simp only [leastK]
    constructor
    · intro h
      have h1 := ih.1 (by omega)
      refine ⟨h1.1, fun j hj => ?_⟩
      by_cases hjk : j = k
      · subst hjk; omega
      · exact h1.2 j (by omega)
    · rintro ⟨h1, h2⟩
      have h3 := ih.2 ⟨h1, fun j hj => h2 j (by omega)⟩
      have h4 := h2 k (by omega)
      omega
theorem greatK_ge (d : Dc) (c : Cl) (t x : Int) : ∀ k : Nat, x ≤ greatK d c t k ↔ x ≤ highV d c.f t c.hi ∧ ∀ j : Nat, j < k → x ≤ highV d (c.f + j) t c.hi
  | 0 => by simp [greatK]
  | k + 1 => by
    have ih := greatK_ge d c t x k
    simp only [greatK]
    constructor
    · intro h
      have h1 := ih.1 (by omega)
      refine ⟨h1.1, fun j hj => ?_⟩
      by_cases hjk : j = k
      · subst hjk; omega
      · exact h1.2 j (by omega)
    · rintro ⟨h1, h2⟩
      have h3 := ih.2 ⟨h1, fun j hj => h2 j (by omega)⟩
      have h4 := h2 k (by omega)
      omega
theorem leastV_le {d : Dc} {c : Cl} {t x : Int} (hc : c.f ≤ c.t) : leastV d c t ≤ x ↔ ∀ s, c.f ≤ s → s ≤ c.t → lowV d s t c.lo ≤ x := by
  unfold leastV
  rw [leastK_le]
  constructor
  · rintro ⟨_, h⟩ s h1 h2
    have := h (s - c.f).toNat (by omega)
    rwa [show c.f + ((s - c.f).toNat : Int) = s by omega] at this
  · intro h
    exact ⟨h c.f (by omega) hc, fun j hj => h _ (by omega) (by omega)⟩
theorem greatV_ge {d : Dc} {c : Cl} {t x : Int} (hc : c.f ≤ c.t) : x ≤ greatV d c t ↔ ∀ s, c.f ≤ s → s ≤ c.t → x ≤ highV d s t c.hi := by
  unfold greatV
  rw [greatK_ge]
  constructor
  · rintro ⟨_, h⟩ s h1 h2
    have := h (s - c.f).toNat (by omega)
    rwa [show c.f + ((s - c.f).toNat : Int) = s by omega] at this
  · intro h
    exact ⟨h c.f (by omega) hc, fun j hj => h _ (by omega) (by omega)⟩
def rLo (d : Dc) (l : List Cl) (t : Int) : Int := l.foldl (fun a c => max a (leastV d c t)) (leastV d (rangeC d) t)
def rHi (d : Dc) (l : List Cl) (t : Int) : Int := l.foldl (fun a c => min a (greatV d c t)) (greatV d (rangeC d) t)
theorem fold_max_le (g : Cl → Int) (x : Int) : ∀ (l : List Cl) (a : Int), l.foldl (fun a c => max a (g c)) a ≤ x ↔ a ≤ x ∧ ∀ c ∈ l, g c ≤ x := by
  intro l
  induction l with
  | nil => intro a; simp
  | cons c r ih =>
    intro a
    simp only [List.foldl_cons, List.forall_mem_cons, ih]
    constructor
    · rintro ⟨h1, h2⟩; exact ⟨by omega, by omega, h2⟩
    · rintro ⟨h1, h2, h3⟩; exact ⟨by omega, h3⟩
theorem fold_min_ge (g : Cl → Int) (x : Int) : ∀ (l : List Cl) (a : Int), x ≤ l.foldl (fun a c => min a (g c)) a ↔ x ≤ a ∧ ∀ c ∈ l, x ≤ g c := by
  intro l
  induction l with
  | nil => intro a; simp
  | cons c r ih =>
    intro a
    simp only [List.foldl_cons, List.forall_mem_cons, ih]
    constructor
    · rintro ⟨h1, h2⟩; exact ⟨by omega, by omega, h2⟩
    · rintro ⟨h1, h2, h3⟩; exact ⟨by omega, h3⟩
theorem rLo_le {d : Dc} {l : List Cl} {t x : Int} : rLo d l t ≤ x ↔ ∀ c ∈ srcL d l, leastV d c t ≤ x := by
  unfold rLo srcL
  rw [fold_max_le]
  simp
theorem rHi_ge {d : Dc} {l : List Cl} {t x : Int} : x ≤ rHi d l t ↔ ∀ c ∈ srcL d l, x ≤ greatV d c t := by
  unfold rHi srcL
  rw [fold_min_ge]
  simp
theorem lowV_add (d : Dc) (a s t x : Int) : lowV d (a + s) (a + t) x = x + lowV d s t 0 := by
  unfold lowV
  have e1 : a + t - (a + s) = t - s := by omega
  have e2 : a + s - (a + t) = s - t := by omega
  by_cases h : s ≤ t
  · rw [if_pos h, if_pos (by omega), e1]; omega
  · rw [if_neg h, if_neg (by omega), e2]; omega
theorem highV_add (d : Dc) (a s t x : Int) : highV d (a + s) (a + t) x = x + highV d s t 0 := by
  unfold highV
  have e1 : a + t - (a + s) = t - s := by omega
  have e2 : a + s - (a + t) = s - t := by omega
  by_cases h : s ≤ t
  · rw [if_pos h, if_pos (by omega), e1]; omega
  · rw [if_neg h, if_neg (by omega), e2]; omega
theorem lowV_0 (d : Dc) (s t x : Int) : lowV d s t x = x + lowV d s t 0 := by have := lowV_add d 0 s t x; simpa using this
theorem highV_0 (d : Dc) (s t x : Int) : highV d s t x = x + highV d s t 0 := by have := highV_add d 0 s t x; simpa using this
/-- The bounds of any sources, where -unbounded does no harm. -/
theorem bLo_le {d : Dc} {ss : List Cl} {n i : Nat} {x : Int} (hd : d.down ≤ d.up) (hi : i < n) : bLo d ss n i ≤ x ↔ (∀ j : Nat, j < n → -1125899906842624 + lowV d j i 0 ≤ x) ∧ ∀ j : Nat, j < n → ∀ c ∈ ss, c.f ≤ d.first + j → d.first + j ≤ c.t → c.lo + lowV d j i 0 ≤ x := by
  unfold bLo
  rw [both_le d _ n i x hi hd]
  have key : ∀ j : Nat, lowV d j i (lo0 d ss j) ≤ x ↔ (-1125899906842624 + lowV d j i 0 ≤ x) ∧ ∀ c ∈ ss, c.f ≤ d.first + j → d.first + j ≤ c.t → c.lo + lowV d j i 0 ≤ x := by
    intro j
    have h1 : lowV d j i (lo0 d ss j) ≤ x ↔ lo0 d ss j ≤ x - lowV d j i 0 := by rw [lowV_0]; omega
    rw [h1]
    unfold lo0
    rw [lowB_le]
    constructor
    · rintro ⟨g1, g2⟩
      refine ⟨by simp only [dU] at g1; omega, fun c hc a1 a2 => ?_⟩
      have := g2 c hc a1 a2
      omega
    · rintro ⟨g1, g2⟩
      refine ⟨by simp only [dU]; omega, fun c hc a1 a2 => ?_⟩
      have := g2 c hc a1 a2
      omega
  constructor
  · intro h
    exact ⟨fun j hj => ((key j).1 (h j hj)).1, fun j hj => ((key j).1 (h j hj)).2⟩
  · rintro ⟨h1, h2⟩ j hj
    exact (key j).2 ⟨h1 j hj, h2 j hj⟩
theorem bHi_ge {d : Dc} {ss : List Cl} {n i : Nat} {x : Int} (hd : d.down ≤ d.up) (hi : i < n) : x ≤ bHi d ss n i ↔ (∀ j : Nat, j < n → x ≤ 1125899906842624 + highV d j i 0) ∧ ∀ j : Nat, j < n → ∀ c ∈ ss, c.f ≤ d.first + j → d.first + j ≤ c.t → x ≤ c.hi + highV d j i 0 := by
  unfold bHi
  rw [both_ge d _ n i x hi hd]
  have key : ∀ j : Nat, x ≤ highV d j i (hi0 d ss j) ↔ (x ≤ 1125899906842624 + highV d j i 0) ∧ ∀ c ∈ ss, c.f ≤ d.first + j → d.first + j ≤ c.t → x ≤ c.hi + highV d j i 0 := by
    intro j
    have h1 : x ≤ highV d j i (hi0 d ss j) ↔ x - highV d j i 0 ≤ hi0 d ss j := by rw [highV_0]; omega
    rw [h1]
    unfold hi0
    rw [le_highB]
    constructor
    · rintro ⟨g1, g2⟩
      refine ⟨by simp only [dU] at g1; omega, fun c hc a1 a2 => ?_⟩
      have := g2 c hc a1 a2
      omega
    · rintro ⟨g1, g2⟩
      refine ⟨by simp only [dU]; omega, fun c hc a1 a2 => ?_⟩
      have := g2 c hc a1 a2
      omega
  constructor
  · intro h
    exact ⟨fun j hj => ((key j).1 (h j hj)).1, fun j hj => ((key j).1 (h j hj)).2⟩
  · rintro ⟨h1, h2⟩ j hj
    exact (key j).2 ⟨h1 j hj, h2 j hj⟩
theorem bLo_eq {d : Dc} {l : List Cl} {n i : Nat} (hv : validCode d = 0) (hl : ∀ c ∈ l, validB d c = true) (hn : (n : Int) = d.last - d.first + 1) (hi : i < n) : bLo d (srcL d l) n i = rLo d l (d.first + i) := by
  have hb := valid_bounds hv
  have hok := src_ok hv hl
  have key : ∀ x, bLo d (srcL d l) n i ≤ x ↔ rLo d l (d.first + i) ≤ x := by
    intro x
    rw [bLo_le (by omega) hi, rLo_le]
    constructor
    · rintro ⟨_, h⟩ c hc
      have hc1 := hok c hc
      unfold SrcOk at hc1
      rw [leastV_le (by omega)]
      intro s h1 h2
      have := h (s - d.first).toNat (by omega) c hc (by omega) (by omega)
      have e := lowV_add d d.first (s - d.first) i c.lo
      rw [show d.first + (s - d.first) = s by omega] at e
      rw [e]
      rwa [show ((s - d.first).toNat : Int) = s - d.first by omega] at this
    · intro h
      have h3 : ∀ j : Nat, j < n → ∀ c ∈ srcL d l, c.f ≤ d.first + j → d.first + j ≤ c.t → c.lo + lowV d j i 0 ≤ x := by
        intro j hj c hc h1 h2
        have hc1 := hok c hc
        unfold SrcOk at hc1
        have := (leastV_le (by omega)).1 (h c hc) (d.first + j) h1 h2
        rwa [lowV_add] at this
      refine ⟨fun j hj => ?_, h3⟩
      have := h3 j hj (rangeC d) (List.mem_cons_self ..) (by simp only [rangeC]; omega) (by simp only [rangeC]; omega)
      simp only [rangeC] at this
      omega
  exact Int.le_antisymm ((key _).2 (Int.le_refl _)) ((key _).1 (Int.le_refl _))
theorem bHi_eq {d : Dc} {l : List Cl} {n i : Nat} (hv : validCode d = 0) (hl : ∀ c ∈ l, validB d c = true) (hn : (n : Int) = d.last - d.first + 1) (hi : i < n) : bHi d (srcL d l) n i = rHi d l (d.first + i) := by
  have hb := valid_bounds hv
  have hok := src_ok hv hl
  have key : ∀ x, x ≤ bHi d (srcL d l) n i ↔ x ≤ rHi d l (d.first + i) := by
    intro x
    rw [bHi_ge (by omega) hi, rHi_ge]
    constructor
    · rintro ⟨_, h⟩ c hc
      have hc1 := hok c hc
      unfold SrcOk at hc1
      rw [greatV_ge (by omega)]
      intro s h1 h2
      have := h (s - d.first).toNat (by omega) c hc (by omega) (by omega)
      have e := highV_add d d.first (s - d.first) i c.hi
      rw [show d.first + (s - d.first) = s by omega] at e
      rw [e]
      rwa [show ((s - d.first).toNat : Int) = s - d.first by omega] at this
    · intro h
      have h3 : ∀ j : Nat, j < n → ∀ c ∈ srcL d l, c.f ≤ d.first + j → d.first + j ≤ c.t → x ≤ c.hi + highV d j i 0 := by
        intro j hj c hc h1 h2
        have hc1 := hok c hc
        unfold SrcOk at hc1
        have := (greatV_ge (by omega)).1 (h c hc) (d.first + j) h1 h2
        rwa [highV_add] at this
      refine ⟨fun j hj => ?_, h3⟩
      have := h3 j hj (rangeC d) (List.mem_cons_self ..) (by simp only [rangeC]; omega) (by simp only [rangeC]; omega)
      simp only [rangeC] at this
      omega
  exact Int.le_antisymm ((key _).1 (Int.le_refl _)) ((key _).2 (Int.le_refl _))
/-! the reference's New -/
def rLoL (d : Dc) (l : List Cl) (n : Nat) : List Int := (List.range n).map fun i : Nat => rLo d l (d.first + i)
def rHiL (d : Dc) (l : List Cl) (n : Nat) : List Int := (List.range n).map fun i : Nat => rHi d l (d.first + i)
theorem rLoL_len (d : Dc) (l : List Cl) (n : Nat) : (rLoL d l n).length = n := by simp [rLoL]
theorem rHiL_len (d : Dc) (l : List Cl) (n : Nat) : (rHiL d l n).length = n := by simp [rHiL]
theorem rLoL_succ (d : Dc) (l : List Cl) (n : Nat) : rLoL d l (n + 1) = rLoL d l n ++ [rLo d l (d.first + n)] := by simp [rLoL, List.range_succ]
theorem rHiL_succ (d : Dc) (l : List Cl) (n : Nat) : rHiL d l (n + 1) = rHiL d l n ++ [rHi d l (d.first + n)] := by simp [rHiL, List.range_succ]
theorem bLoL_eq {d : Dc} {l : List Cl} {n : Nat} (hv : validCode d = 0) (hl : ∀ c ∈ l, validB d c = true) (hn : (n : Int) = d.last - d.first + 1) : bLoL d (srcL d l) n = rLoL d l n :=
  List.map_congr_left fun i hi => bLo_eq hv hl hn (List.mem_range.1 hi)
theorem bHiL_eq {d : Dc} {l : List Cl} {n : Nat} (hv : validCode d = 0) (hl : ∀ c ∈ l, validB d c = true) (hn : (n : Int) = d.last - d.first + 1) : bHiL d (srcL d l) n = rHiL d l n :=
  List.map_congr_left fun i hi => bHi_eq hv hl hn (List.mem_range.1 hi)
theorem rL_get (d : Dc) (l : List Cl) (n i : Nat) (h : i < n) : (rLoL d l n).getD i 0 = rLo d l (d.first + i) ∧ (rHiL d l n).getD i 0 = rHi d l (d.first + i) := by
  simp [rLoL, rHiL, List.getD_eq_getElem?_getD, h]
/-- When check is silent: what New returns. -/
theorem newR_cases {d : Dc} {l : List Cl} {n : Nat} (hv : validCode d = 0) (hll : l.length ≤ 4096) (hl : ∀ c ∈ l, validB d c = true) (hn : (n : Int) = d.last - d.first + 1) :
    ((∀ i : Nat, i < n → rLo d l (d.first + i) ≤ rHi d l (d.first + i)) ∧ newR d l = (⟨d.first, rLoL d l n, rHiL d l n⟩, 0)) ∨ (¬ (∀ i : Nat, i < n → rLo d l (d.first + i) ≤ rHi d l (d.first + i)) ∧ newR d l = (env0', 13)) := by
  have hb := valid_bounds hv
  have hok := src_ok hv hl
  have hcr : crossB (rLoL d l n) (rHiL d l n) = true ↔ ¬ (∀ i : Nat, i < n → rLo d l (d.first + i) ≤ rHi d l (d.first + i)) := by
    rw [crossB_t, rLoL_len]
    constructor
    · rintro ⟨i, hi, h⟩ hh
      have := hh i hi
      rw [(rL_get d l n i hi).1, (rL_get d l n i hi).2] at h
      omega
    · intro h
      apply Classical.byContradiction
      intro hh
      apply h
      intro i hi
      apply Int.le_of_not_gt
      intro hg
      exact hh ⟨i, hi, by rw [(rL_get d l n i hi).1, (rL_get d l n i hi).2]; exact hg⟩
  unfold newR
  rw [show (d.last - d.first + 1).toNat = n by omega, bLoL_eq hv hl hn, bHiL_eq hv hl hn]
  rcases bands_cases hv hll hl hn with ⟨h1, h2⟩ | ⟨h1, h2⟩
  · rw [h2]
    simp only [ne_eq, not_true_eq_false, if_false]
    by_cases hx : ∀ i : Nat, i < n → rLo d l (d.first + i) ≤ rHi d l (d.first + i)
    · rw [if_neg (fun h => hcr.1 h hx)]
      exact .inl ⟨hx, rfl⟩
    · rw [if_pos (hcr.2 hx)]
      exact .inr ⟨hx, rfl⟩
  · rw [h2]
    refine .inr ⟨fun hx => h1 fun i hi => ?_, by simp⟩
    have h3 := hx i hi
    have h4 : lowB d l (d.first + i) ≤ rLo d l (d.first + i) := by
      rw [lowB_le]
      have key : ∀ c ∈ srcL d l, c.f ≤ d.first + i → d.first + i ≤ c.t → c.lo ≤ rLo d l (d.first + i) := fun c hc a1 a2 => by
        have := (rLo_le.1 (Int.le_refl (rLo d l (d.first + i)))) c hc
        have := (leastV_le (by omega)).1 this (d.first + i) a1 a2
        simpa [lowV] using this
      refine ⟨key (rangeC d) (List.mem_cons_self ..) (by simp only [rangeC]; omega) (by simp only [rangeC]; omega), fun c hc a1 a2 => key c (List.mem_cons_of_mem _ hc) a1 a2⟩
    have h5 : rHi d l (d.first + i) ≤ highB d l (d.first + i) := by
      rw [le_highB]
      have key : ∀ c ∈ srcL d l, c.f ≤ d.first + i → d.first + i ≤ c.t → rHi d l (d.first + i) ≤ c.hi := fun c hc a1 a2 => by
        have := (rHi_ge.1 (Int.le_refl (rHi d l (d.first + i)))) c hc
        have := (greatV_ge (by omega)).1 this (d.first + i) a1 a2
        simpa [highV] using this
      refine ⟨key (rangeC d) (List.mem_cons_self ..) (by simp only [rangeC]; omega) (by simp only [rangeC]; omega), fun c hc a1 a2 => key c (List.mem_cons_of_mem _ hc) a1 a2⟩
    omega
end Go.Proofs.Ytpnngbfmmjjnaaa
