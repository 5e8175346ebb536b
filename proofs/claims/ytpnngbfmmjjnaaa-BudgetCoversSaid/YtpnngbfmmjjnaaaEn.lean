
/- Envelopes: histories lie between the bounds, and the bounds are histories. No program in sight. -/
import Derived.Test.YtpnngbfmmjjnaaaEi
namespace Go.Proofs.Ytpnngbfmmjjnaaa
open Go.RowKit
set_option linter.unusedVariables false
set_option linter.unusedSimpArgs false

/-- Values are a history. -/
def HistP (d : Dc) (l : List Cl) (vs : List Int) : Prop := (vs.length : Int) = d.last - d.first + 1 ∧
  (∀ i : Nat, i < vs.length → (d.lo ≤ vs.getD i 0 ∧ vs.getD i 0 ≤ d.hi) ∧ (0 < i → d.down ≤ vs.getD i 0 - vs.getD (i - 1) 0 ∧ vs.getD i 0 - vs.getD (i - 1) 0 ≤ d.up)) ∧ ∀ c ∈ l, HoldsP d c vs
noncomputable def histB (d : Dc) (l : List Cl) (vs : List Int) : Bool := @decide (HistP d l vs) (Classical.propDecidable _)
theorem histB_t {d : Dc} {l : List Cl} {vs : List Int} : histB d l vs = true ↔ HistP d l vs := by simp [histB]
theorem histB_f {d : Dc} {l : List Cl} {vs : List Int} : histB d l vs = false ↔ ¬ HistP d l vs := by simp [histB]
theorem hist_gap {d : Dc} {l : List Cl} {vs : List Int} (h : HistP d l vs) (s : Nat) : ∀ k : Nat, s + k < vs.length → vs.getD s 0 + d.down * (k : Int) ≤ vs.getD (s + k) 0 ∧ vs.getD (s + k) 0 ≤ vs.getD s 0 + d.up * (k : Int)
  | 0, _ => by simp
  | k + 1, hk => by
    have ih := hist_gap h s k (by omega)
    have := (h.2.1 (s + (k + 1)) hk).2 (by omega)
    rw [show s + (k + 1) - 1 = s + k by omega] at this
    have e1 : d.down * ((k + 1 : Nat) : Int) = d.down * (k : Int) + d.down := by rw [Int.natCast_add, Int.mul_add]; simp
    have e2 : d.up * ((k + 1 : Nat) : Int) = d.up * (k : Int) + d.up := by rw [Int.natCast_add, Int.mul_add]; simp
    omega
theorem hist_low {d : Dc} {l : List Cl} {vs : List Int} (h : HistP d l vs) {s t : Nat} (hs : s < vs.length) (ht : t < vs.length) : lowV d s t (vs.getD s 0) ≤ vs.getD t 0 ∧ vs.getD t 0 ≤ highV d s t (vs.getD s 0) := by
  unfold lowV highV
  by_cases hst : s ≤ t
  · rw [if_pos (by omega), if_pos (by omega)]
    have := hist_gap h s (t - s) (by omega)
    rw [show s + (t - s) = t by omega, show ((t - s : Nat) : Int) = (t : Int) - s by omega] at this
    exact this
  · rw [if_neg (by omega), if_neg (by omega)]
    have := hist_gap h t (s - t) (by omega)
    rw [show t + (s - t) = s by omega, show ((s - t : Nat) : Int) = (s : Int) - t by omega] at this
    omega
theorem hist_in {d : Dc} {l : List Cl} {vs : List Int} (hv : validCode d = 0) (hl : ∀ c ∈ l, validB d c = true) (h : HistP d l vs) {i : Nat} (hi : i < vs.length) : rLo d l (d.first + i) ≤ vs.getD i 0 ∧ vs.getD i 0 ≤ rHi d l (d.first + i) := by
  have hok := src_ok hv hl
  have hin : ∀ c ∈ srcL d l, ∀ s : Nat, c.f ≤ d.first + s → d.first + s ≤ c.t → s < vs.length → c.lo ≤ vs.getD s 0 ∧ vs.getD s 0 ≤ c.hi := by
    intro c hc s h1 h2 h3
    rcases List.mem_cons.1 hc with rfl | hc
    · exact (h.2.1 s h3).1
    · exact (h.2.2 c hc).2.2 s (by omega) (by omega)
  have hlen := h.1
  constructor
  · rw [rLo_le]
    intro c hc
    have hc1 := hok c hc
    unfold SrcOk at hc1
    rw [leastV_le (by omega)]
    intro s h1 h2
    obtain ⟨k, hk⟩ : ∃ k : Nat, s = d.first + k := ⟨(s - d.first).toNat, by omega⟩
    subst hk
    have a1 := hin c hc k h1 h2 (by omega)
    have a2 := (hist_low h (s := k) (t := i) (by omega) hi).1
    rw [lowV_0] at a2
    rw [lowV_add]
    omega
  · rw [rHi_ge]
    intro c hc
    have hc1 := hok c hc
    unfold SrcOk at hc1
    rw [greatV_ge (by omega)]
    intro s h1 h2
    obtain ⟨k, hk⟩ : ∃ k : Nat, s = d.first + k := ⟨(s - d.first).toNat, by omega⟩
    subst hk
    have a1 := hin c hc k h1 h2 (by omega)
    have a2 := (hist_low h (s := k) (t := i) (by omega) hi).2
    rw [highV_0] at a2
    rw [highV_add]
    omega
theorem lowV_step {d : Dc} (h : d.down ≤ d.up) (s t x : Int) : lowV d s t x + d.down ≤ lowV d s (t + 1) x ∧ lowV d s (t + 1) x ≤ lowV d s t x + d.up := by
  unfold lowV
  by_cases h1 : s ≤ t
  · rw [if_pos h1, if_pos (by omega)]
    have e : d.down * (t + 1 - s) = d.down * (t - s) + d.down := by rw [show t + 1 - s = t - s + 1 by omega, Int.mul_add]; simp
    omega
  · rw [if_neg h1]
    by_cases h2 : s ≤ t + 1
    · have : s = t + 1 := by omega
      subst this
      rw [if_pos (by omega), show t + 1 - (t + 1) = 0 by omega, show t + 1 - t = 1 by omega]
      simp only [Int.mul_zero, Int.mul_one]
      omega
    · rw [if_neg h2]
      have e : d.up * (s - t) = d.up * (s - (t + 1)) + d.up := by rw [show s - t = s - (t + 1) + 1 by omega, Int.mul_add]; simp
      omega
theorem highV_step {d : Dc} (h : d.down ≤ d.up) (s t x : Int) : highV d s t x + d.down ≤ highV d s (t + 1) x ∧ highV d s (t + 1) x ≤ highV d s t x + d.up := by
  unfold highV
  by_cases h1 : s ≤ t
  · rw [if_pos h1, if_pos (by omega)]
    have e : d.up * (t + 1 - s) = d.up * (t - s) + d.up := by rw [show t + 1 - s = t - s + 1 by omega, Int.mul_add]; simp
    omega
  · rw [if_neg h1]
    by_cases h2 : s ≤ t + 1
    · have : s = t + 1 := by omega
      subst this
      rw [if_pos (by omega), show t + 1 - (t + 1) = 0 by omega, show t + 1 - t = 1 by omega]
      simp only [Int.mul_zero, Int.mul_one]
      omega
    · rw [if_neg h2]
      have e : d.down * (s - t) = d.down * (s - (t + 1)) + d.down := by rw [show s - t = s - (t + 1) + 1 by omega, Int.mul_add]; simp
      omega
theorem rLo_step {d : Dc} {l : List Cl} (hv : validCode d = 0) (hl : ∀ c ∈ l, validB d c = true) (t : Int) : rLo d l t + d.down ≤ rLo d l (t + 1) ∧ rLo d l (t + 1) ≤ rLo d l t + d.up := by
  have hb := valid_bounds hv
  have hok := src_ok hv hl
  have self : ∀ u, ∀ c ∈ srcL d l, ∀ s, c.f ≤ s → s ≤ c.t → lowV d s u c.lo ≤ rLo d l u := by
    intro u c hc s h1 h2
    exact (leastV_le (by omega)).1 ((rLo_le (x := rLo d l u)).1 (Int.le_refl _) c hc) s h1 h2
  constructor
  · have : rLo d l t ≤ rLo d l (t + 1) - d.down := by
      rw [rLo_le]
      intro c hc
      have hc1 := hok c hc
      unfold SrcOk at hc1
      rw [leastV_le (by omega)]
      intro s h1 h2
      have a := self (t + 1) c hc s h1 h2
      have b := (lowV_step (d := d) (by omega) s t c.lo).1
      omega
    omega
  · rw [rLo_le]
    intro c hc
    have hc1 := hok c hc
    unfold SrcOk at hc1
    rw [leastV_le (by omega)]
    intro s h1 h2
    have a := self t c hc s h1 h2
    have b := (lowV_step (d := d) (by omega) s t c.lo).2
    omega
theorem rHi_step {d : Dc} {l : List Cl} (hv : validCode d = 0) (hl : ∀ c ∈ l, validB d c = true) (t : Int) : rHi d l t + d.down ≤ rHi d l (t + 1) ∧ rHi d l (t + 1) ≤ rHi d l t + d.up := by
  have hb := valid_bounds hv
  have hok := src_ok hv hl
  have self : ∀ u, ∀ c ∈ srcL d l, ∀ s, c.f ≤ s → s ≤ c.t → rHi d l u ≤ highV d s u c.hi := by
    intro u c hc s h1 h2
    exact (greatV_ge (by omega)).1 ((rHi_ge (x := rHi d l u)).1 (Int.le_refl _) c hc) s h1 h2
  constructor
  · rw [rHi_ge]
    intro c hc
    have hc1 := hok c hc
    unfold SrcOk at hc1
    rw [greatV_ge (by omega)]
    intro s h1 h2
    have a := self t c hc s h1 h2
    have b := (highV_step (d := d) (by omega) s t c.hi).1
    omega
  · have : rHi d l (t + 1) - d.up ≤ rHi d l t := by
      rw [rHi_ge]
      intro c hc
      have hc1 := hok c hc
      unfold SrcOk at hc1
      rw [greatV_ge (by omega)]
      intro s h1 h2
      have a := self (t + 1) c hc s h1 h2
      have b := (highV_step (d := d) (by omega) s t c.hi).2
      omega
    omega
theorem lowV_self (d : Dc) (t x : Int) : lowV d t t x = x := by simp [lowV]
theorem highV_self (d : Dc) (t x : Int) : highV d t t x = x := by simp [highV]
theorem r_src {d : Dc} {l : List Cl} {c : Cl} {t : Int} (hc : c ∈ srcL d l) (h1 : c.f ≤ t) (h2 : t ≤ c.t) : c.lo ≤ rLo d l t ∧ rHi d l t ≤ c.hi := by
  have a := (leastV_le (d := d) (t := t) (by omega)).1 ((rLo_le (x := rLo d l t)).1 (Int.le_refl _) c hc) t h1 h2
  have b := (greatV_ge (d := d) (t := t) (by omega)).1 ((rHi_ge (x := rHi d l t)).1 (Int.le_refl _) c hc) t h1 h2
  rw [lowV_self] at a
  rw [highV_self] at b
  exact ⟨a, b⟩
theorem rL_hist {d : Dc} {l : List Cl} {n : Nat} (hv : validCode d = 0) (hl : ∀ c ∈ l, validB d c = true) (hn : (n : Int) = d.last - d.first + 1) (h : ∀ i : Nat, i < n → rLo d l (d.first + i) ≤ rHi d l (d.first + i)) : HistP d l (rLoL d l n) ∧ HistP d l (rHiL d l n) := by
  have hok := src_ok hv hl
  have hg := fun i hi => rL_get d l n i hi
  have hr : rangeC d ∈ srcL d l := List.mem_cons_self ..
  refine ⟨⟨by rw [rLoL_len]; exact hn, fun i hi => ?_, fun c hc => ?_⟩, ⟨by rw [rHiL_len]; exact hn, fun i hi => ?_, fun c hc => ?_⟩⟩
  · rw [rLoL_len] at hi
    rw [(hg i hi).1]
    have a := r_src (t := d.first + i) hr (by show d.first ≤ _; omega) (by show _ ≤ d.last; omega)
    have b := h i hi
    simp only [rangeC] at a
    refine ⟨by omega, fun h0 => ?_⟩
    rw [(hg (i - 1) (by omega)).1]
    have c := rLo_step hv hl (d.first + ((i - 1 : Nat) : Int))
    rw [show d.first + ((i - 1 : Nat) : Int) + 1 = d.first + i by omega] at c
    omega
  · refine ⟨hl c hc, by rw [rLoL_len]; exact hn, fun i h1 h2 => ?_⟩
    have hc1 := hok c (List.mem_cons_of_mem _ hc)
    unfold SrcOk at hc1
    have hi : i < n := by omega
    rw [(hg i hi).1]
    have a := r_src (t := d.first + i) (List.mem_cons_of_mem (rangeC d) hc) (by omega) (by omega)
    have b := h i hi
    change c.lo ≤ rLo d l (d.first + i) ∧ rHi d l (d.first + i) ≤ c.hi at a
    omega
  · rw [rHiL_len] at hi
    rw [(hg i hi).2]
    have a := r_src (t := d.first + i) hr (by show d.first ≤ _; omega) (by show _ ≤ d.last; omega)
    have b := h i hi
    simp only [rangeC] at a
    refine ⟨by omega, fun h0 => ?_⟩
    rw [(hg (i - 1) (by omega)).2]
    have c := rHi_step hv hl (d.first + ((i - 1 : Nat) : Int))
    rw [show d.first + ((i - 1 : Nat) : Int) + 1 = d.first + i by omega] at c
    omega
  · refine ⟨hl c hc, by rw [rHiL_len]; exact hn, fun i h1 h2 => ?_⟩
    have hc1 := hok c (List.mem_cons_of_mem _ hc)
    unfold SrcOk at hc1
    have hi : i < n := by omega
    rw [(hg i hi).2]
    have a := r_src (t := d.first + i) (List.mem_cons_of_mem (rangeC d) hc) (by omega) (by omega)
    have b := h i hi
    change c.lo ≤ rLo d l (d.first + i) ∧ rHi d l (d.first + i) ≤ c.hi at a
    omega
theorem exists_least (p : Nat → Prop) : ∀ n, p n → ∃ m, p m ∧ ∀ k, k < m → ¬ p k := by
  intro n
  induction n using Nat.strongRecOn with
  | _ n ih =>
    intro hn
    by_cases h : ∃ k, k < n ∧ p k
    · obtain ⟨k, hk, hp⟩ := h
      exact ih k hk hp
    · exact ⟨n, hn, fun k hk hp => h ⟨k, hk, hp⟩⟩
theorem clash_ex {d : Dc} {l : List Cl} {i j : Nat} (hi : i < l.length + 1) (hj : j < l.length + 1) (h : CtrI d l i j) : (clashR d l).2.2 = true := by
  obtain ⟨a, ⟨ha, b, hb, hab⟩, hmin⟩ := exists_least (fun i => i < l.length + 1 ∧ ∃ j, j < l.length + 1 ∧ CtrI d l i j) i ⟨hi, j, hj, h⟩
  have hle : a ≤ b := Nat.le_of_not_lt fun hlt => hmin b hlt ⟨hb, a, ha, ctr_symm hab⟩
  obtain ⟨k, ⟨hk1, hk2, hk3⟩, hkm⟩ := exists_least (fun k => a ≤ k ∧ k < l.length + 1 ∧ CtrI d l a k) b ⟨hle, hb, hab⟩
  have : IsClash d l a k := ⟨hk1, hk2, hk3, fun k' h1 h2 h3 => hkm k' h2 ⟨h1, by omega, h3⟩, fun i' h1 j' h2 h3 => hmin i' h1 ⟨by omega, j', h2, h3⟩⟩
  rw [clashR_some this]
theorem tight_clash {d : Dc} {l : List Cl} {n : Nat} (hn : (n : Int) = d.last - d.first + 1) : (clashR d l).2.2 = true ↔ ¬ ∀ i : Nat, i < n → rLo d l (d.first + i) ≤ rHi d l (d.first + i) := by
  constructor
  · intro h hh
    rw [clashR_none] at h
    · cases h
    · intro i hi j hj ⟨t, h1, h2, h3⟩
      have a := hh (t - d.first).toNat (by omega)
      rw [show d.first + ((t - d.first).toNat : Int) = t by omega] at a
      have p := (rLo_le (d := d) (l := l) (t := t)).1 (Int.le_refl _)
      have q := (rHi_ge (d := d) (l := l) (t := t)).1 (Int.le_refl _)
      have mi := (mem_src (d := d)).2 ⟨i, hi, rfl⟩
      have mj := (mem_src (d := d)).2 ⟨j, hj, rfl⟩
      have p1 := p _ mi
      have p2 := p _ mj
      have q1 := q _ mi
      have q2 := q _ mj
      omega
  · intro h
    apply Classical.byContradiction
    intro hc
    apply h
    intro i hi
    rw [rLo_le]
    intro a ha
    rw [rHi_ge] at *
    intro b hb
    apply Int.le_of_not_gt
    intro hlt
    obtain ⟨x, hx, rfl⟩ := mem_src.1 ha
    obtain ⟨y, hy, rfl⟩ := mem_src.1 hb
    exact hc (clash_ex hx hy ⟨d.first + i, by omega, by omega, .inl hlt⟩)
end Go.Proofs.Ytpnngbfmmjjnaaa
