
/- Envelopes: contradictions, in plain words. No program in sight. -/
import Derived.Test.YtpnngbfmmjjnaaaEf
namespace Go.Proofs.Ytpnngbfmmjjnaaa
open Go.RowKit
set_option linter.unusedVariables false
set_option linter.unusedSimpArgs false

theorem low0_bd {d : Dc} (hv : validCode d = 0) (s t : Int) (h : -4096 ≤ t - s ∧ t - s ≤ 4096) : -4294967296 ≤ lowV d s t 0 ∧ lowV d s t 0 ≤ 4294967296 := by
  have hb := valid_bounds hv
  unfold lowV
  split
  · have := mul_bd (a := d.down) (n := t - s) (A := 1048576) (N := 4096) (by omega) (by omega) (by omega) (by omega) (by omega)
    omega
  · have := mul_bd (a := d.up) (n := s - t) (A := 1048576) (N := 4096) (by omega) (by omega) (by omega) (by omega) (by omega)
    omega
theorem high0_bd {d : Dc} (hv : validCode d = 0) (s t : Int) (h : -4096 ≤ t - s ∧ t - s ≤ 4096) : -4294967296 ≤ highV d s t 0 ∧ highV d s t 0 ≤ 4294967296 := by
  have hb := valid_bounds hv
  unfold highV
  split
  · have := mul_bd (a := d.up) (n := t - s) (A := 1048576) (N := 4096) (by omega) (by omega) (by omega) (by omega) (by omega)
    omega
  · have := mul_bd (a := d.down) (n := s - t) (A := 1048576) (N := 4096) (by omega) (by omega) (by omega) (by omega) (by omega)
    omega
theorem bLo_le' {d : Dc} {p : List Cl} {n i : Nat} {x : Int} (hv : validCode d = 0) (hp : ∀ c ∈ p, SrcOk d c) (hn : (n : Int) = d.last - d.first + 1) (hi : i < n) (hx : -562949953421312 ≤ x) : bLo d p n i ≤ x ↔ ∀ c ∈ p, leastV d c (d.first + i) ≤ x := by
  have hb := valid_bounds hv
  rw [bLo_le (by omega) hi]
  constructor
  · rintro ⟨_, h⟩ c hc
    have hc1 := hp c hc
    unfold SrcOk at hc1
    rw [leastV_le (by omega)]
    intro s h1 h2
    have := h (s - d.first).toNat (by omega) c hc (by omega) (by omega)
    have e := lowV_add d d.first (s - d.first) i c.lo
    rw [show d.first + (s - d.first) = s by omega] at e
    rw [e]
    rwa [show ((s - d.first).toNat : Int) = s - d.first by omega] at this
  · intro h
    refine ⟨fun j hj => ?_, fun j hj c hc h1 h2 => ?_⟩
    · have := low0_bd hv j i (by omega)
      omega
    · have hc1 := hp c hc
      unfold SrcOk at hc1
      have := (leastV_le (by omega)).1 (h c hc) (d.first + j) h1 h2
      rwa [lowV_add] at this
theorem bHi_ge' {d : Dc} {p : List Cl} {n i : Nat} {x : Int} (hv : validCode d = 0) (hp : ∀ c ∈ p, SrcOk d c) (hn : (n : Int) = d.last - d.first + 1) (hi : i < n) (hx : x ≤ 562949953421312) : x ≤ bHi d p n i ↔ ∀ c ∈ p, x ≤ greatV d c (d.first + i) := by
  have hb := valid_bounds hv
  rw [bHi_ge (by omega) hi]
  constructor
  · rintro ⟨_, h⟩ c hc
    have hc1 := hp c hc
    unfold SrcOk at hc1
    rw [greatV_ge (by omega)]
    intro s h1 h2
    have := h (s - d.first).toNat (by omega) c hc (by omega) (by omega)
    have e := highV_add d d.first (s - d.first) i c.hi
    rw [show d.first + (s - d.first) = s by omega] at e
    rw [e]
    rwa [show ((s - d.first).toNat : Int) = s - d.first by omega] at this
  · intro h
    refine ⟨fun j hj => ?_, fun j hj c hc h1 h2 => ?_⟩
    · have := high0_bd hv j i (by omega)
      omega
    · have hc1 := hp c hc
      unfold SrcOk at hc1
      have := (greatV_ge (by omega)).1 (h c hc) (d.first + j) h1 h2
      rwa [highV_add] at this
theorem least_bd {d : Dc} {c : Cl} {n i : Nat} (hv : validCode d = 0) (hc : SrcOk d c) (hn : (n : Int) = d.last - d.first + 1) (hi : i < n) : leastV d c (d.first + i) ≤ 562949953421312 := by
  have hb := valid_bounds hv
  unfold SrcOk at hc
  rw [leastV_le (by omega)]
  intro s h1 h2
  have := low0_bd hv s (d.first + i) (by omega)
  rw [lowV_0]
  omega
theorem great_bd {d : Dc} {c : Cl} {n i : Nat} (hv : validCode d = 0) (hc : SrcOk d c) (hn : (n : Int) = d.last - d.first + 1) (hi : i < n) : -562949953421312 ≤ greatV d c (d.first + i) := by
  have hb := valid_bounds hv
  unfold SrcOk at hc
  rw [greatV_ge (by omega)]
  intro s h1 h2
  have := high0_bd hv s (d.first + i) (by omega)
  rw [highV_0]
  omega
theorem cross_iff {d : Dc} {p q : List Cl} {n : Nat} (hv : validCode d = 0) (hp : ∀ c ∈ p, SrcOk d c) (hq : ∀ c ∈ q, SrcOk d c) (hn : (n : Int) = d.last - d.first + 1) :
    crossB (bLoL d p n) (bHiL d q n) = true ↔ ∃ i : Nat, i < n ∧ ∃ a ∈ p, ∃ b ∈ q, greatV d b (d.first + i) < leastV d a (d.first + i) := by
  rw [crossB_t, bLoL_len]
  have key : ∀ i : Nat, i < n → (bLo d p n i ≤ bHi d q n i ↔ ∀ a ∈ p, ∀ b ∈ q, leastV d a (d.first + i) ≤ greatV d b (d.first + i)) := by
    intro i hi
    have h1 : -562949953421312 ≤ bHi d q n i := (bHi_ge' hv hq hn hi (by omega)).2 (fun c hc => great_bd hv (hq c hc) hn hi)
    rw [bLo_le' hv hp hn hi h1]
    constructor
    · intro h a ha b hb
      exact (bHi_ge' hv hq hn hi (least_bd hv (hp a ha) hn hi)).1 (h a ha) b hb
    · intro h a ha
      exact (bHi_ge' hv hq hn hi (least_bd hv (hp a ha) hn hi)).2 (h a ha)
  constructor
  · rintro ⟨i, hi, h⟩
    rw [bLoL_get d p n i hi, bHiL_get d q n i hi] at h
    refine ⟨i, hi, Classical.byContradiction fun hh => ?_⟩
    have := (key i hi).2 (fun a ha b hb => Int.le_of_not_gt fun hg => hh ⟨a, ha, b, hb, hg⟩)
    omega
  · rintro ⟨i, hi, a, ha, b, hb, h⟩
    refine ⟨i, hi, ?_⟩
    rw [bLoL_get d p n i hi, bHiL_get d q n i hi]
    apply Int.lt_of_not_ge
    intro hh
    have := (key i hi).1 hh a ha b hb
    omega
/-- Two sources contradict each other. -/
def CtrP (d : Dc) (a b : Cl) : Prop := ∃ t, d.first ≤ t ∧ t ≤ d.last ∧ (greatV d b t < leastV d a t ∨ greatV d a t < leastV d b t)
theorem ctr_symm {d : Dc} {a b : Cl} (h : CtrP d a b) : CtrP d b a := by
  obtain ⟨t, h1, h2, h3⟩ := h
  exact ⟨t, h1, h2, h3.symm⟩
theorem cross_two {d : Dc} {p q : List Cl} {n : Nat} (hv : validCode d = 0) (hp : ∀ c ∈ p, SrcOk d c) (hq : ∀ c ∈ q, SrcOk d c) (hn : (n : Int) = d.last - d.first + 1) :
    (crossB (bLoL d p n) (bHiL d q n) || crossB (bLoL d q n) (bHiL d p n)) = true ↔ ∃ a ∈ p, ∃ b ∈ q, CtrP d a b := by
  rw [Bool.or_eq_true, cross_iff hv hp hq hn, cross_iff hv hq hp hn]
  constructor
  · rintro (⟨i, hi, a, ha, b, hb, h⟩ | ⟨i, hi, b, hb, a, ha, h⟩)
    · exact ⟨a, ha, b, hb, d.first + i, by omega, by omega, .inl h⟩
    · exact ⟨a, ha, b, hb, d.first + i, by omega, by omega, .inr h⟩
  · rintro ⟨a, ha, b, hb, t, h1, h2, h | h⟩
    · refine .inl ⟨(t - d.first).toNat, by omega, a, ha, b, hb, ?_⟩
      rw [show d.first + ((t - d.first).toNat : Int) = t by omega]
      exact h
    · refine .inr ⟨(t - d.first).toNat, by omega, b, hb, a, ha, ?_⟩
      rw [show d.first + ((t - d.first).toNat : Int) = t by omega]
      exact h
def CtrI (d : Dc) (l : List Cl) (i j : Nat) : Prop := CtrP d ((srcL d l).getD i cl0) ((srcL d l).getD j cl0)
def IsClash (d : Dc) (l : List Cl) (i k : Nat) : Prop := i ≤ k ∧ k < l.length + 1 ∧ CtrI d l i k ∧ (∀ k', i ≤ k' → k' < k → ¬ CtrI d l i k') ∧ ∀ i', i' < i → ∀ j, j < l.length + 1 → ¬ CtrI d l i' j
theorem clash_unique {d : Dc} {l : List Cl} {i k i' k' : Nat} (h : IsClash d l i k) (h' : IsClash d l i' k') : i = i' ∧ k = k' := by
  obtain ⟨a1, a2, a3, a4, a5⟩ := h
  obtain ⟨b1, b2, b3, b4, b5⟩ := h'
  have hi : i = i' := by
    rcases Nat.lt_trichotomy i i' with h | h | h
    · exact absurd a3 (b5 i h k a2)
    · exact h
    · exact absurd b3 (a5 i' h k' b2)
  subst hi
  refine ⟨rfl, ?_⟩
  rcases Nat.lt_trichotomy k k' with h | h | h
  · exact absurd a3 (b4 k a1 h)
  · exact h
  · exact absurd b3 (a4 k' b1 h)
open Classical in
noncomputable def clashR (d : Dc) (l : List Cl) : Int × Int × Bool :=
  if h : ∃ p : Nat × Nat, IsClash d l p.1 p.2 then ((h.choose.1 : Int) - 1, (h.choose.2 : Int) - 1, true) else (0, 0, false)
theorem clashR_some {d : Dc} {l : List Cl} {i k : Nat} (h : IsClash d l i k) : clashR d l = ((i : Int) - 1, (k : Int) - 1, true) := by
  have hex : ∃ p : Nat × Nat, IsClash d l p.1 p.2 := ⟨(i, k), h⟩
  unfold clashR
  rw [dif_pos hex]
  obtain ⟨h1, h2⟩ := clash_unique hex.choose_spec h
  rw [h1, h2]
theorem clashR_none {d : Dc} {l : List Cl} (h : ∀ i, i < l.length + 1 → ∀ j, j < l.length + 1 → ¬ CtrI d l i j) : clashR d l = (0, 0, false) := by
  unfold clashR
  rw [dif_neg]
  rintro ⟨p, h1, h2, h3, _⟩
  exact h p.1 (by omega) p.2 h2 h3
theorem mem_src {d : Dc} {l : List Cl} {c : Cl} : c ∈ srcL d l ↔ ∃ i, i < l.length + 1 ∧ (srcL d l).getD i cl0 = c := by
  have hl : (srcL d l).length = l.length + 1 := by simp [srcL]
  constructor
  · intro h
    obtain ⟨i, hi, rfl⟩ := List.getElem_of_mem h
    exact ⟨i, by omega, by rw [List.getD_eq_getElem?_getD, List.getElem?_eq_getElem hi]; rfl⟩
  · rintro ⟨i, hi, rfl⟩
    rw [List.getD_eq_getElem?_getD, List.getElem?_eq_getElem (by omega)]
    exact List.getElem_mem _
theorem partS_one (d : Dc) (l : List Cl) (k : Nat) (h : k < l.length + 1) : partS d l k (k + 1) = [(srcL d l).getD k cl0] := by
  have h1 := partS_len d l k (k + 1) (by omega)
  have h2 := partS_get d l k (k + 1) 0 (by omega)
  match hp : partS d l k (k + 1), h1 with
  | [x], _ =>
    rw [hp] at h2
    simp at h2
    rw [h2]
    rfl
  | [], h1 => simp at h1
  | _ :: _ :: _, h1 => simp at h1
noncomputable def clashV (d : Dc) (l : List Cl) : Int × Int × Bool := if checkR d l ≠ 0 then (0, 0, false) else clashR d l
theorem bands_err {d : Dc} {l : List Cl} : ((bandsR d l).2 ≠ 0 ∧ (bandsR d l).2 ≠ 13) ↔ checkR d l ≠ 0 := by
  constructor
  · rintro ⟨h1, h2⟩ hc
    obtain ⟨_, _, h3⟩ := bandsR_ok hc
    rw [h3] at h1 h2
    cases hr : runsR d l (d.last - d.first + 1).toNat with
    | none => rw [hr] at h2; exact h2 rfl
    | some out => rw [hr] at h1; exact h1 rfl
  · intro hc
    rw [bandsR_bad hc]
    refine ⟨hc, ?_⟩
    unfold checkR validCode at *
    simp only
    (repeat' split) <;> omega
end Go.Proofs.Ytpnngbfmmjjnaaa
