
/- Lossy steps: what they make is weaker. No program in sight. -/
import Derived.Test.YtpnngbfmmjjnaaaLp
import Derived.Test.YtpnngbfmmjjnaaaLk
namespace Go.Proofs.Ytpnngbfmmjjnaaa
open Go.RowKit
set_option linter.unusedVariables false
set_option linter.unusedSimpArgs false

theorem lowV_mono {d : Dc} {s t a b : Int} (h : a ≤ b) : lowV d s t a ≤ lowV d s t b := by rw [lowV_0, lowV_0 d s t b]; omega
theorem highV_mono {d : Dc} {s t a b : Int} (h : a ≤ b) : highV d s t a ≤ highV d s t b := by rw [highV_0, highV_0 d s t b]; omega
theorem mxM_le (g : Nat → Int) (x : Int) : ∀ n, mxM g n ≤ x ↔ g 0 ≤ x ∧ ∀ i, i < n → g i ≤ x
  | 0 => by simp [mxM]
  | n + 1 => by
    simp only [mxM]
    have ih := mxM_le g x n
    constructor
    · intro h
      have h1 := ih.1 (by omega)
      refine ⟨h1.1, fun i hi => ?_⟩
      by_cases hin : i = n
      · subst hin; omega
      · exact h1.2 i (by omega)
    · rintro ⟨h1, h2⟩
      have h3 := ih.2 ⟨h1, fun i hi => h2 i (by omega)⟩
      have h4 := h2 n (by omega)
      omega
/-- r says no more than l. -/
structure WkC (d : Dc) (l r : List Cl) : Prop where
  v : ∀ c ∈ r, validB d c = true
  n : r.length ≤ 4096
  w : ∀ i : Nat, i < spanN d → rLo d r (d.first + i) ≤ rLo d l (d.first + i) ∧ rHi d l (d.first + i) ≤ rHi d r (d.first + i)
theorem gW_at {d : Dc} {a b : List Cl} (ha : (newR d a).2 = 0) (hb : (newR d b).2 = 0) {i : Nat} (hi : i < spanN d) : gW (newR d a).1 (newR d b).1 i = rHi d b (d.first + i) - rLo d b (d.first + i) - rHi d a (d.first + i) + rLo d a (d.first + i) := by
  obtain ⟨_, _, _, _, e1⟩ := newR_ok ha
  obtain ⟨_, _, _, _, e2⟩ := newR_ok hb
  unfold gW
  rw [e1, e2]
  simp only [(rL_get d a _ i hi).1, (rL_get d a _ i hi).2, (rL_get d b _ i hi).1, (rL_get d b _ i hi).2]
theorem WkC.new {d : Dc} {l r : List Cl} (h : (newR d l).2 = 0) (hw : WkC d l r) : (newR d r).2 = 0 ∧ newR d (sortC r) = newR d r ∧ finR d l r = (sortC r, mxM (gW (newR d l).1 (newR d r).1) (spanN d), 0) ∧
    0 ≤ mxM (gW (newR d l).1 (newR d r).1) (spanN d) ∧ growthR (newR d l).1 (newR d r).1 = (mxM (gW (newR d l).1 (newR d r).1) (spanN d), 0) := by
  obtain ⟨hv, hn, hl, hok, he⟩ := newR_ok h
  have hbd := valid_bounds hv
  have hsp : (spanN d : Int) = d.last - d.first + 1 := by unfold spanN; omega
  have hr : (newR d r).2 = 0 := by
    rcases newR_cases (l := r) hv hw.n hw.v hsp with ⟨_, h2⟩ | ⟨h1, _⟩
    · rw [h2]
    · exact absurd (fun i hi => by have := hw.w i hi; have := hok i hi; omega) h1
  have hg := growth_ok h hr
  refine ⟨hr, newR_set hv hsp (fun c => (mem_sortC c r).symm) hw.n (by rw [sortC_len]; exact hw.n) hw.v, ?_, ?_, hg⟩
  · unfold finR
    have hc : costR d l r = (mxM (gW (newR d l).1 (newR d r).1) (spanN d), 0) := by
      unfold costR
      rw [if_neg (by rw [h]; simp), if_neg (by rw [hr]; simp), hg]
    rw [if_neg (by have := hw.n; omega), hc, if_neg (by simp)]
  · have h0 : 0 < spanN d := by omega
    have h1 := (mxM_le (gW (newR d l).1 (newR d r).1) _ (spanN d)).1 (Int.le_refl _)
    have h2 := gW_at h hr h0
    have h3 := hw.w 0 h0
    have h4 := h1.1
    omega
theorem sub_weak {d : Dc} {l r : List Cl} (h : (newR d l).2 = 0) (hs : ∀ c ∈ r, c ∈ l) (hn : r.length ≤ 4096) : WkC d l r := by
  obtain ⟨hv, _, hl, _, _⟩ := newR_ok h
  exact ⟨fun c hc => hl c (hs c hc), hn, fun i hi => ⟨rLo_mono hs _, rHi_mono hs _⟩⟩
/-- The test of Thin, in terms of costs. -/
theorem tst_cost {d : Dc} {l S : List Cl} {most : Int} (h : (newR d l).2 = 0) (hs : ∀ c ∈ S, c ∈ l) (hn : S.length ≤ 4096) :
    tstB d (newR d l).1 most d.first (wAll d.first (List.replicate (spanN d) d.lo) (List.replicate (spanN d) d.hi) S).1 (wAll d.first (List.replicate (spanN d) d.lo) (List.replicate (spanN d) d.hi) S).2 = decide (mxM (gW (newR d l).1 (newR d S).1) (spanN d) ≤ most) := by
  have hw := sub_weak h hs hn
  obtain ⟨hr, _, _, _, hg⟩ := hw.new h
  obtain ⟨hv, _, hl, hok, _⟩ := newR_ok hr
  unfold tstB
  rw [band_new hv hn hl hok, hr, hg]
  simp
theorem cost_mono {d : Dc} {l S S' : List Cl} {most : Int} (h : (newR d l).2 = 0) (h1 : ∀ c ∈ S, c ∈ S') (h2 : ∀ c ∈ S', c ∈ l) (hn : S.length ≤ 4096) (hn' : S'.length ≤ 4096) (hc : mxM (gW (newR d l).1 (newR d S).1) (spanN d) ≤ most) : mxM (gW (newR d l).1 (newR d S').1) (spanN d) ≤ most := by
  obtain ⟨a, _, _, _, _⟩ := (sub_weak h (fun c hc => h2 c (h1 c hc)) hn).new h
  obtain ⟨b, _, _, _, _⟩ := (sub_weak h h2 hn').new h
  obtain ⟨hv, _, _, _, _⟩ := newR_ok h
  have hbd := valid_bounds hv
  have hsp : (spanN d : Int) = d.last - d.first + 1 := by unfold spanN; omega
  rw [mxM_le] at hc ⊢
  have key : ∀ i, i < spanN d → gW (newR d l).1 (newR d S').1 i ≤ gW (newR d l).1 (newR d S).1 i := fun i hi => by
    rw [gW_at h a hi, gW_at h b hi]
    have e1 := rLo_mono h1 (d := d) (d.first + i)
    have e2 := rHi_mono h1 (d := d) (d.first + i)
    omega
  exact ⟨Int.le_trans (key 0 (by omega)) hc.1, fun i hi => Int.le_trans (key i hi) (hc.2 i hi)⟩
/-- What Thin keeps, one by one. -/
noncomputable def cstB (d : Dc) (l : List Cl) (most : Int) (S : List Cl) : Bool := decide (mxM (gW (newR d l).1 (newR d S).1) (spanN d) ≤ most)
theorem thn_grd {d : Dc} {l : List Cl} {most : Int} (h : (newR d l).2 = 0) : thnL d (newR d l).1 l most = grd (cstB d l most) (sortC l) := by
  obtain ⟨_, hn, _, _, _⟩ := newR_ok h
  have hsl := sortC_len l
  unfold thnL
  rw [keepW_grd _ _ _ _ _ _ (by omega)]
  refine grd_congr _ _ _ (fun S hS => ?_)
  exact tst_cost h (fun c hc => (mem_sortC c l).1 (hS.subset hc)) (by have := hS.length_le; omega)
theorem self_cost {d : Dc} {l l' : List Cl} (h : (newR d l).2 = 0) (he : newR d l' = newR d l) : mxM (gW (newR d l).1 (newR d l').1) (spanN d) = 0 := by
  rw [he]
  have e : ∀ i, gW (newR d l).1 (newR d l).1 i = 0 := fun i => by unfold gW; omega
  have h1 := (mxM_le (gW (newR d l).1 (newR d l).1) 0 (spanN d)).2 ⟨by rw [e]; exact Int.le_refl _, fun i _ => by rw [e]; exact Int.le_refl _⟩
  have h2 := ((mxM_le (gW (newR d l).1 (newR d l).1) _ (spanN d)).1 (Int.le_refl _)).1
  rw [e] at h2
  omega
theorem sort_new {d : Dc} {l : List Cl} (h : (newR d l).2 = 0) : newR d (sortC l) = newR d l := by
  obtain ⟨hv, hn, hl, _, _⟩ := newR_ok h
  have hbd := valid_bounds hv
  exact newR_set hv (show ((spanN d : Nat) : Int) = _ by unfold spanN; omega) (fun c => (mem_sortC c l).symm) hn (by rw [sortC_len]; exact hn) hl
theorem thn_cost {d : Dc} {l : List Cl} {most : Int} (h : (newR d l).2 = 0) (hm : 0 ≤ most) : mxM (gW (newR d l).1 (newR d (thnL d (newR d l).1 l most)).1) (spanN d) ≤ most := by
  rw [thn_grd h]
  have := grd_ok (sortC l) (cstB d l most) (by
    unfold cstB
    rw [self_cost h (sort_new h)]
    simpa using hm)
  exact of_decide_eq_true this
theorem thn_mem {d : Dc} {l : List Cl} {most : Int} (h : (newR d l).2 = 0) : (∀ c ∈ thnL d (newR d l).1 l most, c ∈ l) ∧ (thnL d (newR d l).1 l most).length ≤ l.length ∧ sortC (thnL d (newR d l).1 l most) = thnL d (newR d l).1 l most := by
  have hs := grd_sub (sortC l) (cstB d l most)
  rw [← thn_grd h] at hs
  refine ⟨fun c hc => (mem_sortC c l).1 (hs.subset hc), by have := hs.length_le; rwa [sortC_len] at this, sortC_srt (srt_of ((sortC_sorted l).sublist hs))⟩
/-! Quantise -/
theorem below_mul (n q : Int) : ∃ k, belowV n q = q * k := by
  have h := Int.mul_tdiv_add_tmod n q
  unfold belowV
  split
  · exact ⟨n.tdiv q - 1, by rw [Int.mul_sub]; omega⟩
  · exact ⟨n.tdiv q, by omega⟩
theorem below_fix (q k : Int) : belowV (q * k) q = q * k := by
  unfold belowV
  rw [Int.mul_tmod_right]
  simp
theorem wid_idem {q : Int} (hq : 1 ≤ q) (c : Cl) : wid q (wid q c) = wid q c := by
  have e1 : max (belowV (max (belowV c.lo q) (-1099511627776)) q) (-1099511627776) = max (belowV c.lo q) (-1099511627776) := by
    obtain ⟨k, hk⟩ := below_mul c.lo q
    by_cases h : -1099511627776 ≤ belowV c.lo q
    · rw [show max (belowV c.lo q) (-1099511627776) = belowV c.lo q by omega, hk, below_fix, ← hk]
      omega
    · rw [show max (belowV c.lo q) (-1099511627776) = -1099511627776 by omega]
      have := belowV_bd (n := -1099511627776) hq
      omega
  have e2 : min (-(belowV (-(min (-(belowV (-c.hi) q)) 1099511627776)) q)) 1099511627776 = min (-(belowV (-c.hi) q)) 1099511627776 := by
    obtain ⟨k, hk⟩ := below_mul (-c.hi) q
    by_cases h : -(belowV (-c.hi) q) ≤ 1099511627776
    · rw [show min (-(belowV (-c.hi) q)) 1099511627776 = -(belowV (-c.hi) q) by omega, Int.neg_neg, hk, below_fix, ← hk]
      omega
    · rw [show min (-(belowV (-c.hi) q)) 1099511627776 = 1099511627776 by omega]
      have := belowV_bd (n := -1099511627776) hq
      omega
  show (⟨c.f, c.t, _, _⟩ : Cl) = ⟨c.f, c.t, _, _⟩
  simp only [wid]
  rw [e1, e2]
theorem wid_weak {d : Dc} {l : List Cl} {q : Int} (h : (newR d l).2 = 0) (hq : 1 ≤ q) : WkC d l (l.map (wid q)) := by
  obtain ⟨hv, hn, hl, hok, _⟩ := newR_ok h
  have hw : ∀ c ∈ l, (wid q c).lo ≤ c.lo ∧ c.hi ≤ (wid q c).hi ∧ validB d (wid q c) = true := fun c hc => by
    have h1 := (valid_iff d c).1 (hl c hc)
    have h2 := belowV_bd (n := c.lo) hq
    have h3 := belowV_bd (n := -c.hi) hq
    rw [valid_iff]
    show max _ _ ≤ _ ∧ _ ≤ min _ _ ∧ d.first ≤ c.f ∧ c.f ≤ c.t ∧ c.t ≤ d.last ∧ -1099511627776 ≤ max _ _ ∧ max _ _ ≤ min _ _ ∧ min _ _ ≤ 1099511627776
    omega
  have hv2 : ∀ c ∈ l.map (wid q), validB d c = true := fun c hc => by
    obtain ⟨c', hc', rfl⟩ := List.mem_map.1 hc
    exact (hw c' hc').2.2
  have s1 := src_le hv hl
  have s2 := src_le hv hv2
  refine ⟨hv2, by simpa using hn, fun i hi => ⟨?_, ?_⟩⟩
  · rw [rLo_band s2]
    have hb := (rLo_band s1).1 (Int.le_refl (rLo d l (d.first + i)))
    intro c hc s h1 h2
    rcases List.mem_cons.1 hc with rfl | hc
    · exact hb _ (List.mem_cons_self ..) s h1 h2
    · obtain ⟨c', hc', rfl⟩ := List.mem_map.1 hc
      exact Int.le_trans (lowV_mono (hw c' hc').1) (hb c' (List.mem_cons_of_mem _ hc') s h1 h2)
  · rw [rHi_band s2]
    have hb := (rHi_band s1).1 (Int.le_refl (rHi d l (d.first + i)))
    intro c hc s h1 h2
    rcases List.mem_cons.1 hc with rfl | hc
    · exact hb _ (List.mem_cons_self ..) s h1 h2
    · obtain ⟨c', hc', rfl⟩ := List.mem_map.1 hc
      exact Int.le_trans (hb c' (List.mem_cons_of_mem _ hc') s h1 h2) (highV_mono (hw c' hc').2.1)
/-! Rollup -/
structure RolC (f : Int) (lo hi : List Int) (i : Nat) (c : Cl) : Prop where
  a : f ≤ c.f
  b : c.f ≤ c.t
  e : c.t < f + i
  in_ : ∀ k : Nat, c.f ≤ f + k → f + k ≤ c.t → c.lo ≤ lo.getD k 0 ∧ hi.getD k 0 ≤ c.hi
  lo_ : ∃ k : Nat, c.f ≤ f + k ∧ f + k ≤ c.t ∧ c.lo = lo.getD k 0
  hi_ : ∃ k : Nat, c.f ≤ f + k ∧ f + k ≤ c.t ∧ c.hi = hi.getD k 0
theorem RolC.mono {f : Int} {lo hi : List Int} {i : Nat} {c : Cl} (h : RolC f lo hi i c) : RolC f lo hi (i + 1) c := ⟨h.a, h.b, by have := h.e; omega, h.in_, h.lo_, h.hi_⟩
theorem lastC_mem {s : List Cl} (h : 0 < s.length) : lastC s ∈ s := by
  have e : lastC s = s[s.length - 1] := by unfold lastC; rw [List.getD_eq_getElem?_getD, List.getElem?_eq_getElem (by omega)]; rfl
  rw [e]
  exact List.getElem_mem _
theorem rolL_each (f w : Int) (lo hi : List Int) : ∀ i : Nat, (∀ c ∈ rolL f w lo hi i, RolC f lo hi i c) ∧ (0 < i → (lastC (rolL f w lo hi i)).t = f + i - 1)
  | 0 => by simp [rolL]
  | i + 1 => by
    obtain ⟨ih1, ih2⟩ := rolL_each f w lo hi i
    have hl := rolL_len f w lo hi i
    simp only [rolL]
    generalize rolL f w lo hi i = s at *
    split
    · refine ⟨fun c hc => ?_, fun _ => ?_⟩
      · rcases List.mem_append.1 hc with hc | hc
        · exact (ih1 c hc).mono
        · obtain rfl := List.mem_singleton.1 hc
          refine ⟨by show f ≤ f + (i : Int); omega, Int.le_refl _, by show f + (i : Int) < f + ((i + 1 : Nat) : Int); omega, fun k h1 h2 => ?_, ⟨i, Int.le_refl _, Int.le_refl _, rfl⟩, ⟨i, Int.le_refl _, Int.le_refl _, rfl⟩⟩
          obtain rfl : k = i := by simp only at h1 h2; omega
          exact ⟨Int.le_refl _, Int.le_refl _⟩
      · rw [lastC_snoc]
        show f + (i : Int) = _
        omega
    · rename_i hc0
      have hi0 : 0 < i := by omega
      have hs0 := hl.2 hi0
      have hz := ih1 _ (lastC_mem hs0)
      have hzt := ih2 hi0
      refine ⟨fun c hc => ?_, fun _ => ?_⟩
      · rcases List.mem_or_eq_of_mem_set hc with hc | rfl
        · exact (ih1 c hc).mono
        · have ha := hz.a
          have hb := hz.b
          refine ⟨ha, by show (lastC s).f ≤ f + (i : Int); omega, by show f + (i : Int) < f + ((i + 1 : Nat) : Int); omega, fun k h1 h2 => ?_, ?_, ?_⟩
          · simp only at h1 h2 ⊢
            by_cases hk : k = i
            · subst hk
              omega
            · have := hz.in_ k h1 (by omega)
              omega
          · obtain ⟨k, g1, g2, g3⟩ := hz.lo_
            simp only
            by_cases hm : (lastC s).lo ≤ lo.getD i 0
            · exact ⟨k, g1, by omega, by omega⟩
            · exact ⟨i, by omega, Int.le_refl _, by omega⟩
          · obtain ⟨k, g1, g2, g3⟩ := hz.hi_
            simp only
            by_cases hm : hi.getD i 0 ≤ (lastC s).hi
            · exact ⟨k, g1, by omega, by omega⟩
            · exact ⟨i, by omega, Int.le_refl _, by omega⟩
      · have e : lastC (s.set (s.length - 1) ⟨(lastC s).f, f + i, min (lastC s).lo (lo.getD i 0), max (lastC s).hi (hi.getD i 0)⟩) = ⟨(lastC s).f, f + i, min (lastC s).lo (lo.getD i 0), max (lastC s).hi (hi.getD i 0)⟩ := by
          have : s.length - 1 < s.length := by omega
          simp [lastC, List.getD_eq_getElem?_getD, this]
        rw [e]
        show f + (i : Int) = _
        omega
/-- The windows hang on no values. -/
theorem rolL_shape (f w : Int) (lo hi lo' hi' : List Int) : ∀ i : Nat, (rolL f w lo hi i).length = (rolL f w lo' hi' i).length ∧ ∀ a, ((rolL f w lo hi i).getD a cl0).f = ((rolL f w lo' hi' i).getD a cl0).f ∧ ((rolL f w lo hi i).getD a cl0).t = ((rolL f w lo' hi' i).getD a cl0).t
  | 0 => by simp [rolL]
  | i + 1 => by
    obtain ⟨ih1, ih2⟩ := rolL_shape f w lo hi lo' hi' i
    simp only [rolL]
    generalize rolL f w lo hi i = s at *
    generalize rolL f w lo' hi' i = s' at *
    split
    · refine ⟨by simp [ih1], fun a => ?_⟩
      by_cases ha : a < s.length
      · rw [getD_app1 s _ a ha, getD_app1 s' _ a (by omega)]
        exact ih2 a
      · by_cases ha2 : a = s.length
        · subst ha2
          rw [getD_app2, ih1, getD_app2]
          exact ⟨rfl, rfl⟩
        · have n1 : (s ++ [(⟨f + i, f + i, lo.getD i 0, hi.getD i 0⟩ : Cl)]).getD a cl0 = cl0 := by rw [List.getD_eq_getElem?_getD, List.getElem?_eq_none (by simp; omega)]; rfl
          have n2 : (s' ++ [(⟨f + i, f + i, lo'.getD i 0, hi'.getD i 0⟩ : Cl)]).getD a cl0 = cl0 := by rw [List.getD_eq_getElem?_getD, List.getElem?_eq_none (by simp; omega)]; rfl
          rw [n1, n2]
          exact ⟨rfl, rfl⟩
    · refine ⟨by simp [ih1], fun a => ?_⟩
      have hlast := ih2 (s.length - 1)
      have hl1 : (lastC s).f = (lastC s').f := by unfold lastC; rw [← ih1]; exact hlast.1
      by_cases ha : s.length - 1 = a
      · subst ha
        by_cases h0 : s.length - 1 < s.length
        · have h0' : s.length - 1 < s'.length := by omega
          rw [← ih1]
          simp only [List.getD_eq_getElem?_getD, List.getElem?_set_self h0, List.getElem?_set_self h0', Option.getD_some]
          exact ⟨hl1, True.intro⟩
        · rw [List.set_eq_of_length_le (by omega), List.set_eq_of_length_le (by omega)]
          exact ih2 _
      · rw [← ih1]
        simp only [List.getD_eq_getElem?_getD, List.getElem?_set_ne ha]
        exact ih2 a
theorem rol_weak {d : Dc} {l : List Cl} {q : Int} (h : (newR d l).2 = 0) : WkC d l (rolL (newR d l).1.f q (newR d l).1.lo (newR d l).1.hi (newR d l).1.lo.length) := by
  obtain ⟨hv, hn, hl, hok, he⟩ := newR_ok h
  have hbd := valid_bounds hv
  have hsp : (spanN d : Int) = d.last - d.first + 1 := by unfold spanN; omega
  rw [he]
  simp only [rLoL_len]
  have hr := (rolL_each d.first q (rLoL d l (spanN d)) (rHiL d l (spanN d)) (spanN d)).1
  have hrl := (rolL_len d.first q (rLoL d l (spanN d)) (rHiL d l (spanN d)) (spanN d)).1
  generalize rolL d.first q (rLoL d l (spanN d)) (rHiL d l (spanN d)) (spanN d) = R at *
  have hg := fun i hi => rL_get d l (spanN d) i hi
  obtain ⟨hL, hH⟩ := rL_hist hv hl hsp hok
  have hval : ∀ c ∈ R, validB d c = true := fun c hc => by
    have hc := hr c hc
    obtain ⟨k1, a1, a2, a3⟩ := hc.lo_
    obtain ⟨k2, b1, b2, b3⟩ := hc.hi_
    have c1 := hc.a
    have c2 := hc.b
    have c3 := hc.e
    have h1 := (hL.2.1 k1 (by rw [rLoL_len]; omega)).1
    have h2 := (hH.2.1 k2 (by rw [rHiL_len]; omega)).1
    have h3 := hc.in_ k1 a1 a2
    have h4 := hok k1 (by omega)
    rw [(hg k1 (by omega)).1, (hg k1 (by omega)).2] at h3
    rw [(hg k1 (by omega)).1] at h1 a3
    rw [(hg k2 (by omega)).2] at h2 b3
    rw [valid_iff]
    omega
  have s1 := src_le hv hl
  have s2 := src_le hv hval
  refine ⟨hval, by omega, fun i hi => ⟨?_, ?_⟩⟩
  · rw [rLo_band s2]
    have hb := (rLo_band s1).1 (Int.le_refl (rLo d l (d.first + i)))
    intro c hc s h1 h2
    rcases List.mem_cons.1 hc with rfl | hc
    · exact hb _ (List.mem_cons_self ..) s h1 h2
    · have hc := hr c hc
      have c1 := hc.a
      have c3 := hc.e
      obtain ⟨k, hk⟩ : ∃ k : Nat, s = d.first + k := ⟨(s - d.first).toNat, by omega⟩
      subst hk
      have h3 := (hc.in_ k h1 h2).1
      rw [(hg k (by omega)).1] at h3
      exact Int.le_trans (lowV_mono h3) (prop_any hv hl (d.first + k) (d.first + i)).1
  · rw [rHi_band s2]
    have hb := (rHi_band s1).1 (Int.le_refl (rHi d l (d.first + i)))
    intro c hc s h1 h2
    rcases List.mem_cons.1 hc with rfl | hc
    · exact hb _ (List.mem_cons_self ..) s h1 h2
    · have hc := hr c hc
      have c1 := hc.a
      have c3 := hc.e
      obtain ⟨k, hk⟩ : ∃ k : Nat, s = d.first + k := ⟨(s - d.first).toNat, by omega⟩
      subst hk
      have h3 := (hc.in_ k h1 h2).2
      rw [(hg k (by omega)).2] at h3
      exact Int.le_trans (prop_any hv hl (d.first + k) (d.first + i)).2 (highV_mono h3)
/-! Retain -/
theorem atR_out {e : Env12} {t : Int} (h : (atR e t).2.2 = 0) : e.f ≤ t ∧ t < e.f + e.lo.length := by
  unfold atR at h
  split at h
  · rename_i h1
    omega
  · exact absurd h (by decide)
theorem ret_weak {d : Dc} {l : List Cl} {b : Int} (h : (newR d l).2 = 0) (hn : l.length ≤ 4000) : WkC d l (keptL (newR d l).1 l b) := by
  obtain ⟨hv, _, hl, hok, he⟩ := newR_ok h
  have hbd := valid_bounds hv
  have hsp : (spanN d : Int) = d.last - d.first + 1 := by unfold spanN; omega
  have hkl := keptL_len (newR d l).1 l b
  by_cases hb : d.first ≤ b ∧ b ≤ d.last
  · have hX : ∀ c, c ∈ keptL (newR d l).1 l b ↔ (c ∈ l ∧ b ≤ c.t) ∨ c = ⟨b, b, rLo d l b, rHi d l b⟩ := fun c => by
      rw [he, ← kept_mem hb c, mem_sortC]
    obtain ⟨hXv, _⟩ := ret_new hv hl hX hb hok (by omega)
    exact ⟨hXv, by omega, fun i hi => ret_wide hv hl hX _⟩
  · refine sub_weak h (fun c hc => ?_) (by omega)
    have : ¬ (atR (newR d l).1 b).2.2 = 0 := fun h0 => by
      have := atR_out h0
      rw [he] at this
      simp only [rLoL_len] at this
      omega
    unfold keptL at hc
    rw [if_neg this, List.append_nil] at hc
    exact (List.mem_filter.1 hc).1
end Go.Proofs.Ytpnngbfmmjjnaaa
