
/- Thin: what is kept by halves is what is kept one by one. No program in sight. -/
import Derived.Test.YtpnngbfmmjjnaaaLo
import Derived.Test.YtpnngbfmmjjnaaaLg
namespace Go.Proofs.Ytpnngbfmmjjnaaa
open Go.RowKit
set_option linter.unusedVariables false
set_option linter.unusedSimpArgs false

/-! bands -/
theorem wAll_cons (f : Int) (lo hi : List Int) (c : Cl) (r : List Cl) : wAll f lo hi (c :: r) = wAll f (wCl f (lo, hi) c).1 (wCl f (lo, hi) c).2 r := rfl
theorem wAll_app (f : Int) (lo hi : List Int) (a b : List Cl) : wAll f lo hi (a ++ b) = wAll f (wAll f lo hi a).1 (wAll f lo hi a).2 b := by simp [wAll, List.foldl_append]
theorem wAll_lo (f : Int) : ∀ (S : List Cl) (lo hi : List Int) (i : Nat) (x : Int), i < lo.length → ((wAll f lo hi S).1.getD i 0 ≤ x ↔ lo.getD i 0 ≤ x ∧ ∀ c ∈ S, c.f ≤ f + i → f + i ≤ c.t → c.lo ≤ x)
  | [], lo, hi, i, x, h => by simp [wAll]
  | c :: r, lo, hi, i, x, h => by
    have hl : i < (wCl f (lo, hi) c).1.length := by rw [(wCl_len f (lo, hi) c).1]; exact h
    rw [wAll_cons, wAll_lo f r _ _ i x hl]
    have e : (wCl f (lo, hi) c).1.getD i 0 = if c.f - f ≤ (i : Int) ∧ (i : Int) < c.t - f + 1 then max (lo.getD i 0) c.lo else lo.getD i 0 := wpL_get (g := fun x => max x c.lo) (a := c.f - f) (m := c.t - f + 1) h
    rw [e]
    simp only [List.mem_cons, forall_eq_or_imp]
    split
    · rename_i hc
      constructor
      · rintro ⟨h1, h2⟩
        exact ⟨by omega, fun _ _ => by omega, h2⟩
      · rintro ⟨h1, h2, h3⟩
        have := h2 (by omega) (by omega)
        exact ⟨by omega, h3⟩
    · rename_i hc
      constructor
      · rintro ⟨h1, h2⟩
        exact ⟨h1, fun _ _ => by omega, h2⟩
      · rintro ⟨h1, h2, h3⟩
        exact ⟨h1, h3⟩
theorem wAll_hi (f : Int) : ∀ (S : List Cl) (lo hi : List Int) (i : Nat) (x : Int), i < hi.length → (x ≤ (wAll f lo hi S).2.getD i 0 ↔ x ≤ hi.getD i 0 ∧ ∀ c ∈ S, c.f ≤ f + i → f + i ≤ c.t → x ≤ c.hi)
  | [], lo, hi, i, x, h => by simp [wAll]
  | c :: r, lo, hi, i, x, h => by
    have hl : i < (wCl f (lo, hi) c).2.length := by rw [(wCl_len f (lo, hi) c).2]; exact h
    rw [wAll_cons, wAll_hi f r _ _ i x hl]
    have e : (wCl f (lo, hi) c).2.getD i 0 = if c.f - f ≤ (i : Int) ∧ (i : Int) < c.t - f + 1 then min (hi.getD i 0) c.hi else hi.getD i 0 := wpL_get (g := fun x => min x c.hi) (a := c.f - f) (m := c.t - f + 1) h
    rw [e]
    simp only [List.mem_cons, forall_eq_or_imp]
    split
    · rename_i hc
      constructor
      · rintro ⟨h1, h2⟩
        exact ⟨by omega, fun _ _ => by omega, h2⟩
      · rintro ⟨h1, h2, h3⟩
        have := h2 (by omega) (by omega)
        exact ⟨by omega, h3⟩
    · rename_i hc
      constructor
      · rintro ⟨h1, h2⟩
        exact ⟨h1, fun _ _ => by omega, h2⟩
      · rintro ⟨h1, h2, h3⟩
        exact ⟨h1, h3⟩
theorem ext_getD {a b : List Int} (hl : a.length = b.length) (h : ∀ i, i < a.length → a.getD i 0 = b.getD i 0) : a = b := by
  apply List.ext_getElem hl
  intro i h1 h2
  have := h i h1
  simpa [List.getD_eq_getElem?_getD, h1, h2] using this
theorem wAll_set (f : Int) (lo hi : List Int) {a b : List Cl} (h : ∀ c, c ∈ a ↔ c ∈ b) : wAll f lo hi a = wAll f lo hi b := by
  have la := wAll_len f lo hi a
  have lb := wAll_len f lo hi b
  refine Prod.ext (ext_getD (by omega) fun i hi' => ?_) (ext_getD (by omega) fun i hi' => ?_)
  · have h1 := fun x => wAll_lo f a lo hi i x (by omega)
    have h2 := fun x => wAll_lo f b lo hi i x (by omega)
    simp only [h] at h1
    have e : ∀ x, (wAll f lo hi a).1.getD i 0 ≤ x ↔ (wAll f lo hi b).1.getD i 0 ≤ x := fun x => (h1 x).trans (h2 x).symm
    have e1 := (e _).1 (Int.le_refl _)
    have e2 := (e _).2 (Int.le_refl _)
    omega
  · have h1 := fun x => wAll_hi f a lo hi i x (by omega)
    have h2 := fun x => wAll_hi f b lo hi i x (by omega)
    simp only [h] at h1
    have e : ∀ x, x ≤ (wAll f lo hi a).2.getD i 0 ↔ x ≤ (wAll f lo hi b).2.getD i 0 := fun x => (h1 x).trans (h2 x).symm
    have e1 := (e _).1 (Int.le_refl _)
    have e2 := (e _).2 (Int.le_refl _)
    omega
/-! one by one -/
/-- Each claim in turn goes if the others that are left may stay alone. -/
def grd (T : List Cl → Bool) : List Cl → List Cl
  | [] => []
  | c :: r => if T r = true then grd T r else c :: grd (fun S => T (c :: S)) r
theorem grd_congr : ∀ (l : List Cl) (T T' : List Cl → Bool), (∀ S, S.Sublist l → T S = T' S) → grd T l = grd T' l
  | [], _, _, _ => rfl
  | c :: r, T, T', h => by
    unfold grd
    rw [h r (List.sublist_cons_self c r)]
    split
    · exact grd_congr r T T' (fun S hS => h S (hS.trans (List.sublist_cons_self c r)))
    · rw [grd_congr r _ _ (fun S hS => h (c :: S) (hS.cons_cons c))]
theorem grd_sub : ∀ (l : List Cl) (T : List Cl → Bool), (grd T l).Sublist l
  | [], _ => .slnil
  | c :: r, T => by
    unfold grd
    split
    · exact (grd_sub r T).trans (List.sublist_cons_self c r)
    · exact (grd_sub r _).cons_cons c
theorem grd_app : ∀ (a b : List Cl) (T : List Cl → Bool), grd T (a ++ b) = grd (fun S => T (S ++ b)) a ++ grd (fun S => T (grd (fun S => T (S ++ b)) a ++ S)) b
  | [], b, T => by simp [grd]
  | c :: r, b, T => by
    have e : grd (fun S => T (S ++ b)) (c :: r) = if T (r ++ b) = true then grd (fun S => T (S ++ b)) r else c :: grd (fun S => T (c :: S ++ b)) r := rfl
    have e2 : grd T (c :: r ++ b) = if T (r ++ b) = true then grd T (r ++ b) else c :: grd (fun S => T (c :: S)) (r ++ b) := rfl
    rw [e, e2]
    by_cases h : T (r ++ b) = true
    · rw [if_pos h, if_pos h]
      exact grd_app r b T
    · rw [if_neg h, if_neg h, grd_app r b (fun S => T (c :: S))]
      rfl
theorem grd_ok : ∀ (l : List Cl) (T : List Cl → Bool), T l = true → T (grd T l) = true
  | [], _, h => h
  | c :: r, T, h => by
    unfold grd
    split
    · rename_i h1
      exact grd_ok r T h1
    · exact grd_ok r (fun S => T (c :: S)) h
theorem grd_again : ∀ (l : List Cl) (T : List Cl → Bool), (∀ S S', S.Sublist S' → S'.Sublist l → T S = true → T S' = true) → grd T (grd T l) = grd T l
  | [], _, _ => rfl
  | c :: r, T, h => by
    have e : grd T (c :: r) = if T r = true then grd T r else c :: grd (fun S => T (c :: S)) r := rfl
    rw [e]
    by_cases h1 : T r = true
    · rw [if_pos h1]
      exact grd_again r T (fun S S' a b => h S S' a (b.trans (List.sublist_cons_self c r)))
    · rw [if_neg h1]
      have hn : ¬ T (grd (fun S => T (c :: S)) r) = true := fun h2 => h1 (h _ _ (grd_sub r _) (List.sublist_cons_self c r) h2)
      have e2 : ∀ K, grd T (c :: K) = if T K = true then grd T K else c :: grd (fun S => T (c :: S)) K := fun K => rfl
      rw [e2, if_neg hn, grd_again r (fun S => T (c :: S)) (fun S S' a b => h (c :: S) (c :: S') (a.cons_cons c) (b.cons_cons c))]
/-- By halves, and one by one. -/
theorem keepW_grd (T : List Int → List Int → Bool) (f : Int) : ∀ (n : Nat) (lo hi : List Int) (l : List Cl), l.length ≤ n → keepW T f n lo hi l = grd (fun S => T (wAll f lo hi S).1 (wAll f lo hi S).2) l
  | 0, lo, hi, l, h => by
    obtain rfl : l = [] := List.eq_nil_of_length_eq_zero (by omega)
    rfl
  | n + 1, lo, hi, l, h => by
    unfold keepW
    split
    · rename_i h0
      obtain rfl : l = [] := List.eq_nil_of_length_eq_zero h0
      rfl
    · split
      · rename_i h0 h1
        match l, h1 with
        | [c], _ =>
          have e : grd (fun S => T (wAll f lo hi S).1 (wAll f lo hi S).2) [c] = if T lo hi = true then [] else [c] := rfl
          rw [e]
      · rename_i h0 h1
        have hl1 : (l.take (l.length / 2)).length ≤ n := by simp; omega
        have hl2 : (l.drop (l.length / 2)).length ≤ n := by simp; omega
        have i1 := keepW_grd T f n (wAll f lo hi (l.drop (l.length / 2))).1 (wAll f lo hi (l.drop (l.length / 2))).2 (l.take (l.length / 2)) hl1
        have hc : ∀ S, wAll f (wAll f lo hi (l.drop (l.length / 2))).1 (wAll f lo hi (l.drop (l.length / 2))).2 S = wAll f lo hi (S ++ l.drop (l.length / 2)) := fun S => by
          rw [← wAll_app]
          exact wAll_set f lo hi (fun c => by simp [or_comm])
        simp only [hc] at i1
        rw [i1, keepW_grd T f n _ _ (l.drop (l.length / 2)) hl2]
        simp only [← wAll_app]
        conv => { rhs; rw [← List.take_append_drop (l.length / 2) l] }
        rw [grd_app]
/-! envelopes out of bands -/
theorem rLo_band {d : Dc} {l : List Cl} (hl : ∀ c ∈ srcL d l, c.f ≤ c.t) {t x : Int} : rLo d l t ≤ x ↔ ∀ c ∈ srcL d l, ∀ s, c.f ≤ s → s ≤ c.t → lowV d s t c.lo ≤ x := by
  rw [rLo_le]
  exact ⟨fun h c hc => (leastV_le (hl c hc)).1 (h c hc), fun h c hc => (leastV_le (hl c hc)).2 (h c hc)⟩
theorem rHi_band {d : Dc} {l : List Cl} (hl : ∀ c ∈ srcL d l, c.f ≤ c.t) {t x : Int} : x ≤ rHi d l t ↔ ∀ c ∈ srcL d l, ∀ s, c.f ≤ s → s ≤ c.t → x ≤ highV d s t c.hi := by
  rw [rHi_ge]
  exact ⟨fun h c hc => (greatV_ge (hl c hc)).1 (h c hc), fun h c hc => (greatV_ge (hl c hc)).2 (h c hc)⟩
theorem src_le {d : Dc} {l : List Cl} (hv : validCode d = 0) (hl : ∀ c ∈ l, validB d c = true) : ∀ c ∈ srcL d l, c.f ≤ c.t := fun c hc => (src_ok hv hl c hc).2.1
/-- The claims that bands are told by have the envelope of what the bands came from. -/
theorem band_new {d : Dc} {S : List Cl} (hv : validCode d = 0) (hn : S.length ≤ 4096) (hl : ∀ c ∈ S, validB d c = true) (hok : ∀ i : Nat, i < spanN d → rLo d S (d.first + i) ≤ rHi d S (d.first + i)) :
    newR d (envC ⟨d.first, (wAll d.first (List.replicate (spanN d) d.lo) (List.replicate (spanN d) d.hi) S).1, (wAll d.first (List.replicate (spanN d) d.lo) (List.replicate (spanN d) d.hi) S).2⟩) = newR d S := by
  have hbd := valid_bounds hv
  have hsp : (spanN d : Int) = d.last - d.first + 1 := by unfold spanN; omega
  have hwl := wAll_len d.first (List.replicate (spanN d) d.lo) (List.replicate (spanN d) d.hi) S
  have hlo := fun i x => wAll_lo d.first S (List.replicate (spanN d) d.lo) (List.replicate (spanN d) d.hi) i x
  have hhi := fun i x => wAll_hi d.first S (List.replicate (spanN d) d.lo) (List.replicate (spanN d) d.hi) i x
  simp only [List.length_replicate] at hwl hlo hhi
  have r0 : ∀ (i : Nat) (z : Int), i < spanN d → (List.replicate (spanN d) z).getD i 0 = z := fun i z h => by simp [List.getD_eq_getElem?_getD, h]
  obtain ⟨W, hW⟩ : ∃ W, wAll d.first (List.replicate (spanN d) d.lo) (List.replicate (spanN d) d.hi) S = W := ⟨_, rfl⟩
  rw [hW] at hwl hlo hhi ⊢
  have hr := runs_ok d.first (fun i => W.1.getD i 0) (fun i => W.2.getD i 0) (spanN d)
  have hE : envC ⟨d.first, W.1, W.2⟩ = runsG d.first (fun i => W.1.getD i 0) (fun i => W.2.getD i 0) (spanN d) := by
    unfold envC
    simp only [hwl.1, hwl.2, Nat.min_self]
  rw [hE]
  have hsl := src_le hv hl
  have hin : ∀ i : Nat, i < spanN d → d.lo ≤ W.1.getD i 0 ∧ W.1.getD i 0 ≤ W.2.getD i 0 ∧ W.2.getD i 0 ≤ d.hi := fun i hi => by
    have b1 := (hlo i _ hi).1 (Int.le_refl _)
    have b2 := (hhi i _ hi).1 (Int.le_refl _)
    rw [r0 i _ hi] at b1 b2
    refine ⟨b1.1, ?_, b2.1⟩
    have h0 := hok i hi
    have c1 : W.1.getD i 0 ≤ rLo d S (d.first + i) := by
      rw [hlo i _ hi, r0 i _ hi]
      have hb := (rLo_band hsl).1 (Int.le_refl (rLo d S (d.first + i)))
      constructor
      · have := hb _ (List.mem_cons_self ..) (d.first + i) (by show d.first ≤ _; omega) (by show _ ≤ d.last; omega)
        rw [lowV_self] at this
        exact this
      · intro c hc h1 h2
        have := hb _ (List.mem_cons_of_mem _ hc) (d.first + i) h1 h2
        rw [lowV_self] at this
        exact this
    have c2 : rHi d S (d.first + i) ≤ W.2.getD i 0 := by
      rw [hhi i _ hi, r0 i _ hi]
      have hb := (rHi_band hsl).1 (Int.le_refl (rHi d S (d.first + i)))
      constructor
      · have := hb _ (List.mem_cons_self ..) (d.first + i) (by show d.first ≤ _; omega) (by show _ ≤ d.last; omega)
        rw [highV_self] at this
        exact this
      · intro c hc h1 h2
        have := hb _ (List.mem_cons_of_mem _ hc) (d.first + i) h1 h2
        rw [highV_self] at this
        exact this
    omega
  have hval := runs_valid (lo := fun i => W.1.getD i 0) (hi := fun i => W.2.getD i 0) hv hsp hin
  generalize runsG d.first (fun i => W.1.getD i 0) (fun i => W.2.getD i 0) (spanN d) = R at hr hval
  have hrs := src_le hv hval
  have hlen := hr.len
  have eLo : ∀ t, rLo d R t = rLo d S t := fun t => by
    apply Int.le_antisymm
    · rw [rLo_band hrs]
      intro c hc s h1 h2
      have hb := (rLo_band hsl).1 (Int.le_refl (rLo d S t))
      rcases List.mem_cons.1 hc with rfl | hc
      · exact hb _ (List.mem_cons_self ..) s h1 h2
      · obtain ⟨g1, g2, g3, g4⟩ := hr.each c hc
        obtain ⟨k, hk⟩ : ∃ k : Nat, s = d.first + k := ⟨(s - d.first).toNat, by omega⟩
        subst hk
        have e := (g4 k h1 h2).1
        have h3 : c.lo ≤ rLo d S t - lowV d (d.first + k) t 0 := by
          rw [← e, hlo k _ (by omega), r0 k _ (by omega)]
          constructor
          · have := hb _ (List.mem_cons_self ..) (d.first + k) (by show d.first ≤ _; omega) (by show _ ≤ d.last; omega)
            rw [lowV_0] at this
            have e5 : (rangeC d).lo = d.lo := rfl
            omega
          · intro c' hc' h5 h6
            have := hb _ (List.mem_cons_of_mem _ hc') (d.first + k) h5 h6
            rw [lowV_0] at this
            omega
        rw [lowV_0]
        omega
    · rw [rLo_band hsl]
      intro c hc s h1 h2
      have hb := (rLo_band hrs).1 (Int.le_refl (rLo d R t))
      rcases List.mem_cons.1 hc with rfl | hc
      · exact hb _ (List.mem_cons_self ..) s h1 h2
      · have hcv := (valid_iff d c).1 (hl c hc)
        obtain ⟨k, hk⟩ : ∃ k : Nat, s = d.first + k := ⟨(s - d.first).toNat, by omega⟩
        subst hk
        obtain ⟨c', hc', g1, g2⟩ := hr.cover k (by omega)
        have e := ((hr.each c' hc').2.2.2 k g1 g2).1
        have h3 := ((hlo k _ (by omega)).1 (Int.le_refl (W.1.getD k 0))).2 c hc h1 h2
        have h4 := hb _ (List.mem_cons_of_mem _ hc') (d.first + k) g1 g2
        rw [lowV_0] at h4 ⊢
        omega
  have eHi : ∀ t, rHi d R t = rHi d S t := fun t => by
    apply Int.le_antisymm
    · rw [rHi_band hsl]
      intro c hc s h1 h2
      have hb := (rHi_band hrs).1 (Int.le_refl (rHi d R t))
      rcases List.mem_cons.1 hc with rfl | hc
      · exact hb _ (List.mem_cons_self ..) s h1 h2
      · have hcv := (valid_iff d c).1 (hl c hc)
        obtain ⟨k, hk⟩ : ∃ k : Nat, s = d.first + k := ⟨(s - d.first).toNat, by omega⟩
        subst hk
        obtain ⟨c', hc', g1, g2⟩ := hr.cover k (by omega)
        have e := ((hr.each c' hc').2.2.2 k g1 g2).2
        have h3 := ((hhi k _ (by omega)).1 (Int.le_refl (W.2.getD k 0))).2 c hc h1 h2
        have h4 := hb _ (List.mem_cons_of_mem _ hc') (d.first + k) g1 g2
        rw [highV_0] at h4 ⊢
        omega
    · rw [rHi_band hrs]
      intro c hc s h1 h2
      have hb := (rHi_band hsl).1 (Int.le_refl (rHi d S t))
      rcases List.mem_cons.1 hc with rfl | hc
      · exact hb _ (List.mem_cons_self ..) s h1 h2
      · obtain ⟨g1, g2, g3, g4⟩ := hr.each c hc
        obtain ⟨k, hk⟩ : ∃ k : Nat, s = d.first + k := ⟨(s - d.first).toNat, by omega⟩
        subst hk
        have e := (g4 k h1 h2).2
        have h3 : rHi d S t - highV d (d.first + k) t 0 ≤ c.hi := by
          rw [← e, hhi k _ (by omega), r0 k _ (by omega)]
          constructor
          · have := hb _ (List.mem_cons_self ..) (d.first + k) (by show d.first ≤ _; omega) (by show _ ≤ d.last; omega)
            rw [highV_0] at this
            have e5 : (rangeC d).hi = d.hi := rfl
            omega
          · intro c' hc' h5 h6
            have := hb _ (List.mem_cons_of_mem _ hc') (d.first + k) h5 h6
            rw [highV_0] at this
            omega
        rw [highV_0]
        omega
  have e1 : rLoL d R (spanN d) = rLoL d S (spanN d) := List.map_congr_left fun i hi => eLo _
  have e2 : rHiL d R (spanN d) = rHiL d S (spanN d) := List.map_congr_left fun i hi => eHi _
  rcases newR_cases (l := R) hv (by omega) hval hsp with ⟨_, h2⟩ | ⟨h1, _⟩
  · rcases newR_cases (l := S) hv hn hl hsp with ⟨_, h4⟩ | ⟨h3, _⟩
    · rw [h2, h4, e1, e2]
    · exact absurd hok h3
  · exact absurd (fun i hi => by rw [eLo, eHi]; exact hok i hi) h1
end Go.Proofs.Ytpnngbfmmjjnaaa
