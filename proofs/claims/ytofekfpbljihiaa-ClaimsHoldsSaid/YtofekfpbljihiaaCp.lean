/- Claims: what holds of bands and of values, in plain words. No program in sight. -/
import Derived.Test.YtofekfpbljihiaaCf
namespace Go.Proofs.Ytofekfpbljihiaa
open Go.RowKit
set_option linter.unusedVariables false

/-- Values satisfy a claim. -/
def HoldsP (d : Dc) (c : Cl) (vs : List Int) : Prop := validB d c = true ∧ (vs.length : Int) = d.last - d.first + 1 ∧ ∀ i : Nat, c.f - d.first ≤ i → (i : Int) ≤ c.t - d.first → c.lo ≤ vs.getD i 0 ∧ vs.getD i 0 ≤ c.hi
noncomputable def holdsB' (d : Dc) (c : Cl) (vs : List Int) : Bool := @decide (HoldsP d c vs) (Classical.propDecidable _)
theorem holdsB'_t {d : Dc} {c : Cl} {vs : List Int} : holdsB' d c vs = true ↔ HoldsP d c vs := by simp [holdsB']
theorem holdsB'_f {d : Dc} {c : Cl} {vs : List Int} : holdsB' d c vs = false ↔ ¬ HoldsP d c vs := by simp [holdsB']

theorem low_aux (t x : Int) : ∀ (l : List Cl) (a : Int), l.foldl (fun a c => if c.f ≤ t ∧ t ≤ c.t then max a c.lo else a) a ≤ x ↔ a ≤ x ∧ ∀ c ∈ l, c.f ≤ t → t ≤ c.t → c.lo ≤ x := by
  intro l
  induction l with
  | nil => intro a; simp
  | cons c r ih =>
    intro a
    simp only [List.foldl_cons, List.forall_mem_cons]
    rw [ih]
    by_cases h : c.f ≤ t ∧ t ≤ c.t
    · rw [if_pos h]
      constructor
      · rintro ⟨h1, h2⟩; exact ⟨by omega, fun _ _ => by omega, h2⟩
      · rintro ⟨h1, h2, h3⟩; have := h2 h.1 h.2; exact ⟨by omega, h3⟩
    · rw [if_neg h]
      constructor
      · rintro ⟨h1, h2⟩; exact ⟨h1, fun a b => absurd ⟨a, b⟩ h, h2⟩
      · rintro ⟨h1, h2, h3⟩; exact ⟨h1, h3⟩
theorem high_aux (t x : Int) : ∀ (l : List Cl) (a : Int), x ≤ l.foldl (fun a c => if c.f ≤ t ∧ t ≤ c.t then min a c.hi else a) a ↔ x ≤ a ∧ ∀ c ∈ l, c.f ≤ t → t ≤ c.t → x ≤ c.hi := by
  intro l
  induction l with
  | nil => intro a; simp
  | cons c r ih =>
    intro a
    simp only [List.foldl_cons, List.forall_mem_cons]
    rw [ih]
    by_cases h : c.f ≤ t ∧ t ≤ c.t
    · rw [if_pos h]
      constructor
      · rintro ⟨h1, h2⟩; exact ⟨by omega, fun _ _ => by omega, h2⟩
      · rintro ⟨h1, h2, h3⟩; have := h2 h.1 h.2; exact ⟨by omega, h3⟩
    · rw [if_neg h]
      constructor
      · rintro ⟨h1, h2⟩; exact ⟨h1, fun a b => absurd ⟨a, b⟩ h, h2⟩
      · rintro ⟨h1, h2, h3⟩; exact ⟨h1, h3⟩
theorem lowB_le {d : Dc} {l : List Cl} {t x : Int} : lowB d l t ≤ x ↔ d.lo ≤ x ∧ ∀ c ∈ l, c.f ≤ t → t ≤ c.t → c.lo ≤ x := low_aux t x l d.lo
theorem le_highB {d : Dc} {l : List Cl} {t x : Int} : x ≤ highB d l t ↔ x ≤ d.hi ∧ ∀ c ∈ l, c.f ≤ t → t ≤ c.t → x ≤ c.hi := high_aux t x l d.hi
theorem lowB_set {d : Dc} {l l' : List Cl} {t : Int} (h : ∀ c, c ∈ l ↔ c ∈ l') : lowB d l t = lowB d l' t := by
  apply Int.le_antisymm
  · rw [lowB_le]
    have := (lowB_le (d := d) (l := l') (t := t)).1 (Int.le_refl _)
    exact ⟨this.1, fun c hc => this.2 c ((h c).1 hc)⟩
  · rw [lowB_le]
    have := (lowB_le (d := d) (l := l) (t := t)).1 (Int.le_refl _)
    exact ⟨this.1, fun c hc => this.2 c ((h c).2 hc)⟩
theorem highB_set {d : Dc} {l l' : List Cl} {t : Int} (h : ∀ c, c ∈ l ↔ c ∈ l') : highB d l t = highB d l' t := by
  apply Int.le_antisymm
  · rw [le_highB]
    have := (le_highB (d := d) (l := l) (t := t)).1 (Int.le_refl _)
    exact ⟨this.1, fun c hc => this.2 c ((h c).2 hc)⟩
  · rw [le_highB]
    have := (le_highB (d := d) (l := l') (t := t)).1 (Int.le_refl _)
    exact ⟨this.1, fun c hc => this.2 c ((h c).1 hc)⟩

/-- Runs of equal bounds. -/
def runsG (a : Int) (lo hi : Nat → Int) : Nat → List Cl
  | 0 => []
  | n + 1 => addR (runsG a lo hi n) (a + n) (lo n) (hi n)
theorem runsR_some {d : Dc} {l : List Cl} : ∀ n : Nat, (∀ i : Nat, i < n → lowB d l (d.first + i) ≤ highB d l (d.first + i)) → runsR d l n = some (runsG d.first (fun i => lowB d l (d.first + i)) (fun i => highB d l (d.first + i)) n)
  | 0, _ => rfl
  | n + 1, h => by
    have h1 := h n (by omega)
    simp only [runsR, runsG]
    rw [runsR_some n (fun i hi => h i (by omega)), Option.bind_some, if_neg (by omega)]
theorem runsR_none {d : Dc} {l : List Cl} : ∀ n : Nat, ¬ (∀ i : Nat, i < n → lowB d l (d.first + i) ≤ highB d l (d.first + i)) → runsR d l n = none
  | 0, h => absurd (fun i hi => by omega) h
  | n + 1, h => by
    simp only [runsR]
    by_cases h1 : ∀ i : Nat, i < n → lowB d l (d.first + i) ≤ highB d l (d.first + i)
    · have h2 : highB d l (d.first + n) < lowB d l (d.first + n) := by
        apply Int.lt_of_not_ge
        intro h3
        apply h
        intro i hi
        by_cases he : i = n
        · rw [he]; exact h3
        · exact h1 i (by omega)
      rw [runsR_some n h1, Option.bind_some, if_pos h2]
    · rw [runsR_none n h1]
      rfl
structure Runs (a : Int) (lo hi : Nat → Int) (n : Nat) (out : List Cl) : Prop where
  ne : 0 < n → 0 < out.length
  fst : 0 < out.length → (out.getD 0 cl0).f = a
  lst : 0 < out.length → (lastC out).t = a + n - 1
  adj : ∀ k, k + 1 < out.length → (out.getD (k + 1) cl0).f = (out.getD k cl0).t + 1 ∧ ¬ ((out.getD (k + 1) cl0).lo = (out.getD k cl0).lo ∧ (out.getD (k + 1) cl0).hi = (out.getD k cl0).hi)
  each : ∀ c ∈ out, a ≤ c.f ∧ c.f ≤ c.t ∧ c.t ≤ a + n - 1 ∧ ∀ i : Nat, c.f ≤ a + i → a + i ≤ c.t → lo i = c.lo ∧ hi i = c.hi
  cover : ∀ i : Nat, i < n → ∃ c ∈ out, c.f ≤ a + i ∧ a + i ≤ c.t
  len : out.length ≤ n
theorem lastC_snoc (l : List Cl) (z : Cl) : lastC (l ++ [z]) = z := by simp [lastC]
theorem set_snoc (l : List Cl) (z z' : Cl) : (l ++ [z]).set ((l ++ [z]).length - 1) z' = l ++ [z'] := by
  rw [List.set_append]
  simp
theorem getD_l (l r : List Cl) (k : Nat) (h : k < l.length) : (l ++ r).getD k cl0 = l.getD k cl0 := by
  rw [List.getD_eq_getElem?_getD, List.getD_eq_getElem?_getD, List.getElem?_append_left h]
theorem getD_e (l : List Cl) (z : Cl) : (l ++ [z]).getD l.length cl0 = z := by
  rw [List.getD_eq_getElem?_getD, List.getElem?_append_right (Nat.le_refl _)]
  simp
theorem runs_ok (a : Int) (lo hi : Nat → Int) : ∀ n : Nat, Runs a lo hi n (runsG a lo hi n)
  | 0 => ⟨fun h => by omega, fun h => by simp [runsG] at h, fun h => by simp [runsG] at h, fun k h => by simp [runsG] at h, fun c h => by simp [runsG] at h, fun i h => by omega, by simp [runsG]⟩
  | n + 1 => by
    have ih := runs_ok a lo hi n
    simp only [runsG]
    generalize runsG a lo hi n = out at ih
    unfold addR
    split
    · rename_i hc
      obtain ⟨h1, h2, h3⟩ := hc
      obtain ⟨ini, z, rfl⟩ : ∃ ini z, out = ini ++ [z] := ⟨out.dropLast, out.getLast (by intro h; rw [h] at h1; simp at h1), (List.dropLast_concat_getLast _).symm⟩
      rw [set_snoc, lastC_snoc] at *
      have hz := ih.lst h1
      rw [lastC_snoc] at hz
      have hze := ih.each z (by simp)
      refine ⟨fun _ => by simp, fun _ => ?_, fun _ => ?_, fun k hk => ?_, fun c hc => ?_, fun i hi => ?_, by have := ih.len; simp at this ⊢; omega⟩
      · have hf := ih.fst h1
        rcases Nat.eq_zero_or_pos ini.length with h | h
        · have : ini = [] := List.eq_nil_of_length_eq_zero h
          subst this
          exact hf
        · rw [getD_l _ _ _ h] at hf ⊢
          exact hf
      · rw [lastC_snoc]; simp; omega
      · have ha := ih.adj k (by simpa using hk)
        simp only [List.length_append, List.length_singleton] at hk
        rcases Nat.lt_or_ge (k + 1) ini.length with h | h
        · rw [getD_l _ _ _ h, getD_l _ _ _ (by omega)] at ha ⊢
          exact ha
        · have h4k : ini.length = k + 1 := by omega
          rw [← h4k, getD_e, getD_l _ _ _ (by omega)] at ha ⊢
          exact ha
      · rcases List.mem_append.1 hc with h | h
        · obtain ⟨g1, g2, g3, g4⟩ := ih.each c (by simp [h])
          exact ⟨g1, g2, by omega, g4⟩
        · simp at h
          subst h
          refine ⟨hze.1, by simp; omega, by simp; omega, fun i hi1 hi2 => ?_⟩
          simp only at hi1 hi2 ⊢
          by_cases hin : i = n
          · subst hin; exact ⟨h2.symm, h3.symm⟩
          · exact hze.2.2.2 i hi1 (by omega)
      · by_cases hin : i = n
        · subst hin
          exact ⟨_, List.mem_append_right _ (List.mem_singleton_self _), by simp; omega, by simp⟩
        · obtain ⟨c, hc, hc1, hc2⟩ := ih.cover i (by omega)
          rcases List.mem_append.1 hc with h | h
          · exact ⟨c, by simp [h], hc1, hc2⟩
          · simp at h
            subst h
            exact ⟨_, List.mem_append_right _ (List.mem_singleton_self _), by simpa using hc1, by simp; omega⟩
    · rename_i hc
      refine ⟨fun _ => by simp, fun _ => ?_, fun _ => ?_, fun k hk => ?_, fun c hc => ?_, fun i hi => ?_, by have := ih.len; simp; omega⟩
      · rcases Nat.eq_zero_or_pos out.length with h | h
        · have : out = [] := List.eq_nil_of_length_eq_zero h
          subst this
          have hn : n = 0 := by
            rcases Nat.eq_zero_or_pos n with h | h
            · exact h
            · have := ih.ne h; simp at this
          simp [hn]
        · rw [getD_l _ _ _ h]
          exact ih.fst h
      · rw [lastC_snoc]; simp; omega
      · simp only [List.length_append, List.length_singleton] at hk
        rcases Nat.lt_or_ge (k + 1) out.length with h | h
        · rw [getD_l _ _ _ h, getD_l _ _ _ (by omega)]
          exact ih.adj k h
        · have hkk : out.length = k + 1 := by omega
          have hl := ih.lst (by omega)
          have hlk : lastC out = out.getD k cl0 := by simp [lastC, hkk]
          rw [← hkk, getD_e, getD_l _ _ _ (by omega), ← hlk]
          refine ⟨by simp; omega, fun hh => hc ⟨by omega, hh.1.symm, hh.2.symm⟩⟩
      · rcases List.mem_append.1 hc with h | h
        · obtain ⟨g1, g2, g3, g4⟩ := ih.each c h
          exact ⟨g1, g2, by omega, g4⟩
        · simp at h
          subst h
          refine ⟨by simp; omega, by simp, by simp; omega, fun i hi1 hi2 => ?_⟩
          simp only at hi1 hi2 ⊢
          obtain rfl : i = n := by omega
          exact ⟨rfl, rfl⟩
      · by_cases hin : i = n
        · subst hin
          exact ⟨_, List.mem_append_right _ (List.mem_singleton_self _), by simp, by simp⟩
        · obtain ⟨c, hc, hc1, hc2⟩ := ih.cover i (by omega)
          exact ⟨c, by simp [hc], hc1, hc2⟩
theorem runsG_congr {a : Int} {lo hi lo' hi' : Nat → Int} : ∀ n : Nat, (∀ i, i < n → lo i = lo' i ∧ hi i = hi' i) → runsG a lo hi n = runsG a lo' hi' n
  | 0, _ => rfl
  | n + 1, h => by
    simp only [runsG]
    rw [runsG_congr n (fun i hi => h i (by omega)), (h n (by omega)).1, (h n (by omega)).2]
/-! the declarations that the reference makes -/
theorem declOf_I' (zs : List Int) : DcI (declOf zs) := by
  have a0 := pick_nn zs 0 10 (by omega)
  have b0 := pick_lt zs 0 10 (by omega)
  have a1 := pick_nn zs 1 5 (by omega)
  have b1 := pick_lt zs 1 5 (by omega)
  have a2 := pick_nn zs 2 7 (by omega)
  have b2 := pick_lt zs 2 7 (by omega)
  have a5 := pick_nn zs 5 17 (by omega)
  have b5 := pick_lt zs 5 17 (by omega)
  have a6 := pick_nn zs 6 4 (by omega)
  have b6 := pick_lt zs 6 4 (by omega)
  have a7 := pick_nn zs 7 14 (by omega)
  have b7 := pick_lt zs 7 14 (by omega)
  have a8 := pick_nn zs 8 40 (by omega)
  have b8 := pick_lt zs 8 40 (by omega)
  simp only [DcI, I64, declOf]
  omega
theorem declOf_vc (zs : List Int) : validCode (declOf zs) = 0 := by
  have a0 := pick_nn zs 0 10 (by omega)
  have b0 := pick_lt zs 0 10 (by omega)
  have a1 := pick_nn zs 1 5 (by omega)
  have b1 := pick_lt zs 1 5 (by omega)
  have a2 := pick_nn zs 2 7 (by omega)
  have b2 := pick_lt zs 2 7 (by omega)
  have a5 := pick_nn zs 5 17 (by omega)
  have b5 := pick_lt zs 5 17 (by omega)
  have a6 := pick_nn zs 6 4 (by omega)
  have b6 := pick_lt zs 6 4 (by omega)
  have a7 := pick_nn zs 7 14 (by omega)
  have b7 := pick_lt zs 7 14 (by omega)
  have a8 := pick_nn zs 8 40 (by omega)
  have b8 := pick_lt zs 8 40 (by omega)
  apply vc0
  · simp only [badRange, declOf]; omega
  · simp only [badUnit, declOf]; omega
  · simp only [badLife, declOf]; omega
theorem bent_I' (d : Dc) (k n : Int) (h : DcI d) (hn : I64 n) : DcI (bent d k n) := by
  obtain ⟨h0, h1, h2, h3, h4, h5, h6, h7, h8, h9⟩ := h
  unfold bent
  (repeat' split) <;> exact ⟨by assumption, by assumption, by assumption, by assumption, by assumption, by assumption, by assumption, by assumption, by assumption, by assumption⟩
/-! values that the reference walks -/
theorem walk_span (d : Dc) (zs : List Int) (h : DcT d) (n : Nat) : ∀ k : Nat, d.down * (k : Int) ≤ walkV d zs (n + k) - walkV d zs n ∧ walkV d zs (n + k) - walkV d zs n ≤ d.up * (k : Int)
  | 0 => by simp
  | k + 1 => by
    have ih := walk_span d zs h n k
    obtain ⟨h1, h2, h3⟩ := h
    have a0 := pick_nn zs (n + k + 1) (d.up - d.down + 1) (by omega)
    have b0 := pick_lt zs (n + k + 1) (d.up - d.down + 1) (by omega)
    have e : walkV d zs (n + (k + 1)) = walkV d zs (n + k) + d.down + pick zs (n + k + 1) (d.up - d.down + 1) := rfl
    have e1 : d.down * ((k + 1 : Nat) : Int) = d.down * k + d.down := by rw [Int.natCast_add, Int.mul_add]; simp
    have e2 : d.up * ((k + 1 : Nat) : Int) = d.up * k + d.up := by rw [Int.natCast_add, Int.mul_add]; simp
    omega
theorem mul_mid (a k n : Int) (h0 : 0 ≤ k) (h1 : k ≤ n) : min 0 (a * n) ≤ a * k ∧ a * k ≤ max 0 (a * n) := by
  rcases Int.le_total 0 a with h | h
  · have h2 := Int.mul_le_mul_of_nonneg_left h1 h
    have h3 := Int.mul_nonneg h h0
    omega
  · have h2 := Int.mul_le_mul_of_nonneg_left h1 (show 0 ≤ -a by omega)
    have h3 := Int.mul_nonneg (show 0 ≤ -a by omega) h0
    rw [Int.neg_mul, Int.neg_mul] at h2
    rw [Int.neg_mul] at h3
    omega
theorem walkL_get (d : Dc) (zs : List Int) (n i : Nat) (h : i < n) : (walkL d zs n).getD i 0 = walkV d zs i := by simp [walkL, List.getD_eq_getElem?_getD, h]
theorem sound_law (d : Dc) (zs : List Int) (h : DcT d) (hv : validCode d = 0) (sp : Nat) (hsp : (sp : Int) = d.last - d.first + 1) (i : Nat) (hi : i < sp) (b a : Int) (hb : 0 ≤ b ∧ b < 6) (ha : 0 ≤ a ∧ a < 6) :
    ∃ c, ofR d (max 0 (d.first + i - b)) (d.first + i + a) (walkV d zs i) = (c, 0) ∧ HoldsP d c (walkL d zs sp) := by
  have hw := walkV_bd d zs h i
  have hW := walk_span d zs h
  obtain ⟨h1, h2, h3⟩ := h
  unfold ofR
  rw [if_neg (by simpa using hv), if_neg (by omega), if_neg (by omega)]
  refine ⟨_, rfl, ?_⟩
  generalize hf : max (max 0 (d.first + (i : Int) - b)) d.first = f
  generalize hg : min (d.first + (i : Int) + a) d.last = g
  have hfg : d.first ≤ f ∧ f ≤ d.first + i ∧ d.first + i ≤ g ∧ g ≤ d.last := by omega
  have m1 := mul_bd (a := d.down) (n := g - f) (A := 3) (N := 13) (by omega) (by omega) (by omega) (by omega) (by omega)
  have m2 := mul_bd (a := d.up) (n := g - f) (A := 4) (N := 13) (by omega) (by omega) (by omega) (by omega) (by omega)
  have n1 := Int.neg_mul d.down (g - f)
  have n2 := Int.neg_mul d.up (g - f)
  refine ⟨?_, by simp [walkL_len]; omega, ?_⟩
  · rw [valid_iff]
    simp only
    omega
  · intro j hj1 hj2
    simp only at hj1 hj2 ⊢
    rw [walkL_get d zs sp j (by omega)]
    rcases Nat.le_total i j with hij | hij
    · have h4 := hW i (j - i)
      rw [show i + (j - i) = j by omega] at h4
      have h5 := mul_mid d.down ((j - i : Nat) : Int) (g - f) (by omega) (by omega)
      have h6 := mul_mid d.up ((j - i : Nat) : Int) (g - f) (by omega) (by omega)
      omega
    · have h4 := hW j (i - j)
      rw [show j + (i - j) = i by omega] at h4
      have h5 := mul_mid d.down ((i - j : Nat) : Int) (g - f) (by omega) (by omega)
      have h6 := mul_mid d.up ((i - j : Nat) : Int) (g - f) (by omega) (by omega)
      omega
end Go.Proofs.Ytofekfpbljihiaa
