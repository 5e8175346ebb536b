
/- Claims: what holds of bands and of values, in plain words. No program in sight. Claims: Holds, Meet, Implies; Some of the reference. Claims: Bands and the values that satisfy them, in plain words. No program in sight. -/
import Derived.Test.YtpnngbfmmjjnaaaClB
namespace Go.Proofs.Ytpnngbfmmjjnaaa
open Go.RowKit
set_option linter.unusedVariables false
set_option linter.unusedSimpArgs false

/-- Values satisfy a claim. -/
def HoldsP (d : Dc) (c : Cl) (vs : List Int) : Prop := validB d c = true ∧ (vs.length : Int) = d.last - d.first + 1 ∧ ∀ i : Nat, c.f - d.first ≤ i → (i : Int) ≤ c.t - d.first → c.lo ≤ vs.getD i 0 ∧ vs.getD i 0 ≤ c.hi
noncomputable def holdsB' (d : Dc) (c : Cl) (vs : List Int) : Bool := @decide (HoldsP d c vs) (Classical.propDecidable _)
theorem holdsB'_t {d : Dc} {c : Cl} {vs : List Int} : holdsB' d c vs = true ↔ HoldsP d c vs := by simp [holdsB']
theorem holdsB'_f {d : Dc} {c : Cl} {vs : List Int} : holdsB' d c vs = false ↔ ¬ HoldsP d c vs := by simp [holdsB']

theorem low_aux (t x : Int) : ∀ (l : List Cl) (a : Int), l.foldl (fun a c => if c.f ≤ t ∧ t ≤ c.t then max a c.lo else a) a ≤ x ↔ a ≤ x ∧ ∀ c ∈ l, c.f ≤ t → t ≤ c.t → c.lo ≤ x := by
  intro l
  induction l with
  | nil => intro a; simp
  | cons c r ih =>
    intro a
    simp only [List.foldl_cons, List.forall_mem_cons]
    rw [ih]
    by_cases h : c.f ≤ t ∧ t ≤ c.t
    · rw [if_pos h]
      constructor
      · rintro ⟨h1, h2⟩; exact ⟨by omega, fun _ _ => by omega, h2⟩
      · rintro ⟨h1, h2, h3⟩; have := h2 h.1 h.2; exact ⟨by omega, h3⟩
    · rw [if_neg h]
      constructor
      · rintro ⟨h1, h2⟩; exact ⟨h1, fun a b => absurd ⟨a, b⟩ h, h2⟩
      · rintro ⟨h1, h2, h3⟩; exact ⟨h1, h3⟩
theorem high_aux (t x : Int) : ∀ (l : List Cl) (a : Int), x ≤ l.foldl (fun a c => if c.f ≤ t ∧ t ≤ c.t then min a c.hi else a) a ↔ x ≤ a ∧ ∀ c ∈ l, c.f ≤ t → t ≤ c.t → x ≤ c.hi := by
  intro l
  induction l with
  | nil => intro a; simp
  | cons c r ih =>
    intro a
    simp only [List.foldl_cons, List.forall_mem_cons]
    rw [ih]
    by_cases h : c.f ≤ t ∧ t ≤ c.t
    · rw [if_pos h]
      constructor
      · rintro ⟨h1, h2⟩; exact ⟨by omega, fun _ _ => by omega, h2⟩
      · rintro ⟨h1, h2, h3⟩; have := h2 h.1 h.2; exact ⟨by omega, h3⟩
    · rw [if_neg h]
      constructor
      · rintro ⟨h1, h2⟩; exact ⟨h1, fun a b => absurd ⟨a, b⟩ h, h2⟩
      · rintro ⟨h1, h2, h3⟩; exact ⟨h1, h3⟩
theorem lowB_le {d : Dc} {l : List Cl} {t x : Int} : lowB d l t ≤ x ↔ d.lo ≤ x ∧ ∀ c ∈ l, c.f ≤ t → t ≤ c.t → c.lo ≤ x := low_aux t x l d.lo
theorem le_highB {d : Dc} {l : List Cl} {t x : Int} : x ≤ highB d l t ↔ x ≤ d.hi ∧ ∀ c ∈ l, c.f ≤ t → t ≤ c.t → x ≤ c.hi := high_aux t x l d.hi
theorem lowB_set {d : Dc} {l l' : List Cl} {t : Int} (h : ∀ c, c ∈ l ↔ c ∈ l') : lowB d l t = lowB d l' t := by
  apply Int.le_antisymm
  · rw [lowB_le]
    have := (lowB_le (d := d) (l := l') (t := t)).1 (Int.le_refl _)
    exact ⟨this.1, fun c hc => this.2 c ((h c).1 hc)⟩
  · rw [lowB_le]
    have := (lowB_le (d := d) (l := l) (t := t)).1 (Int.le_refl _)
    exact ⟨this.1, fun c hc => this.2 c ((h c).2 hc)⟩
theorem highB_set {d : Dc} {l l' : List Cl} {t : Int} (h : ∀ c, c ∈ l ↔ c ∈ l') : highB d l t = highB d l' t := by
  apply Int.le_antisymm
  · rw [le_highB]
    have := (le_highB (d := d) (l := l) (t := t)).1 (Int.le_refl _)
    exact ⟨this.1, fun c hc => this.2 c ((h c).2 hc)⟩
  · rw [le_highB]
    have := (le_highB (d := d) (l := l') (t := t)).1 (Int.le_refl _)
    exact ⟨this.1, fun c hc => this.2 c ((h c).1 hc)⟩

/-- Runs of equal bounds. -/
def runsG (a : Int) (lo hi : Nat → Int) : Nat → List Cl
  | 0 => []
  | n + 1 => addR (runsG a lo hi n) (a + n) (lo n) (hi n)
theorem runsR_some {d : Dc} {l : List Cl} : ∀ n : Nat, (∀ i : Nat, i < n → lowB d l (d.first + i) ≤ highB d l (d.first + i)) → runsR d l n = some (runsG d.first (fun i => lowB d l (d.first + i)) (fun i => highB d l (d.first + i)) n)
  | 0, _ => rfl
  | n + 1, h => by
    have h1 := h n (by omega)
    simp only [runsR, runsG]
    rw [runsR_some n (fun i hi => h i (by omega)), Option.bind_some, if_neg (by omega)]
theorem runsR_none {d : Dc} {l : List Cl} : ∀ n : Nat, ¬ (∀ i : Nat, i < n → lowB d l (d.first + i) ≤ highB d l (d.first + i)) → runsR d l n = none
  | 0, h => absurd (fun i hi => by omega) h
  | n + 1, h => by
    simp only [runsR]
    by_cases h1 : ∀ i : Nat, i < n → lowB d l (d.first + i) ≤ highB d l (d.first + i)
    · have h2 : highB d l (d.first + n) < lowB d l (d.first + n) := by
        apply Int.lt_of_not_ge
        intro h3
        apply h
        intro i hi
        by_cases he : i = n
        · rw [he]; exact h3
        · exact h1 i (by omega)
      rw [runsR_some n h1, Option.bind_some, if_pos h2]
    · rw [runsR_none n h1]
      rfl
structure Runs (a : Int) (lo hi : Nat → Int) (n : Nat) (out : List Cl) : Prop where
  ne : 0 < n → 0 < out.length
  fst : 0 < out.length → (out.getD 0 cl0).f = a
  lst : 0 < out.length → (lastC out).t = a + n - 1
  adj : ∀ k, k + 1 < out.length → (out.getD (k + 1) cl0).f = (out.getD k cl0).t + 1 ∧ ¬ ((out.getD (k + 1) cl0).lo = (out.getD k cl0).lo ∧ (out.getD (k + 1) cl0).hi = (out.getD k cl0).hi)
  each : ∀ c ∈ out, a ≤ c.f ∧ c.f ≤ c.t ∧ c.t ≤ a + n - 1 ∧ ∀ i : Nat, c.f ≤ a + i → a + i ≤ c.t → lo i = c.lo ∧ hi i = c.hi
  cover : ∀ i : Nat, i < n → ∃ c ∈ out, c.f ≤ a + i ∧ a + i ≤ c.t
  len : out.length ≤ n
theorem lastC_snoc (l : List Cl) (z : Cl) : lastC (l ++ [z]) = z := by simp [lastC]
theorem set_snoc (l : List Cl) (z z' : Cl) : (l ++ [z]).set ((l ++ [z]).length - 1) z' = l ++ [z'] := by
  rw [List.set_append]
  simp
theorem getD_l (l r : List Cl) (k : Nat) (h : k < l.length) : (l ++ r).getD k cl0 = l.getD k cl0 := by
  rw [List.getD_eq_getElem?_getD, List.getD_eq_getElem?_getD, List.getElem?_append_left h]
theorem getD_e (l : List Cl) (z : Cl) : (l ++ [z]).getD l.length cl0 = z := by
  rw [List.getD_eq_getElem?_getD, List.getElem?_append_right (Nat.le_refl _)]
  simp
theorem runs_ok (a : Int) (lo hi : Nat → Int) : ∀ n : Nat, Runs a lo hi n (runsG a lo hi n)
  | 0 => ⟨fun h => by omega, fun h => by simp [runsG] at h, fun h => by simp [runsG] at h, fun k h => by simp [runsG] at h, fun c h => by simp [runsG] at h, fun i h => by omega, by simp [runsG]⟩
  | n + 1 => by
    have ih := runs_ok a lo hi n
    simp only [runsG]
    generalize runsG a lo hi n = out at ih
    unfold addR
    split
    · rename_i hc
      obtain ⟨h1, h2, h3⟩ := hc
      obtain ⟨ini, z, rfl⟩ : ∃ ini z, out = ini ++ [z] := ⟨out.dropLast, out.getLast (by intro h; rw [h] at h1; simp at h1), (List.dropLast_concat_getLast _).symm⟩
      rw [set_snoc, lastC_snoc] at *
      have hz := ih.lst h1
      rw [lastC_snoc] at hz
      have hze := ih.each z (by simp)
      refine ⟨fun _ => by simp, fun _ => ?_, fun _ => ?_, fun k hk => ?_, fun c hc => ?_, fun i hi => ?_, by have := ih.len; simp at this ⊢; omega⟩
      · have hf := ih.fst h1
        rcases Nat.eq_zero_or_pos ini.length with h | h
        · have : ini = [] := List.eq_nil_of_length_eq_zero h
          subst this
          exact hf
        · rw [getD_l _ _ _ h] at hf ⊢
          exact hf
      · rw [lastC_snoc]; simp; omega
      · have ha := ih.adj k (by simpa using hk)
        simp only [List.length_append, List.length_singleton] at hk
        rcases Nat.lt_or_ge (k + 1) ini.length with h | h
        · rw [getD_l _ _ _ h, getD_l _ _ _ (by omega)] at ha ⊢
          exact ha
        · have h4k : ini.length = k + 1 := by omega
          rw [← h4k, getD_e, getD_l _ _ _ (by omega)] at ha ⊢
          exact ha
      · rcases List.mem_append.1 hc with h | h
        · obtain ⟨g1, g2, g3, g4⟩ := ih.each c (by simp [h])
          exact ⟨g1, g2, by omega, g4⟩
        · simp at h
          subst h
          refine ⟨hze.1, by simp; omega, by simp; omega, fun i hi1 hi2 => ?_⟩
          simp only at hi1 hi2 ⊢
          by_cases hin : i = n
          · subst hin; exact ⟨h2.symm, h3.symm⟩
          · exact hze.2.2.2 i hi1 (by omega)
      · by_cases hin : i = n
        · subst hin
          exact ⟨_, List.mem_append_right _ (List.mem_singleton_self _), by simp; omega, by simp⟩
        · obtain ⟨c, hc, hc1, hc2⟩ := ih.cover i (by omega)
          rcases List.mem_append.1 hc with h | h
          · exact ⟨c, by simp [h], hc1, hc2⟩
          · simp at h
            subst h
            exact ⟨_, List.mem_append_right _ (List.mem_singleton_self _), by simpa using hc1, by simp; omega⟩
    · rename_i hc
      refine ⟨fun _ => by simp, fun _ => ?_, fun _ => ?_, fun k hk => ?_, fun c hc => ?_, fun i hi => ?_, by have := ih.len; simp; omega⟩
      · rcases Nat.eq_zero_or_pos out.length with h | h
        · have : out = [] := List.eq_nil_of_length_eq_zero h
          subst this
          have hn : n = 0 := by
            rcases Nat.eq_zero_or_pos n with h | h
            · exact h
            · have := ih.ne h; simp at this
          simp [hn]
        · rw [getD_l _ _ _ h]
          exact ih.fst h
      · rw [lastC_snoc]; simp; omega
      · simp only [List.length_append, List.length_singleton] at hk
        rcases Nat.lt_or_ge (k + 1) out.length with h | h
        · rw [getD_l _ _ _ h, getD_l _ _ _ (by omega)]
          exact ih.adj k h
        · have hkk : out.length = k + 1 := by omega
          have hl := ih.lst (by omega)
          have hlk : lastC out = out.getD k cl0 := by simp [lastC, hkk]
          rw [← hkk, getD_e, getD_l _ _ _ (by omega), ← hlk]
          refine ⟨by simp; omega, fun hh => hc ⟨by omega, hh.1.symm, hh.2.symm⟩⟩
      · rcases List.mem_append.1 hc with h | h
        · obtain ⟨g1, g2, g3, g4⟩ := ih.each c h
          exact ⟨g1, g2, by omega, g4⟩
        · simp at h
          subst h
          refine ⟨by simp; omega, by simp, by simp; omega, fun i hi1 hi2 => ?_⟩
          simp only at hi1 hi2 ⊢
          obtain rfl : i = n := by omega
          exact ⟨rfl, rfl⟩
      · by_cases hin : i = n
        · subst hin
          exact ⟨_, List.mem_append_right _ (List.mem_singleton_self _), by simp, by simp⟩
        · obtain ⟨c, hc, hc1, hc2⟩ := ih.cover i (by omega)
          exact ⟨c, by simp [hc], hc1, hc2⟩
theorem runsG_congr {a : Int} {lo hi lo' hi' : Nat → Int} : ∀ n : Nat, (∀ i, i < n → lo i = lo' i ∧ hi i = hi' i) → runsG a lo hi n = runsG a lo' hi' n
  | 0, _ => rfl
  | n + 1, h => by
    simp only [runsG]
    rw [runsG_congr n (fun i hi => h i (by omega)), (h n (by omega)).1, (h n (by omega)).2]
/-! the declarations that the reference makes -/
theorem declOf_I' (zs : List Int) : DcI (declOf zs) := by
  have a0 := pick_nn zs 0 10 (by omega)
  have b0 := pick_lt zs 0 10 (by omega)
  have a1 := pick_nn zs 1 5 (by omega)
  have b1 := pick_lt zs 1 5 (by omega)
  have a2 := pick_nn zs 2 7 (by omega)
  have b2 := pick_lt zs 2 7 (by omega)
  have a5 := pick_nn zs 5 17 (by omega)
  have b5 := pick_lt zs 5 17 (by omega)
  have a6 := pick_nn zs 6 4 (by omega)
  have b6 := pick_lt zs 6 4 (by omega)
  have a7 := pick_nn zs 7 14 (by omega)
  have b7 := pick_lt zs 7 14 (by omega)
  have a8 := pick_nn zs 8 40 (by omega)
  have b8 := pick_lt zs 8 40 (by omega)
  simp only [DcI, I64, declOf]
  omega
theorem declOf_vc (zs : List Int) : validCode (declOf zs) = 0 := by
  have a0 := pick_nn zs 0 10 (by omega)
  have b0 := pick_lt zs 0 10 (by omega)
  have a1 := pick_nn zs 1 5 (by omega)
  have b1 := pick_lt zs 1 5 (by omega)
  have a2 := pick_nn zs 2 7 (by omega)
  have b2 := pick_lt zs 2 7 (by omega)
  have a5 := pick_nn zs 5 17 (by omega)
  have b5 := pick_lt zs 5 17 (by omega)
  have a6 := pick_nn zs 6 4 (by omega)
  have b6 := pick_lt zs 6 4 (by omega)
  have a7 := pick_nn zs 7 14 (by omega)
  have b7 := pick_lt zs 7 14 (by omega)
  have a8 := pick_nn zs 8 40 (by omega)
  have b8 := pick_lt zs 8 40 (by omega)
  apply vc0
  · simp only [badRange, declOf]; omega
  · simp only [badUnit, declOf]; omega
  · simp only [badLife, declOf]; omega
theorem bent_I' (d : Dc) (k n : Int) (h : DcI d) (hn : I64 n) : DcI (bent d k n) := by
  obtain ⟨h0, h1, h2, h3, h4, h5, h6, h7, h8, h9⟩ := h
  unfold bent
  (repeat' split) <;> exact ⟨by assumption, by assumption, by assumption, by assumption, by assumption, by assumption, by assumption, by assumption, by assumption, by assumption⟩
/-! values that the reference walks -/
theorem walk_span (d : Dc) (zs : List Int) (h : DcT d) (n : Nat) : ∀ k : Nat, d.down * (k : Int) ≤ walkV d zs (n + k) - walkV d zs n ∧ walkV d zs (n + k) - walkV d zs n ≤ d.up * (k : Int)
  | 0 => by simp
  | k + 1 => by
    have ih := walk_span d zs h n k
    obtain ⟨h1, h2, h3⟩ := h
    have a0 := pick_nn zs (n + k + 1) (d.up - d.down + 1) (by omega)
    have b0 := pick_lt zs (n + k + 1) (d.up - d.down + 1) (by omega)
    have e : walkV d zs (n + (k + 1)) = walkV d zs (n + k) + d.down + pick zs (n + k + 1) (d.up - d.down + 1) := rfl
    have e1 : d.down * ((k + 1 : Nat) : Int) = d.down * k + d.down := by rw [Int.natCast_add, Int.mul_add]; simp
    have e2 : d.up * ((k + 1 : Nat) : Int) = d.up * k + d.up := by rw [Int.natCast_add, Int.mul_add]; simp
    omega
theorem mul_mid (a k n : Int) (h0 : 0 ≤ k) (h1 : k ≤ n) : min 0 (a * n) ≤ a * k ∧ a * k ≤ max 0 (a * n) := by
  rcases Int.le_total 0 a with h | h
  · have h2 := Int.mul_le_mul_of_nonneg_left h1 h
    have h3 := Int.mul_nonneg h h0
    omega
  · have h2 := Int.mul_le_mul_of_nonneg_left h1 (show 0 ≤ -a by omega)
    have h3 := Int.mul_nonneg (show 0 ≤ -a by omega) h0
    rw [Int.neg_mul, Int.neg_mul] at h2
    rw [Int.neg_mul] at h3
    omega
theorem walkL_get (d : Dc) (zs : List Int) (n i : Nat) (h : i < n) : (walkL d zs n).getD i 0 = walkV d zs i := by simp [walkL, List.getD_eq_getElem?_getD, h]
theorem sound_law (d : Dc) (zs : List Int) (h : DcT d) (hv : validCode d = 0) (sp : Nat) (hsp : (sp : Int) = d.last - d.first + 1) (i : Nat) (hi : i < sp) (b a : Int) (hb : 0 ≤ b ∧ b < 6) (ha : 0 ≤ a ∧ a < 6) :
    ∃ c, ofR d (max 0 (d.first + i - b)) (d.first + i + a) (walkV d zs i) = (c, 0) ∧ HoldsP d c (walkL d zs sp) := by
  have hw := walkV_bd d zs h i
  have hW := walk_span d zs h
  obtain ⟨h1, h2, h3⟩ := h
  unfold ofR
  rw [if_neg (by simpa using hv), if_neg (by omega), if_neg (by omega)]
  refine ⟨_, rfl, ?_⟩
  generalize hf : max (max 0 (d.first + (i : Int) - b)) d.first = f
  generalize hg : min (d.first + (i : Int) + a) d.last = g
  have hfg : d.first ≤ f ∧ f ≤ d.first + i ∧ d.first + i ≤ g ∧ g ≤ d.last := by omega
  have m1 := mul_bd (a := d.down) (n := g - f) (A := 3) (N := 13) (by omega) (by omega) (by omega) (by omega) (by omega)
  have m2 := mul_bd (a := d.up) (n := g - f) (A := 4) (N := 13) (by omega) (by omega) (by omega) (by omega) (by omega)
  have n1 := Int.neg_mul d.down (g - f)
  have n2 := Int.neg_mul d.up (g - f)
  refine ⟨?_, by simp [walkL_len]; omega, ?_⟩
  · rw [valid_iff]
    simp only
    omega
  · intro j hj1 hj2
    simp only at hj1 hj2 ⊢
    rw [walkL_get d zs sp j (by omega)]
    rcases Nat.le_total i j with hij | hij
    · have h4 := hW i (j - i)
      rw [show i + (j - i) = j by omega] at h4
      have h5 := mul_mid d.down ((j - i : Nat) : Int) (g - f) (by omega) (by omega)
      have h6 := mul_mid d.up ((j - i : Nat) : Int) (g - f) (by omega) (by omega)
      omega
    · have h4 := hW j (i - j)
      rw [show j + (i - j) = i by omega] at h4
      have h5 := mul_mid d.down ((i - j : Nat) : Int) (g - f) (by omega) (by omega)
      have h6 := mul_mid d.up ((i - j : Nat) : Int) (g - f) (by omega) (by omega)
      omega
end Go.Proofs.Ytpnngbfmmjjnaaa
namespace Go.Proofs.Ytpnngbfmmjjnaaa
open Go.RowKit
set_option linter.unusedVariables false
set_option linter.unusedSimpArgs false

def meetC (x y : Cl) : Cl := ⟨max x.f y.f, min x.t y.t, max x.lo y.lo, min x.hi y.hi⟩
def meetR (x y : Cl) : Cl × Bool := if (meetC x y).t < (meetC x y).f ∨ (meetC x y).hi < (meetC x y).lo then (cl0, false) else (meetC x y, true)
set_option maxRecDepth 10000 in
theorem holds_s (nm : ByteArray) (A : Option Addr) (ln c : Nat) (d : Dc) (x : Cl) (v : Value) (vs : List Int) (w : World) (h : DcT d) (hv : RowsIn rI w v vs) :
    Con Try.prog 57 #[.agg (dcCells nm (.slice A ln c) d), .agg (clA x), v] w (Ret w (.bool (holdsB' d x vs))) := by
  obtain ⟨A1, c1, rfl, e1, e2⟩ := hv.form
  obtain ⟨h1, h2, h3⟩ := h
  refine enter tabOk mixed Try.func57 rfl Try.ntmps57 Try.results57 [.a (dcS nm (.v (.slice A ln c)) d), .a (clS x), .s 0 1 vs.length c1] (fun _ => A1) [⟨0, false, 3, 1, c1, .rows Int rI (vs)⟩] 1 rfl rfl (.ro (hp0 _ _ _) _ rfl rfl rfl (ro_rows hv rfl _)) ?_
  ((conv=>whnf);(repeat(refine And.intro ?_ ?_;(focus((first|omega|exact⟨rfl,True.intro⟩|exact⟨rfl,rfl,True.intro⟩|rfl|(simp only[List.length_set];first|omega|(refine⟨?_,?_⟩<;>omega)|(refine⟨?_,?_,?_⟩<;>omega))|(intro hg;(try simp only[bB]at hg);first|omega|(refine⟨?_,?_⟩<;>omega)|(refine⟨?_,?_,?_⟩<;>first|omega|(show _<_;(try simp only[List.length_set]);omega)|exact leT rfl))|(refine⟨?_,?_⟩<;>omega)|(refine⟨?_,?_,?_⟩<;>first|omega|(show _<_;(try simp only[List.length_set]);omega)|exact leT rfl)|(simp only[show rI.d=(0:Int)from rfl];omega));done));(conv=>whnf))))
  refine EvCall.plain Try.call65 (.v (.bool (validB d x))) rfl (fun ρ W hp => valid_s _ _ _ _ d x W) ?_
  ((conv=>whnf);(repeat(refine And.intro ?_ ?_;(focus((first|omega|exact⟨rfl,True.intro⟩|exact⟨rfl,rfl,True.intro⟩|rfl|(simp only[List.length_set];first|omega|(refine⟨?_,?_⟩<;>omega)|(refine⟨?_,?_,?_⟩<;>omega))|(intro hg;(try simp only[bB]at hg);first|omega|(refine⟨?_,?_⟩<;>omega)|(refine⟨?_,?_,?_⟩<;>first|omega|(show _<_;(try simp only[List.length_set]);omega)|exact leT rfl))|(refine⟨?_,?_⟩<;>omega)|(refine⟨?_,?_,?_⟩<;>first|omega|(show _<_;(try simp only[List.length_set]);omega)|exact leT rfl)|(simp only[show rI.d=(0:Int)from rfl];omega));done));(conv=>whnf))))
  refine EvCallC.plain Try.call56 (.v (.int .i64 (d.last - d.first + 1))) rfl (fun _ ρ W hp => span_s _ _ _ _ d W (by omega) (by omega)) ?_
  ((conv=>whnf);(repeat(refine And.intro ?_ ?_;(focus((first|omega|exact⟨rfl,True.intro⟩|exact⟨rfl,rfl,True.intro⟩|rfl|(simp only[List.length_set];first|omega|(refine⟨?_,?_⟩<;>omega)|(refine⟨?_,?_,?_⟩<;>omega))|(intro hg;(try simp only[bB]at hg);first|omega|(refine⟨?_,?_⟩<;>omega)|(refine⟨?_,?_,?_⟩<;>first|omega|(show _<_;(try simp only[List.length_set]);omega)|exact leT rfl))|(refine⟨?_,?_⟩<;>omega)|(refine⟨?_,?_,?_⟩<;>first|omega|(show _<_;(try simp only[List.length_set]);omega)|exact leT rfl)|(simp only[show rI.d=(0:Int)from rfl];omega));done));(conv=>whnf))))
  refine EvIf.split (fun g1 => ?_) (fun g1 => ?_)
  · simp only [Bool.or_eq_true, Bool.not_eq_true', decide_eq_false_iff_not, decide_eq_true_eq] at g1
    ((conv=>whnf);(repeat(refine And.intro ?_ ?_;(focus((first|omega|exact⟨rfl,True.intro⟩|exact⟨rfl,rfl,True.intro⟩|rfl|(simp only[List.length_set];first|omega|(refine⟨?_,?_⟩<;>omega)|(refine⟨?_,?_,?_⟩<;>omega))|(intro hg;(try simp only[bB]at hg);first|omega|(refine⟨?_,?_⟩<;>omega)|(refine⟨?_,?_,?_⟩<;>first|omega|(show _<_;(try simp only[List.length_set]);omega)|exact leT rfl))|(refine⟨?_,?_⟩<;>omega)|(refine⟨?_,?_,?_⟩<;>first|omega|(show _<_;(try simp only[List.length_set]);omega)|exact leT rfl)|(simp only[show rI.d=(0:Int)from rfl];omega));done));(conv=>whnf))))
    refine EvRet.ret (fun _ => ?_)
    rw [holdsB'_f.2 (fun hh => by
      rcases g1 with (g1 | g1) | g1
      · rw [hh.1] at g1; cases g1
      · exact g1 hh.2.1
      · have := hh.2.1; omega)]
    rfl
  simp only [Bool.or_eq_false_iff, Bool.not_eq_false', decide_eq_true_eq, decide_eq_false_iff_not] at g1
  have hvb := (valid_iff d x).1 g1.1.1
  ((conv=>whnf);(repeat(refine And.intro ?_ ?_;(focus((first|omega|exact⟨rfl,True.intro⟩|exact⟨rfl,rfl,True.intro⟩|rfl|(simp only[List.length_set];first|omega|(refine⟨?_,?_⟩<;>omega)|(refine⟨?_,?_,?_⟩<;>omega))|(intro hg;(try simp only[bB]at hg);first|omega|(refine⟨?_,?_⟩<;>omega)|(refine⟨?_,?_,?_⟩<;>first|omega|(show _<_;(try simp only[List.length_set]);omega)|exact leT rfl))|(refine⟨?_,?_⟩<;>omega)|(refine⟨?_,?_,?_⟩<;>first|omega|(show _<_;(try simp only[List.length_set]);omega)|exact leT rfl)|(simp only[show rI.d=(0:Int)from rfl];omega));done));(conv=>whnf))))
  obtain ⟨F, hF⟩ : ∃ F : Nat, x.f - d.first = (F : Int) := ⟨(x.f - d.first).toNat, by omega⟩
  obtain ⟨G, hG⟩ : ∃ G : Nat, x.t - d.first = (G : Int) := ⟨(x.t - d.first).toNat, by omega⟩
  have hso : sOff (Option.getD none 0) c1 (x.f - d.first).toNat = F := by
    have : (x.f - d.first).toNat = F := by omega
    rw [this]
    unfold sOff
    rw [if_neg (by omega)]
    simp
  refine EvLoop.inv (α := Nat) (fun k => F + k ≤ G + 1 ∧ ∀ j, j < k → x.lo ≤ vs.getD (F + j) 0 ∧ vs.getD (F + j) 0 ≤ x.hi) (fun k => G + 1 - F - k)
    (fun k => [(39, [], .v (.int .i64 ((k : Int)))), (38, [], .v (.int .i64 (((G + 1 - F : Nat) : Int)))), (37, [], .so 0 1 F (G + 1 - F) (c1 - F)), (3, [], .p 1 0), (4, [], .p 2 0)])
    (fun k => [⟨2, true, 62, 4, 1, .cs (clS x)⟩, ⟨1, true, 27, 12, 1, .cs (dcS nm (.v (.slice A ln c)) d)⟩, ⟨0, false, 3, 1, c1, .rows Int rI (vs)⟩]) 3 0 ⟨by omega, fun j hj => by omega⟩ (Sub.of [] [] rfl ?_) ?_
  · (repeat' (refine And.intro ?_ ?_)) <;> first | rfl | trivial | exact hso | omega
  intro k ⟨hk, hk2⟩
  ((conv=>whnf);(repeat(refine And.intro ?_ ?_;(focus((first|omega|exact⟨rfl,True.intro⟩|exact⟨rfl,rfl,True.intro⟩|rfl|(simp only[List.length_set];first|omega|(refine⟨?_,?_⟩<;>omega)|(refine⟨?_,?_,?_⟩<;>omega))|(intro hg;(try simp only[bB]at hg);first|omega|(refine⟨?_,?_⟩<;>omega)|(refine⟨?_,?_,?_⟩<;>first|omega|(show _<_;(try simp only[List.length_set]);omega)|exact leT rfl))|(refine⟨?_,?_⟩<;>omega)|(refine⟨?_,?_,?_⟩<;>first|omega|(show _<_;(try simp only[List.length_set]);omega)|exact leT rfl)|(simp only[show rI.d=(0:Int)from rfl];omega));done));(conv=>whnf))))
  refine EvIf.split (fun g2 => ?_) (fun g2 => ?_)
  · simp only [decide_eq_true_eq] at g2
    ((conv=>whnf);(repeat(refine And.intro ?_ ?_;(focus((first|omega|exact⟨rfl,True.intro⟩|exact⟨rfl,rfl,True.intro⟩|rfl|(simp only[List.length_set];first|omega|(refine⟨?_,?_⟩<;>omega)|(refine⟨?_,?_,?_⟩<;>omega))|(intro hg;(try simp only[bB]at hg);first|omega|(refine⟨?_,?_⟩<;>omega)|(refine⟨?_,?_,?_⟩<;>first|omega|(show _<_;(try simp only[List.length_set]);omega)|exact leT rfl))|(refine⟨?_,?_⟩<;>omega)|(refine⟨?_,?_,?_⟩<;>first|omega|(show _<_;(try simp only[List.length_set]);omega)|exact leT rfl)|(simp only[show rI.d=(0:Int)from rfl];omega));done));(conv=>whnf))))
    refine EvIf.split (fun g3 => ?_) (fun g3 => ?_)
    · simp only [Bool.or_eq_true, decide_eq_true_eq] at g3
      have g4 : vs.getD (F + k) 0 < x.lo ∨ x.hi < vs.getD (F + k) 0 := g3
      ((conv=>whnf);(repeat(refine And.intro ?_ ?_;(focus((first|omega|exact⟨rfl,True.intro⟩|exact⟨rfl,rfl,True.intro⟩|rfl|(simp only[List.length_set];first|omega|(refine⟨?_,?_⟩<;>omega)|(refine⟨?_,?_,?_⟩<;>omega))|(intro hg;(try simp only[bB]at hg);first|omega|(refine⟨?_,?_⟩<;>omega)|(refine⟨?_,?_,?_⟩<;>first|omega|(show _<_;(try simp only[List.length_set]);omega)|exact leT rfl))|(refine⟨?_,?_⟩<;>omega)|(refine⟨?_,?_,?_⟩<;>first|omega|(show _<_;(try simp only[List.length_set]);omega)|exact leT rfl)|(simp only[show rI.d=(0:Int)from rfl];omega));done));(conv=>whnf))))
      refine EvRet.ret (fun _ => ?_)
      rw [holdsB'_f.2 (fun hh => by
        have := hh.2.2 (F + k) (by omega) (by omega)
        omega)]
      rfl
    · simp only [Bool.or_eq_false_iff, decide_eq_false_iff_not] at g3
      have g4 : ¬ vs.getD (F + k) 0 < x.lo ∧ ¬ x.hi < vs.getD (F + k) 0 := g3
      ((conv=>whnf);(repeat(refine And.intro ?_ ?_;(focus((first|omega|exact⟨rfl,True.intro⟩|exact⟨rfl,rfl,True.intro⟩|rfl|(simp only[List.length_set];first|omega|(refine⟨?_,?_⟩<;>omega)|(refine⟨?_,?_,?_⟩<;>omega))|(intro hg;(try simp only[bB]at hg);first|omega|(refine⟨?_,?_⟩<;>omega)|(refine⟨?_,?_,?_⟩<;>first|omega|(show _<_;(try simp only[List.length_set]);omega)|exact leT rfl))|(refine⟨?_,?_⟩<;>omega)|(refine⟨?_,?_,?_⟩<;>first|omega|(show _<_;(try simp only[List.length_set]);omega)|exact leT rfl)|(simp only[show rI.d=(0:Int)from rfl];omega));done));(conv=>whnf))))
      refine LoopI.back (k + 1) ⟨by omega, fun j hj => ?_⟩ (by omega) (Sub.of [] [] rfl ?_)
      · by_cases hjk : j = k
        · subst hjk; omega
        · exact hk2 j (by omega)
      · ((repeat' (refine And.intro ?_ ?_)) <;> first | rfl | exact True.intro | omega)
  · simp only [decide_eq_false_iff_not] at g2
    ((conv=>whnf);(repeat(refine And.intro ?_ ?_;(focus((first|omega|exact⟨rfl,True.intro⟩|exact⟨rfl,rfl,True.intro⟩|rfl|(simp only[List.length_set];first|omega|(refine⟨?_,?_⟩<;>omega)|(refine⟨?_,?_,?_⟩<;>omega))|(intro hg;(try simp only[bB]at hg);first|omega|(refine⟨?_,?_⟩<;>omega)|(refine⟨?_,?_,?_⟩<;>first|omega|(show _<_;(try simp only[List.length_set]);omega)|exact leT rfl))|(refine⟨?_,?_⟩<;>omega)|(refine⟨?_,?_,?_⟩<;>first|omega|(show _<_;(try simp only[List.length_set]);omega)|exact leT rfl)|(simp only[show rI.d=(0:Int)from rfl];omega));done));(conv=>whnf))))
    refine EvRet.ret (fun _ => ?_)
    rw [holdsB'_t.2 ⟨g1.1.1, g1.1.2, fun i hi1 hi2 => by
      have := hk2 (i - F) (by omega)
      rw [show F + (i - F) = i by omega] at this
      exact this⟩]
    rfl
/-- What Some returns. -/
def spanN (d : Dc) : Nat := (d.last - d.first + 1).toNat
theorem insL_small (d : Dc) (zs : List Int) (h : DcT d) : Small (insL d zs (spanN d)) := by
  intro i
  have hb := insV_bd d zs h i
  obtain ⟨_, _, h3⟩ := h
  by_cases hi : i < spanN d
  · have e : (insL d zs (spanN d)).getD i 0 = insV d zs i := by simp [insL, List.getD_eq_getElem?_getD, hi]
    rw [e]
    have : spanN d ≤ 14 := by unfold spanN; omega
    omega
  · have e : (insL d zs (spanN d)).getD i 0 = 0 := by simp [insL, List.getD_eq_getElem?_getD, hi]
    rw [e]
    omega
theorem insL_i64 (d : Dc) (zs : List Int) (h : DcT d) : ∀ z ∈ insL d zs (spanN d), I64 z := by
  intro z hz
  obtain ⟨i, hi, rfl⟩ := List.getElem_of_mem hz
  have := insL_small d zs h i
  rw [List.getD_eq_getElem?_getD, List.getElem?_eq_getElem hi] at this
  simp only [Option.getD_some] at this
  unfold I64
  omega
def someL (d : Dc) (zs ms : List Int) (b : Bool) : List Cl := if b then wildL d ms (wildN ms 4) else arL d (insL d zs (spanN d)) ms (arN ms 5)
set_option maxRecDepth 10000 in
theorem some_s (nm : ByteArray) (A : Option Addr) (ln c : Nat) (d : Dc) (v1 v2 : Value) (zs ms : List Int) (b : Bool) (w : World) (h : DcT d) (hvs : Ints w v1 zs) (hv : Ints w v2 ms) :
    Con Try.prog 30 #[.agg (dcCells nm (.slice A ln c) d), v1, v2, .bool b] w (RetRows rC 62 w (someL d zs ms b)) := by
  obtain ⟨A1, c1, rfl, e1, e2⟩ := hv.form
  obtain ⟨A2, c2, rfl, e3, e4⟩ := hvs.form
  have hT := h
  obtain ⟨h1, h2, h3⟩ := h
  refine enter tabOk mixed Try.func30 rfl Try.ntmps30 Try.results30 [.a (dcS nm (.v (.slice A ln c)) d), .s 1 1 zs.length c2, .s 0 1 ms.length c1, .v (.bool b)] (fun n => if n = 0 then A1 else A2) [⟨1, false, 3, 1, c2, .rows Int rI (zs)⟩, ⟨0, false, 3, 1, c1, .rows Int rI (ms)⟩] 2 rfl rfl (.ro (.ro (hp0 _ _ _) _ rfl rfl rfl (ro_ints hv rfl _)) _ rfl rfl rfl (ro_ints hvs rfl _)) ?_
  ((conv=>whnf);(repeat(refine And.intro ?_ ?_;(focus((first|omega|exact⟨rfl,True.intro⟩|exact⟨rfl,rfl,True.intro⟩|rfl|(simp only[List.length_set];first|omega|(refine⟨?_,?_⟩<;>omega)|(refine⟨?_,?_,?_⟩<;>omega))|(intro hg;(try simp only[bB]at hg);first|omega|(refine⟨?_,?_⟩<;>omega)|(refine⟨?_,?_,?_⟩<;>first|omega|(show _<_;(try simp only[List.length_set]);omega)|exact leT rfl))|(refine⟨?_,?_⟩<;>omega)|(refine⟨?_,?_,?_⟩<;>first|omega|(show _<_;(try simp only[List.length_set]);omega)|exact leT rfl)|(simp only[show rI.d=(0:Int)from rfl];omega));done));(conv=>whnf))))
  refine EvIf.split (fun g1 => ?_) (fun g1 => ?_)
  · subst g1
    ((conv=>whnf);(repeat(refine And.intro ?_ ?_;(focus((first|omega|exact⟨rfl,True.intro⟩|exact⟨rfl,rfl,True.intro⟩|rfl|(simp only[List.length_set];first|omega|(refine⟨?_,?_⟩<;>omega)|(refine⟨?_,?_,?_⟩<;>omega))|(intro hg;(try simp only[bB]at hg);first|omega|(refine⟨?_,?_⟩<;>omega)|(refine⟨?_,?_,?_⟩<;>first|omega|(show _<_;(try simp only[List.length_set]);omega)|exact leT rfl))|(refine⟨?_,?_⟩<;>omega)|(refine⟨?_,?_,?_⟩<;>first|omega|(show _<_;(try simp only[List.length_set]);omega)|exact leT rfl)|(simp only[show rI.d=(0:Int)from rfl];omega));done));(conv=>whnf))))
    refine EvCall.rows (R := rC) (ty := 62) (xs := wildL d ms (wildN ms 4)) Try.call58 (fun ρ W hp => wild_s nm A ln c d _ ms 4 W hT (hp.ints (n := 0) rfl e1 e2 hv.2) (by omega)) (fun cap hc1 hc2 => ?_)
    ((conv=>whnf);(repeat(refine And.intro ?_ ?_;(focus((first|omega|exact⟨rfl,True.intro⟩|exact⟨rfl,rfl,True.intro⟩|rfl|(simp only[List.length_set];first|omega|(refine⟨?_,?_⟩<;>omega)|(refine⟨?_,?_,?_⟩<;>omega))|(intro hg;(try simp only[bB]at hg);first|omega|(refine⟨?_,?_⟩<;>omega)|(refine⟨?_,?_,?_⟩<;>first|omega|(show _<_;(try simp only[List.length_set]);omega)|exact leT rfl))|(refine⟨?_,?_⟩<;>omega)|(refine⟨?_,?_,?_⟩<;>first|omega|(show _<_;(try simp only[List.length_set]);omega)|exact leT rfl)|(simp only[show rI.d=(0:Int)from rfl];omega));done));(conv=>whnf))))
    exact EvRet.rows (R := rC) (ys := wildL d ms (wildN ms 4)) rfl hc1 rfl rfl
  · subst g1
    have hl := insL_len d zs (spanN d)
    ((conv=>whnf);(repeat(refine And.intro ?_ ?_;(focus((first|omega|exact⟨rfl,True.intro⟩|exact⟨rfl,rfl,True.intro⟩|rfl|(simp only[List.length_set];first|omega|(refine⟨?_,?_⟩<;>omega)|(refine⟨?_,?_,?_⟩<;>omega))|(intro hg;(try simp only[bB]at hg);first|omega|(refine⟨?_,?_⟩<;>omega)|(refine⟨?_,?_,?_⟩<;>first|omega|(show _<_;(try simp only[List.length_set]);omega)|exact leT rfl))|(refine⟨?_,?_⟩<;>omega)|(refine⟨?_,?_,?_⟩<;>first|omega|(show _<_;(try simp only[List.length_set]);omega)|exact leT rfl)|(simp only[show rI.d=(0:Int)from rfl];omega));done));(conv=>whnf))))
    (refine EvDraw.one (.q 0 (.q 1 (.q 2 (.q 4 (.n 3 false (.n 5 true (.q 6 (.z)) (.e)) (.e)))))) (by kernel_rfl) ?_)
    ((conv=>whnf);(repeat(refine And.intro ?_ ?_;(focus((first|omega|exact⟨rfl,True.intro⟩|exact⟨rfl,rfl,True.intro⟩|rfl|(simp only[List.length_set];first|omega|(refine⟨?_,?_⟩<;>omega)|(refine⟨?_,?_,?_⟩<;>omega))|(intro hg;(try simp only[bB]at hg);first|omega|(refine⟨?_,?_⟩<;>omega)|(refine⟨?_,?_,?_⟩<;>first|omega|(show _<_;(try simp only[List.length_set]);omega)|exact leT rfl))|(refine⟨?_,?_⟩<;>omega)|(refine⟨?_,?_,?_⟩<;>first|omega|(show _<_;(try simp only[List.length_set]);omega)|exact leT rfl)|(simp only[show rI.d=(0:Int)from rfl];omega));done));(conv=>whnf))))
    refine EvCall.rows (R := rI) (ty := 3) (xs := insL d zs (spanN d)) Try.call13 (fun ρ W hp => inside_s nm A ln c d _ zs W hT (hp.ints (n := 1) rfl e3 e4 hvs.2)) (fun cap hc1 hc2 => ?_)
    ((conv=>whnf);(repeat(refine And.intro ?_ ?_;(focus((first|omega|exact⟨rfl,True.intro⟩|exact⟨rfl,rfl,True.intro⟩|rfl|(simp only[List.length_set];first|omega|(refine⟨?_,?_⟩<;>omega)|(refine⟨?_,?_,?_⟩<;>omega))|(intro hg;(try simp only[bB]at hg);first|omega|(refine⟨?_,?_⟩<;>omega)|(refine⟨?_,?_,?_⟩<;>first|omega|(show _<_;(try simp only[List.length_set]);omega)|exact leT rfl))|(refine⟨?_,?_⟩<;>omega)|(refine⟨?_,?_,?_⟩<;>first|omega|(show _<_;(try simp only[List.length_set]);omega)|exact leT rfl)|(simp only[show rI.d=(0:Int)from rfl];omega));done));(conv=>whnf))))
    refine EvCall.rows (R := rC) (ty := 62) (xs := arL d (insL d zs (spanN d)) ms (arN ms 5)) Try.call12 (fun ρ W hp => ref_around_s nm A ln c d _ _ _ ms 5 W hT (hp.ints (n := 3) rfl hc1 hc2 (insL_i64 d zs hT)) (hp.ints (n := 0) rfl e1 e2 hv.2) (by omega) (by rw [hl]; unfold spanN; omega) (by rw [hl]; unfold spanN; omega) (insL_small d zs hT)) (fun cap' hc3 hc4 => ?_)
    ((conv=>whnf);(repeat(refine And.intro ?_ ?_;(focus((first|omega|exact⟨rfl,True.intro⟩|exact⟨rfl,rfl,True.intro⟩|rfl|(simp only[List.length_set];first|omega|(refine⟨?_,?_⟩<;>omega)|(refine⟨?_,?_,?_⟩<;>omega))|(intro hg;(try simp only[bB]at hg);first|omega|(refine⟨?_,?_⟩<;>omega)|(refine⟨?_,?_,?_⟩<;>first|omega|(show _<_;(try simp only[List.length_set]);omega)|exact leT rfl))|(refine⟨?_,?_⟩<;>omega)|(refine⟨?_,?_,?_⟩<;>first|omega|(show _<_;(try simp only[List.length_set]);omega)|exact leT rfl)|(simp only[show rI.d=(0:Int)from rfl];omega));done));(conv=>whnf))))
    exact EvRet.rows (R := rC) (ys := arL d (insL d zs (spanN d)) ms (arN ms 5)) rfl hc3 rfl rfl
end Go.Proofs.Ytpnngbfmmjjnaaa
namespace Go.Proofs.Ytpnngbfmmjjnaaa
open Go.RowKit
set_option linter.unusedVariables false
set_option linter.unusedSimpArgs false

theorem wild_valid (d : Dc) (zs : List Int) (i : Int) (h : DcT d) : validB d (wildC d zs i) = true := by
  obtain ⟨h1, h2, h3⟩ := h
  have a0 := arnd_nn (zs.getD i.toNat 0) (d.last - d.first + 1) (by omega)
  have b0 := arnd_lt (zs.getD i.toNat 0) (d.last - d.first + 1) (by omega)
  have a1 := arnd_nn (zs.getD (i + 1).toNat 0) 4 (by omega)
  have b1 := arnd_lt (zs.getD (i + 1).toNat 0) 4 (by omega)
  have a2 := arnd_nn (zs.getD (i + 2).toNat 0) (d.hi - d.lo + 4) (by omega)
  have b2 := arnd_lt (zs.getD (i + 2).toNat 0) (d.hi - d.lo + 4) (by omega)
  have a3 := arnd_nn (zs.getD (i + 3).toNat 0) 9 (by omega)
  have b3 := arnd_lt (zs.getD (i + 3).toNat 0) 9 (by omega)
  rw [valid_iff]
  simp only [wildC]
  omega
theorem lowW_le (vs : List Int) (f : Nat) : ∀ k, lowW vs f k ≤ vs.getD f 0 ∧ vs.getD f 0 ≤ highW vs f k
  | 0 => ⟨Int.le_refl _, Int.le_refl _⟩
  | k + 1 => by have := lowW_le vs f k; simp only [lowW, highW]; omega
theorem lowW_all (vs : List Int) (f : Nat) : ∀ k j, j < k → lowW vs f k ≤ vs.getD (f + j) 0 ∧ vs.getD (f + j) 0 ≤ highW vs f k
  | 0, j, h => by omega
  | k + 1, j, h => by
    simp only [lowW, highW]
    by_cases hj : j = k
    · subst hj; omega
    · have := lowW_all vs f k j (by omega); omega
theorem ar_facts (d : Dc) (vs zs : List Int) (i : Int) (hne : 0 < vs.length) : 0 ≤ arF vs zs i ∧ arF vs zs i ≤ arG vs zs i ∧ arG vs zs i ≤ (vs.length : Int) - 1 := by
  have a0 := arnd_nn (zs.getD i.toNat 0) (vs.length : Int) (by omega)
  have b0 := arnd_lt (zs.getD i.toNat 0) (vs.length : Int) (by omega)
  have a1 := arnd_nn (zs.getD (i + 1).toNat 0) 3 (by omega)
  unfold arG arF
  omega
theorem ar_holds (d : Dc) (vs zs : List Int) (i : Int) (h : DcT d) (hs : Small vs) (hl : (vs.length : Int) = d.last - d.first + 1) : HoldsP d (arC d vs zs i) vs := by
  obtain ⟨h1, h2, h3⟩ := h
  have hf := ar_facts d vs zs i (by omega)
  have a2 := arnd_nn (zs.getD (i + 2).toNat 0) 16 (by omega)
  have b2 := arnd_lt (zs.getD (i + 2).toNat 0) 16 (by omega)
  have t1 : (arnd (zs.getD (i + 2).toNat 0) 16).tdiv 4 = (arnd (zs.getD (i + 2).toNat 0) 16) / 4 := Int.tdiv_eq_ediv_of_nonneg a2
  have t2 : (arnd (zs.getD (i + 2).toNat 0) 16).tmod 4 = (arnd (zs.getD (i + 2).toNat 0) 16) % 4 := Int.tmod_eq_emod_of_nonneg a2
  have l1 := lowW_le vs (arF vs zs i).toNat (arG vs zs i - arF vs zs i + 1).toNat
  have l2 := lowW_bd hs (arF vs zs i).toNat (arG vs zs i - arF vs zs i + 1).toNat
  have l3 := highW_bd hs (arF vs zs i).toNat (arG vs zs i - arF vs zs i + 1).toNat
  refine ⟨?_, hl, fun j hj1 hj2 => ?_⟩
  · rw [valid_iff]
    simp only [arC]
    omega
  · simp only [arC] at hj1 hj2 ⊢
    have l4 := lowW_all vs (arF vs zs i).toNat (arG vs zs i - arF vs zs i + 1).toNat (j - (arF vs zs i).toNat) (by omega)
    rw [show (arF vs zs i).toNat + (j - (arF vs zs i).toNat) = j by omega] at l4
    omega
theorem insL_span (d : Dc) (zs : List Int) (h : DcT d) : ((insL d zs (spanN d)).length : Int) = d.last - d.first + 1 := by
  obtain ⟨h1, h2, h3⟩ := h
  rw [insL_len]
  unfold spanN
  omega
theorem some_valid (d : Dc) (zs ms : List Int) (b : Bool) (h : DcT d) : ∀ c ∈ someL d zs ms b, validB d c = true := by
  intro c hc
  unfold someL at hc
  split at hc
  · simp only [wildL, List.mem_map, List.mem_range] at hc
    obtain ⟨j, _, rfl⟩ := hc
    exact wild_valid d ms _ h
  · simp only [arL, List.mem_map, List.mem_range] at hc
    obtain ⟨j, _, rfl⟩ := hc
    exact (ar_holds d _ ms _ h (insL_small d zs h) (insL_span d zs h)).1
/-- Bands, when nothing is wrong with its arguments. -/
theorem bands_cases {d : Dc} {l : List Cl} (hv : validCode d = 0) (hn : l.length ≤ 4096) (hl : ∀ c ∈ l, validB d c = true) {sp : Nat} (hsp : (sp : Int) = d.last - d.first + 1) :
    ((∀ i : Nat, i < sp → lowB d l (d.first + i) ≤ highB d l (d.first + i)) ∧ bandsR d l = (runsG d.first (fun i => lowB d l (d.first + i)) (fun i => highB d l (d.first + i)) sp, 0)) ∨
    (¬ (∀ i : Nat, i < sp → lowB d l (d.first + i) ≤ highB d l (d.first + i)) ∧ bandsR d l = ([], 13)) := by
  unfold bandsR
  rw [if_neg (by simpa using hv), if_neg (by omega), if_neg (by simpa using hl), show (d.last - d.first + 1).toNat = sp by omega]
  by_cases h : ∀ i : Nat, i < sp → lowB d l (d.first + i) ≤ highB d l (d.first + i)
  · rw [runsR_some sp h]
    exact .inl ⟨h, rfl⟩
  · rw [runsR_none sp h]
    exact .inr ⟨h, rfl⟩
theorem within_iff {d : Dc} {l : List Cl} {vs : List Int} (hl : ∀ c ∈ l, validB d c = true) (hs : (vs.length : Int) = d.last - d.first + 1) :
    ((∀ i, i < vs.length → d.lo ≤ vs.getD i 0 ∧ vs.getD i 0 ≤ d.hi) ∧ ∀ c ∈ l, HoldsP d c vs) ↔ ∀ i : Nat, i < vs.length → lowB d l (d.first + i) ≤ vs.getD i 0 ∧ vs.getD i 0 ≤ highB d l (d.first + i) := by
  constructor
  · rintro ⟨h1, h2⟩ i hi
    rw [lowB_le, le_highB]
    refine ⟨⟨(h1 i hi).1, fun c hc g1 g2 => ((h2 c hc).2.2 i (by omega) (by omega)).1⟩, (h1 i hi).2, fun c hc g1 g2 => ((h2 c hc).2.2 i (by omega) (by omega)).2⟩
  · intro h
    refine ⟨fun i hi => ?_, fun c hc => ⟨hl c hc, hs, fun i hi1 hi2 => ?_⟩⟩
    · have := h i hi
      rw [lowB_le, le_highB] at this
      exact ⟨this.1.1, this.2.1⟩
    · have hv := (valid_iff d c).1 (hl c hc)
      have := h i (by omega)
      rw [lowB_le, le_highB] at this
      exact ⟨this.1.2 c hc (by omega) (by omega), this.2.2 c hc (by omega) (by omega)⟩
theorem low_ge (d : Dc) (l : List Cl) (t : Int) : d.lo ≤ lowB d l t := (lowB_le.1 (Int.le_refl _)).1
theorem high_le (d : Dc) (l : List Cl) (t : Int) : highB d l t ≤ d.hi := (le_highB.1 (Int.le_refl _)).1
theorem runs_valid {d : Dc} {lo hi : Nat → Int} (hv : validCode d = 0) {sp : Nat} (hsp : (sp : Int) = d.last - d.first + 1) (h : ∀ i : Nat, i < sp → d.lo ≤ lo i ∧ lo i ≤ hi i ∧ hi i ≤ d.hi) :
    ∀ c ∈ runsG d.first lo hi sp, validB d c = true := by
  intro c hc
  have hb := valid_bounds hv
  obtain ⟨h1, h2, h3, h4⟩ := (runs_ok d.first lo hi sp).each c hc
  have h5 := h4 (c.f - d.first).toNat (by omega) (by omega)
  have h6 := h (c.f - d.first).toNat (by omega)
  rw [valid_iff]
  omega
theorem runs_holds {d : Dc} {lo hi : Nat → Int} {vs : List Int} (hv : validCode d = 0) (hsp : (vs.length : Int) = d.last - d.first + 1) (h : ∀ i : Nat, i < vs.length → d.lo ≤ lo i ∧ lo i ≤ hi i ∧ hi i ≤ d.hi) :
    (∀ c ∈ runsG d.first lo hi vs.length, HoldsP d c vs) ↔ ∀ i : Nat, i < vs.length → lo i ≤ vs.getD i 0 ∧ vs.getD i 0 ≤ hi i := by
  have hr := runs_ok d.first lo hi vs.length
  constructor
  · intro hh i hi'
    obtain ⟨c, hc, hc1, hc2⟩ := hr.cover i hi'
    have h1 := (hr.each c hc).2.2.2 i hc1 hc2
    have h2 := (hh c hc).2.2 i (by omega) (by omega)
    omega
  · intro hh c hc
    refine ⟨runs_valid hv hsp h c hc, hsp, fun i hi1 hi2 => ?_⟩
    have h0 := hr.each c hc
    have h1 := h0.2.2.2 i (by omega) (by omega)
    have h2 := hh i (by omega)
    omega
theorem equiv_law {d : Dc} {l : List Cl} {vs : List Int} (hv : validCode d = 0) (hn : l.length ≤ 4096) (hl : ∀ c ∈ l, validB d c = true) (hs : (vs.length : Int) = d.last - d.first + 1) :
    ((∀ i, i < vs.length → d.lo ≤ vs.getD i 0 ∧ vs.getD i 0 ≤ d.hi) ∧ ∀ c ∈ l, HoldsP d c vs) ↔ ((bandsR d l).2 = 0 ∧ ∀ c ∈ (bandsR d l).1, HoldsP d c vs) := by
  rw [within_iff hl hs]
  rcases bands_cases hv hn hl hs with ⟨h1, h2⟩ | ⟨h1, h2⟩
  · rw [h2]
    have := runs_holds (vs := vs) hv hs (lo := fun i => lowB d l (d.first + i)) (hi := fun i => highB d l (d.first + i)) (fun i hi => ⟨low_ge _ _ _, h1 i hi, high_le _ _ _⟩)
    simp only
    rw [this]
    simp
  · rw [h2]
    simp only
    constructor
    · intro h
      exact absurd (fun i hi => Int.le_trans (h i hi).1 (h i hi).2) h1
    · rintro ⟨h, _⟩
      cases h
theorem bands_set {d : Dc} {l l' : List Cl} (h : ∀ c, c ∈ l ↔ c ∈ l') (h1 : l.length ≤ 4096) (h2 : l'.length ≤ 4096) : bandsR d l = bandsR d l' := by
  have e1 : ∀ t, lowB d l t = lowB d l' t := fun t => lowB_set h
  have e2 : ∀ t, highB d l t = highB d l' t := fun t => highB_set h
  have e3 : ∀ n, runsR d l n = runsR d l' n := by
    intro n
    induction n with
    | zero => rfl
    | succ n ih => simp only [runsR, ih, e1, e2]
  have e4 : (∀ c ∈ l, validB d c = true) ↔ ∀ c ∈ l', validB d c = true := ⟨fun g c hc => g c ((h c).2 hc), fun g c hc => g c ((h c).1 hc)⟩
  unfold bandsR
  simp only [e3, e4, if_neg (show ¬ 4096 < l.length by omega), if_neg (show ¬ 4096 < l'.length by omega)]
/-- Runs of bounds within the range are their own bands. -/
theorem bands_runs {d : Dc} {lo hi : Nat → Int} (hv : validCode d = 0) {sp : Nat} (hsp : (sp : Int) = d.last - d.first + 1) (h : ∀ i : Nat, i < sp → d.lo ≤ lo i ∧ lo i ≤ hi i ∧ hi i ≤ d.hi) :
    bandsR d (runsG d.first lo hi sp) = (runsG d.first lo hi sp, 0) := by
  have hb := valid_bounds hv
  have hr := runs_ok d.first lo hi sp
  have hlo : ∀ i : Nat, i < sp → lowB d (runsG d.first lo hi sp) (d.first + i) = lo i := by
    intro i hi'
    apply Int.le_antisymm
    · rw [lowB_le]
      refine ⟨(h i hi').1, fun c hc h1 h2 => ?_⟩
      have := (hr.each c hc).2.2.2 i h1 h2
      omega
    · obtain ⟨c, hc, hc1, hc2⟩ := hr.cover i hi'
      have h1 := (hr.each c hc).2.2.2 i hc1 hc2
      have h2 := (lowB_le.1 (Int.le_refl (lowB d (runsG d.first lo hi sp) (d.first + i)))).2 c hc hc1 hc2
      omega
  have hhi : ∀ i : Nat, i < sp → highB d (runsG d.first lo hi sp) (d.first + i) = hi i := by
    intro i hi'
    apply Int.le_antisymm
    · obtain ⟨c, hc, hc1, hc2⟩ := hr.cover i hi'
      have h1 := (hr.each c hc).2.2.2 i hc1 hc2
      have h2 := (le_highB.1 (Int.le_refl (highB d (runsG d.first lo hi sp) (d.first + i)))).2 c hc hc1 hc2
      omega
    · rw [le_highB]
      refine ⟨(h i hi').2.2, fun c hc h1 h2 => ?_⟩
      have := (hr.each c hc).2.2.2 i h1 h2
      omega
  have hlen := hr.len
  rcases bands_cases (l := runsG d.first lo hi sp) hv (by omega) (runs_valid hv hsp h) hsp with ⟨_, h2⟩ | ⟨h1, _⟩
  · rw [h2, runsG_congr sp (fun i hi' => ⟨hlo i hi', hhi i hi'⟩)]
  · exact absurd (fun i hi' => by rw [hlo i hi', hhi i hi']; exact (h i hi').2.1) h1
end Go.Proofs.Ytpnngbfmmjjnaaa
