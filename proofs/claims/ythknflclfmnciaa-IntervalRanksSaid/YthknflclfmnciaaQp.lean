
/- Fractions and intervals in plain words. No program in sight. -/
import Derived.Test.YthknflclfmnciaaSyG
namespace Go.Proofs.Ythknflclfmnciaa
open Go.RowKit
set_option linter.unusedVariables false
set_option linter.unusedSimpArgs false

/-- A fraction. -/
structure Fq where
  n : Int
  d : Int
deriving DecidableEq
def fr0 : Fq := ⟨0, 0⟩
/-- In lowest terms, with a positive denominator, none of its numbers beyond the limit. -/
def vF (a : Fq) : Prop := (1 ≤ a.d ∧ a.d ≤ 4611686018427387904) ∧ (-4611686018427387904 ≤ a.n ∧ a.n ≤ 4611686018427387904) ∧ Nat.gcd a.n.natAbs a.d.natAbs = 1
instance (a : Fq) : Decidable (vF a) := by unfold vF; infer_instance
def vB (a : Fq) : Bool := decide (vF a)
theorem vB_iff (a : Fq) : vB a = true ↔ vF a := by simp [vB]
/-- How a lies to b: crosswise. -/
def cx (a b : Fq) : Int := a.n * b.d - b.n * a.d
def sgI (z : Int) : Int := if z = 0 then 0 else if z < 0 then -1 else 1
theorem sgI_le (z : Int) : sgI z ≤ 0 ↔ z ≤ 0 := by unfold sgI; (repeat' split) <;> omega
theorem sgI_lt (z : Int) : sgI z < 0 ↔ z < 0 := by unfold sgI; (repeat' split) <;> omega
theorem sgI_eq (z : Int) : sgI z = 0 ↔ z = 0 := by unfold sgI; (repeat' split) <;> omega
theorem sgI_neg (z : Int) : sgI (-z) = - sgI z := by unfold sgI; (repeat' split) <;> omega
def cmpF (a b : Fq) : Int := if vB a && vB b then sgI (cx a b) else 0
theorem cmpF_v {a b : Fq} (ha : vF a) (hb : vF b) : cmpF a b = sgI (cx a b) := by
  unfold cmpF
  rw [(vB_iff a).2 ha, (vB_iff b).2 hb]
  rfl
theorem cx_anti (a b : Fq) : cx b a = - cx a b := by unfold cx; omega
theorem cmpF_anti (a b : Fq) : cmpF b a = - cmpF a b := by
  unfold cmpF
  rw [Bool.and_comm, cx_anti a b, sgI_neg]
  split <;> simp
theorem cx_trans {a b c : Fq} (ha : vF a) (hb : vF b) (hc : vF c) (h1 : cx a b ≤ 0) (h2 : cx b c ≤ 0) : cx a c ≤ 0 := by
  unfold cx at *
  have pa := ha.1.1
  have pb := hb.1.1
  have pc := hc.1.1
  have k1 : a.n * b.d * c.d ≤ b.n * a.d * c.d := Int.mul_le_mul_of_nonneg_right (by omega) (by omega)
  have k2 : b.n * c.d * a.d ≤ c.n * b.d * a.d := Int.mul_le_mul_of_nonneg_right (by omega) (by omega)
  have k3 : (a.n * c.d) * b.d ≤ (c.n * a.d) * b.d := by
    have e1 : a.n * b.d * c.d = (a.n * c.d) * b.d := by rw [Int.mul_assoc, Int.mul_comm b.d, ← Int.mul_assoc]
    have e2 : b.n * a.d * c.d = b.n * c.d * a.d := by rw [Int.mul_assoc, Int.mul_comm a.d, ← Int.mul_assoc]
    have e3 : c.n * b.d * a.d = (c.n * a.d) * b.d := by rw [Int.mul_assoc, Int.mul_comm b.d, ← Int.mul_assoc]
    omega
  have := Int.le_of_mul_le_mul_right k3 (by omega)
  omega
theorem cx_eq {a b : Fq} (ha : vF a) (hb : vF b) (h : cx a b = 0) : a = b := by
  obtain ⟨⟨a1, _⟩, _, ga⟩ := ha
  obtain ⟨⟨b1, _⟩, _, gb⟩ := hb
  unfold cx at h
  have h1 : a.n * b.d = b.n * a.d := by omega
  have h2 : a.n.natAbs * b.d.natAbs = b.n.natAbs * a.d.natAbs := by rw [← Int.natAbs_mul, ← Int.natAbs_mul, h1]
  have d1 : a.d.natAbs ∣ b.d.natAbs := by
    have hc : Nat.Coprime a.d.natAbs a.n.natAbs := by rw [Nat.coprime_comm]; exact ga
    exact hc.dvd_of_dvd_mul_left ⟨b.n.natAbs, by rw [h2, Nat.mul_comm]⟩
  have d2 : b.d.natAbs ∣ a.d.natAbs := by
    have hc : Nat.Coprime b.d.natAbs b.n.natAbs := by rw [Nat.coprime_comm]; exact gb
    exact hc.dvd_of_dvd_mul_left ⟨a.n.natAbs, by rw [← h2, Nat.mul_comm]⟩
  have hd : a.d.natAbs = b.d.natAbs := Nat.dvd_antisymm d1 d2
  have hd' : a.d = b.d := by omega
  have hn : a.n = b.n := by
    rw [hd'] at h1
    exact Int.eq_of_mul_eq_mul_right (by omega) h1
  obtain ⟨an, ad⟩ := a
  obtain ⟨bn, bd⟩ := b
  simp only at hd' hn
  rw [hd', hn]
theorem cmpF_refl (a : Fq) : cmpF a a = 0 := by
  unfold cmpF cx
  have : a.n * a.d - a.n * a.d = 0 := by omega
  rw [this]
  split <;> rfl
theorem cmpF_trans {a b c : Fq} (ha : vF a) (hb : vF b) (hc : vF c) (h1 : cmpF a b ≤ 0) (h2 : cmpF b c ≤ 0) : cmpF a c ≤ 0 := by
  rw [cmpF_v ha hb, sgI_le] at h1
  rw [cmpF_v hb hc, sgI_le] at h2
  rw [cmpF_v ha hc, sgI_le]
  exact cx_trans ha hb hc h1 h2
theorem cmpF_eq {a b : Fq} (ha : vF a) (hb : vF b) (h : cmpF a b = 0) : a = b := by
  rw [cmpF_v ha hb, sgI_eq] at h
  exact cx_eq ha hb h
theorem cmpF_anti_eq {a b : Fq} (ha : vF a) (hb : vF b) (h1 : cmpF a b ≤ 0) (h2 : cmpF b a ≤ 0) : a = b := by
  rw [cmpF_anti a b] at h2
  exact cmpF_eq ha hb (by omega)
theorem cmpF_in (a b : Fq) : cmpF a b = -1 ∨ cmpF a b = 0 ∨ cmpF a b = 1 := by
  unfold cmpF sgI
  (repeat' split) <;> simp
/-- The lesser, the greater of two. -/
def lesF (m a : Fq) : Fq := if cmpF a m < 0 then a else m
def greF (m a : Fq) : Fq := if 0 < cmpF a m then a else m
def lstF (f : Fq) (l : List Fq) : Fq := l.foldl lesF f
def grtF (f : Fq) (l : List Fq) : Fq := l.foldl greF f

/-- An interval. -/
structure Iv where
  lo : Fq
  hi : Fq
deriving DecidableEq
def iv0 : Iv := ⟨fr0, fr0⟩
def vI (x : Iv) : Prop := vF x.lo ∧ vF x.hi ∧ cmpF x.lo x.hi ≤ 0
instance (x : Iv) : Decidable (vI x) := by unfold vI; infer_instance
def ivB (x : Iv) : Bool := decide (vI x)
theorem ivB_iff (x : Iv) : ivB x = true ↔ vI x := by simp [ivB]

/-! sorting -/
def insF : List Fq → Fq → List Fq
  | [], x => [x]
  | y :: r, x => if cmpF y x ≤ 0 then y :: insF r x else x :: y :: r
def sortF (l : List Fq) : List Fq := l.foldl insF []
theorem sortF_snoc (l : List Fq) (x : Fq) : sortF (l ++ [x]) = insF (sortF l) x := by simp [sortF, List.foldl_append]
theorem insF_len (x : Fq) : ∀ s : List Fq, (insF s x).length = s.length + 1
  | [] => rfl
  | y :: r => by
    unfold insF
    split
    · simp [insF_len x r]
    · simp
theorem mem_insF (x z : Fq) : ∀ s : List Fq, z ∈ insF s x ↔ z = x ∨ z ∈ s
  | [] => by simp [insF]
  | y :: r => by
    unfold insF
    split
    · simp only [List.mem_cons, mem_insF x z r]
      constructor
      · rintro (h | h | h) <;> simp [h]
      · rintro (h | h | h) <;> simp [h]
    · simp
def SortedF (s : List Fq) : Prop := s.Pairwise (fun a b => cmpF a b ≤ 0)
theorem insF_sorted (x : Fq) (hx : vF x) : ∀ s : List Fq, (∀ y ∈ s, vF y) → SortedF s → SortedF (insF s x)
  | [], _, _ => by simp [insF, SortedF]
  | y :: r, hv, h => by
    unfold insF
    obtain ⟨h1, h2⟩ := List.pairwise_cons.1 h
    split
    · rename_i hc
      refine List.pairwise_cons.2 ⟨fun z hz => ?_, insF_sorted x hx r (fun z hz => hv z (by simp [hz])) h2⟩
      rcases (mem_insF x z r).1 hz with rfl | hz
      · exact hc
      · exact h1 z hz
    · rename_i hc
      have hxy : cmpF x y ≤ 0 := by rw [cmpF_anti y x]; omega
      refine List.pairwise_cons.2 ⟨fun z hz => ?_, h⟩
      rcases List.mem_cons.1 hz with rfl | hz
      · exact hxy
      · exact cmpF_trans hx (hv y (by simp)) (hv z (by simp [hz])) hxy (h1 z hz)
theorem sortF_ind {p : List Fq → List Fq → Prop} (h0 : p [] []) (h1 : ∀ l x s, p l s → p (l ++ [x]) (insF s x)) : ∀ l, p l (sortF l) := by
  have key : ∀ (n : Nat) (l : List Fq), l.length = n → p l (sortF l) := by
    intro n
    induction n with
    | zero =>
      intro l hl
      rw [List.eq_nil_of_length_eq_zero hl]
      exact h0
    | succ n ih =>
      intro l hl
      have hne : l ≠ [] := by intro h; rw [h] at hl; simp at hl
      rw [← List.dropLast_concat_getLast hne, sortF_snoc]
      exact h1 _ _ _ (ih _ (by simp [hl]))
  exact fun l => key _ l rfl
theorem sortF_len (l : List Fq) : (sortF l).length = l.length := sortF_ind (p := fun l s => s.length = l.length) rfl (fun _ x s h => by simp [insF_len, h]) l
theorem mem_sortF (z : Fq) (l : List Fq) : z ∈ sortF l ↔ z ∈ l := sortF_ind (p := fun l s => z ∈ s ↔ z ∈ l) (by simp) (fun _ x s h => by rw [mem_insF, h]; simp [or_comm]) l
theorem sortF_sorted (l : List Fq) (hv : ∀ y ∈ l, vF y) : SortedF (sortF l) := by
  have key : ∀ (n : Nat) (l : List Fq), l.length = n → (∀ y ∈ l, vF y) → SortedF (sortF l) := by
    intro n
    induction n with
    | zero =>
      intro l hl _
      rw [List.eq_nil_of_length_eq_zero hl]
      exact .nil
    | succ n ih =>
      intro l hl hv
      have hne : l ≠ [] := by intro h; rw [h] at hl; simp at hl
      rw [← List.dropLast_concat_getLast hne, sortF_snoc]
      refine insF_sorted _ (hv _ (List.getLast_mem hne)) _ (fun y hy => hv y ?_) (ih _ (by simp [hl]) fun y hy => hv y ((List.dropLast_subset _) hy))
      exact (List.dropLast_subset _) ((mem_sortF y _).1 hy)
  exact key _ l rfl hv
theorem sortF_at {l : List Fq} (hv : ∀ y ∈ l, vF y) {i j : Nat} (hij : i ≤ j) (hj : j < l.length) : cmpF ((sortF l).getD i fr0) ((sortF l).getD j fr0) ≤ 0 := by
  have hl := sortF_len l
  by_cases h : i = j
  · rw [h, cmpF_refl]; omega
  · have := List.pairwise_iff_getElem.1 (sortF_sorted l hv) i j (by omega) (by omega) (by omega)
    rw [List.getD_eq_getElem?_getD, List.getElem?_eq_getElem (by omega), List.getD_eq_getElem?_getD, List.getElem?_eq_getElem (by omega)]
    exact this
theorem sortF_mem {l : List Fq} {i : Nat} (hi : i < l.length) : (sortF l).getD i fr0 ∈ l := by
  have hl := sortF_len l
  rw [← mem_sortF, List.getD_eq_getElem?_getD, List.getElem?_eq_getElem (by omega)]
  exact List.getElem_mem _
theorem mem_at {l : List Fq} {z : Fq} (h : z ∈ l) : ∃ i, i < l.length ∧ l.getD i fr0 = z := by
  obtain ⟨i, hi, rfl⟩ := List.getElem_of_mem h
  exact ⟨i, hi, by rw [List.getD_eq_getElem?_getD, List.getElem?_eq_getElem hi]; rfl⟩
/-- The head is the least, the last the greatest. -/
theorem sortF_head {l : List Fq} (hv : ∀ y ∈ l, vF y) {m : Fq} (hm : m ∈ l) (h : ∀ y ∈ l, cmpF m y ≤ 0) : (sortF l).getD 0 fr0 = m := by
  have h0 : 0 < l.length := List.length_pos_of_mem hm
  obtain ⟨j, hj, hje⟩ := mem_at ((mem_sortF m l).2 hm)
  rw [sortF_len] at hj
  have hmem := sortF_mem (l := l) (i := 0) h0
  refine cmpF_anti_eq (hv _ hmem) (hv m hm) ?_ (h _ hmem)
  rw [← hje]
  exact sortF_at hv (Nat.zero_le _) hj
theorem sortF_last {l : List Fq} (hv : ∀ y ∈ l, vF y) {m : Fq} (hm : m ∈ l) (h : ∀ y ∈ l, cmpF y m ≤ 0) : (sortF l).getD (l.length - 1) fr0 = m := by
  have h0 : 0 < l.length := List.length_pos_of_mem hm
  obtain ⟨j, hj, hje⟩ := mem_at ((mem_sortF m l).2 hm)
  rw [sortF_len] at hj
  have hmem := sortF_mem (l := l) (i := l.length - 1) (by omega)
  refine cmpF_anti_eq (hv _ hmem) (hv m hm) (h _ hmem) ?_
  rw [← hje]
  exact sortF_at hv (by omega) (by omega)
theorem insF_at (x : Fq) : ∀ (s : List Fq) (j : Nat), j ≤ s.length → (∀ k, k < j → cmpF (s.getD k fr0) x ≤ 0) → (j < s.length → ¬ cmpF (s.getD j fr0) x ≤ 0) → insF s x = s.take j ++ x :: s.drop j
  | [], j, h, _, _ => by simp at h; subst h; rfl
  | y :: r, 0, h, h1, h2 => by
    have := h2 (by simp)
    simp only [List.getD_cons_zero] at this
    unfold insF
    rw [if_neg this]
    rfl
  | y :: r, j + 1, h, h1, h2 => by
    have := h1 0 (by omega)
    simp only [List.getD_cons_zero] at this
    unfold insF
    rw [if_pos this, insF_at x r j (by simpa using h) (fun k hk => by simpa using h1 (k + 1) (by omega)) (fun hj => by simpa using h2 (by simpa using hj))]
    rfl
theorem lesF_v {m a : Fq} (hm : vF m) (ha : vF a) : vF (lesF m a) ∧ cmpF (lesF m a) m ≤ 0 ∧ cmpF (lesF m a) a ≤ 0 ∧ (lesF m a = m ∨ lesF m a = a) := by
  unfold lesF
  split
  · exact ⟨ha, by omega, by rw [cmpF_refl]; omega, .inr rfl⟩
  · refine ⟨hm, by rw [cmpF_refl]; omega, ?_, .inl rfl⟩
    rw [cmpF_anti a m]; omega
theorem greF_v {m a : Fq} (hm : vF m) (ha : vF a) : vF (greF m a) ∧ cmpF m (greF m a) ≤ 0 ∧ cmpF a (greF m a) ≤ 0 ∧ (greF m a = m ∨ greF m a = a) := by
  unfold greF
  split
  · refine ⟨ha, ?_, by rw [cmpF_refl]; omega, .inr rfl⟩
    rw [cmpF_anti a m]; omega
  · exact ⟨hm, by rw [cmpF_refl]; omega, by omega, .inl rfl⟩
end Go.Proofs.Ythknflclfmnciaa
