
/- Claims: the order of claims and sorting, in plain words. No program in sight. -/
import Derived.Test.YtpnngbfmmjjnaaaCs
namespace Go.Proofs.Ytpnngbfmmjjnaaa
open Go.RowKit
set_option linter.unusedVariables false
set_option linter.unusedSimpArgs false

theorem cmpC_le (x y : Cl) : cmpC x y ≤ 0 ↔ (x.f < y.f ∨ x.f = y.f ∧ (x.t < y.t ∨ x.t = y.t ∧ (x.lo < y.lo ∨ x.lo = y.lo ∧ x.hi ≤ y.hi))) := by
  unfold cmpC
  (repeat' split) <;> omega
theorem cmpC_lt (x y : Cl) : cmpC x y < 0 ↔ ¬ cmpC y x ≤ 0 := by
  rw [cmpC_le]
  unfold cmpC
  (repeat' split) <;> omega
theorem leC_trans {x y z : Cl} (h1 : cmpC x y ≤ 0) (h2 : cmpC y z ≤ 0) : cmpC x z ≤ 0 := by
  rw [cmpC_le] at *
  omega
theorem leC_total (x y : Cl) (h : ¬ cmpC x y ≤ 0) : cmpC y x ≤ 0 := by
  rw [cmpC_le] at *
  omega
/-- Into a sorted list, behind those that are not greater. -/
def insC : List Cl → Cl → List Cl
  | [], x => [x]
  | y :: r, x => if cmpC y x ≤ 0 then y :: insC r x else x :: y :: r
def sortC (l : List Cl) : List Cl := l.foldl insC []
theorem sortC_snoc (l : List Cl) (x : Cl) : sortC (l ++ [x]) = insC (sortC l) x := by simp [sortC, List.foldl_append]
theorem insC_len (x : Cl) : ∀ s : List Cl, (insC s x).length = s.length + 1
  | [] => rfl
  | y :: r => by
    unfold insC
    split
    · simp [insC_len x r]
    · simp
theorem mem_insC (x z : Cl) : ∀ s : List Cl, z ∈ insC s x ↔ z = x ∨ z ∈ s
  | [] => by simp [insC]
  | y :: r => by
    unfold insC
    split
    · simp only [List.mem_cons, mem_insC x z r]
      constructor
      · rintro (h | h | h) <;> simp [h]
      · rintro (h | h | h) <;> simp [h]
    · simp
def SortedC (s : List Cl) : Prop := s.Pairwise (fun a b => cmpC a b ≤ 0)
theorem insC_sorted (x : Cl) : ∀ s : List Cl, SortedC s → SortedC (insC s x)
  | [], _ => by simp [insC, SortedC]
  | y :: r, h => by
    unfold insC
    obtain ⟨h1, h2⟩ := List.pairwise_cons.1 h
    split
    · rename_i hc
      refine List.pairwise_cons.2 ⟨fun z hz => ?_, insC_sorted x r h2⟩
      rcases (mem_insC x z r).1 hz with rfl | hz
      · exact hc
      · exact h1 z hz
    · rename_i hc
      have hxy := leC_total y x hc
      refine List.pairwise_cons.2 ⟨fun z hz => ?_, h⟩
      rcases List.mem_cons.1 hz with rfl | hz
      · exact hxy
      · exact leC_trans hxy (h1 z hz)
theorem sort_snoc_ind {p : List Cl → List Cl → Prop} (h0 : p [] []) (h1 : ∀ l x s, p l s → p (l ++ [x]) (insC s x)) : ∀ l, p l (sortC l) := by
  have key : ∀ (n : Nat) (l : List Cl), l.length = n → p l (sortC l) := by
    intro n
    induction n with
    | zero =>
      intro l hl
      rw [List.eq_nil_of_length_eq_zero hl]
      exact h0
    | succ n ih =>
      intro l hl
      have hne : l ≠ [] := by intro h; rw [h] at hl; simp at hl
      rw [← List.dropLast_concat_getLast hne, sortC_snoc]
      exact h1 _ _ _ (ih _ (by simp [hl]))
  exact fun l => key _ l rfl
theorem sortC_sorted (l : List Cl) : SortedC (sortC l) := sort_snoc_ind (p := fun _ s => SortedC s) .nil (fun _ x s h => insC_sorted x s h) l
theorem sortC_len (l : List Cl) : (sortC l).length = l.length := sort_snoc_ind (p := fun l s => s.length = l.length) rfl (fun _ x s h => by simp [insC_len, h]) l
theorem mem_sortC (z : Cl) (l : List Cl) : z ∈ sortC l ↔ z ∈ l := sort_snoc_ind (p := fun l s => z ∈ s ↔ z ∈ l) (by simp) (fun _ x s h => by rw [mem_insC, h]; simp [or_comm]) l
theorem insC_at (x : Cl) : ∀ (s : List Cl) (j : Nat), j ≤ s.length → (∀ k, k < j → cmpC (s.getD k cl0) x ≤ 0) → (j < s.length → ¬ cmpC (s.getD j cl0) x ≤ 0) → insC s x = s.take j ++ x :: s.drop j
  | [], j, h, _, _ => by simp at h; subst h; rfl
  | y :: r, 0, h, h1, h2 => by
    have := h2 (by simp)
    simp only [List.getD_cons_zero] at this
    unfold insC
    rw [if_neg this]
    rfl
  | y :: r, j + 1, h, h1, h2 => by
    have := h1 0 (by omega)
    simp only [List.getD_cons_zero] at this
    unfold insC
    rw [if_pos this, insC_at x r j (by simpa using h) (fun k hk => by simpa using h1 (k + 1) (by omega)) (fun hj => by simpa using h2 (by simpa using hj))]
    rfl
/-- x on its way into s. -/
def midL (s : List Cl) (x : Cl) (j : Nat) (r : List Cl) : List Cl := s.take j ++ x :: (s.drop j ++ r)
theorem midL_len (s : List Cl) (x : Cl) (j : Nat) (r : List Cl) (h : j ≤ s.length) : (midL s x j r).length = s.length + 1 + r.length := by simp [midL]; omega
theorem midL_at (s : List Cl) (x : Cl) (j : Nat) (r : List Cl) (h : j ≤ s.length) : (midL s x j r).getD j cl0 = x := by
  have hl : (s.take j).length = j := by simp; omega
  unfold midL
  rw [List.getD_eq_getElem?_getD, List.getElem?_append_right (by omega), hl]
  simp
theorem midL_below (s : List Cl) (x : Cl) (j k : Nat) (r : List Cl) (h : j ≤ s.length) (hk : k < j) : (midL s x j r).getD k cl0 = s.getD k cl0 := by
  have hl : (s.take j).length = j := by simp; omega
  unfold midL
  rw [List.getD_eq_getElem?_getD, List.getD_eq_getElem?_getD, List.getElem?_append_left (by omega), List.getElem?_take, if_pos hk]
theorem midL_swap (s : List Cl) (x : Cl) (j : Nat) (r : List Cl) (h : j + 1 ≤ s.length) : ((midL s x (j + 1) r).set (j + 1) (s.getD j cl0)).set j x = midL s x j r := by
  have hj : j < s.length := by omega
  have e1 : s.take (j + 1) = s.take j ++ [s.getD j cl0] := by
    rw [List.take_add_one, List.getElem?_eq_getElem hj, List.getD_eq_getElem?_getD, List.getElem?_eq_getElem hj]
    rfl
  have e2 : s.drop j = s.getD j cl0 :: s.drop (j + 1) := by
    rw [List.drop_eq_getElem_cons hj, List.getD_eq_getElem?_getD, List.getElem?_eq_getElem hj]
    rfl
  have hl : (s.take j).length = j := by simp; omega
  unfold midL
  rw [e1, e2]
  simp only [List.append_assoc, List.cons_append, List.nil_append]
  rw [List.set_append, if_neg (by omega), hl, show j + 1 - j = 1 by omega]
  rw [List.set_append, if_neg (by omega), hl, Nat.sub_self]
  rfl
theorem midL_start (l : List Cl) (i : Nat) (h : i < l.length) (s : List Cl) (hs : s.length = i) : s ++ l.drop i = midL s (l.getD i cl0) i (l.drop (i + 1)) := by
  unfold midL
  rw [List.take_of_length_le (by omega), List.drop_of_length_le (by omega : s.length ≤ i), List.drop_eq_getElem_cons h, List.getD_eq_getElem?_getD, List.getElem?_eq_getElem h]
  rfl
theorem midL_end (l : List Cl) (i j : Nat) (h : i < l.length) (hj : j ≤ i) (h1 : ∀ k, j ≤ k → k < i → cmpC (l.getD i cl0) ((sortC (l.take i)).getD k cl0) < 0) (h2 : 0 < j → ¬ cmpC (l.getD i cl0) ((sortC (l.take i)).getD (j - 1) cl0) < 0) :
    midL (sortC (l.take i)) (l.getD i cl0) j (l.drop (i + 1)) = sortC (l.take (i + 1)) ++ l.drop (i + 1) := by
  have hsl : (sortC (l.take i)).length = i := by rw [sortC_len]; simp; omega
  have ht : l.take (i + 1) = l.take i ++ [l.getD i cl0] := take_snoc l i h
  have hso := sortC_sorted (l.take i)
  rw [ht, sortC_snoc, insC_at _ _ j (by omega) ?_ ?_]
  · simp [midL]
  · intro k hk
    have h3 := h2 (by omega)
    rw [cmpC_lt] at h3
    have h4 : cmpC ((sortC (l.take i)).getD (j - 1) cl0) (l.getD i cl0) ≤ 0 := Classical.not_not.1 h3
    by_cases hkj : k = j - 1
    · rw [hkj]; exact h4
    · refine leC_trans ?_ h4
      have := List.pairwise_iff_getElem.1 hso k (j - 1) (by omega) (by omega) (by omega)
      rw [List.getD_eq_getElem?_getD, List.getElem?_eq_getElem (by omega), List.getD_eq_getElem?_getD, List.getElem?_eq_getElem (by omega)]
      exact this
  · intro hjl
    have h3 := h1 j (Nat.le_refl _) (by omega)
    rwa [cmpC_lt] at h3
end Go.Proofs.Ytpnngbfmmjjnaaa
