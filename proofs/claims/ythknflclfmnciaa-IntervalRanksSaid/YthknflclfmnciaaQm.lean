
/- Sorting fractions by insertion, in plain words. No program in sight. -/
import Derived.Test.YthknflclfmnciaaQp
namespace Go.Proofs.Ythknflclfmnciaa
open Go.RowKit
set_option linter.unusedVariables false
set_option linter.unusedSimpArgs false

theorem take_snoc {α : Type} (l : List α) (i : Nat) (d : α) (h : i < l.length) : l.take (i + 1) = l.take i ++ [l.getD i d] := by
  rw [List.take_add_one]
  simp [List.getD_eq_getElem?_getD, h]
/-- x on its way into s. -/
def midF (s : List Fq) (x : Fq) (j : Nat) (r : List Fq) : List Fq := s.take j ++ x :: (s.drop j ++ r)
theorem midF_len (s : List Fq) (x : Fq) (j : Nat) (r : List Fq) (h : j ≤ s.length) : (midF s x j r).length = s.length + 1 + r.length := by simp [midF]; omega
theorem midF_at (s : List Fq) (x : Fq) (j : Nat) (r : List Fq) (h : j ≤ s.length) : (midF s x j r).getD j fr0 = x := by
  have hl : (s.take j).length = j := by simp; omega
  unfold midF
  rw [List.getD_eq_getElem?_getD, List.getElem?_append_right (by omega), hl]
  simp
theorem midF_below (s : List Fq) (x : Fq) (j k : Nat) (r : List Fq) (h : j ≤ s.length) (hk : k < j) : (midF s x j r).getD k fr0 = s.getD k fr0 := by
  have hl : (s.take j).length = j := by simp; omega
  unfold midF
  rw [List.getD_eq_getElem?_getD, List.getD_eq_getElem?_getD, List.getElem?_append_left (by omega), List.getElem?_take, if_pos hk]
theorem midF_swap (s : List Fq) (x : Fq) (j : Nat) (r : List Fq) (h : j + 1 ≤ s.length) : ((midF s x (j + 1) r).set (j + 1) (s.getD j fr0)).set j x = midF s x j r := by
  have hj : j < s.length := by omega
  have e1 : s.take (j + 1) = s.take j ++ [s.getD j fr0] := by
    rw [List.take_add_one, List.getElem?_eq_getElem hj, List.getD_eq_getElem?_getD, List.getElem?_eq_getElem hj]
    rfl
  have e2 : s.drop j = s.getD j fr0 :: s.drop (j + 1) := by
    rw [List.drop_eq_getElem_cons hj, List.getD_eq_getElem?_getD, List.getElem?_eq_getElem hj]
    rfl
  have hl : (s.take j).length = j := by simp; omega
  unfold midF
  rw [e1, e2]
  simp only [List.append_assoc, List.cons_append, List.nil_append]
  rw [List.set_append, if_neg (by omega), hl, show j + 1 - j = 1 by omega]
  rw [List.set_append, if_neg (by omega), hl, Nat.sub_self]
  rfl
theorem midF_start (l : List Fq) (i : Nat) (h : i < l.length) (s : List Fq) (hs : s.length = i) : s ++ l.drop i = midF s (l.getD i fr0) i (l.drop (i + 1)) := by
  unfold midF
  rw [List.take_of_length_le (by omega), List.drop_of_length_le (by omega : s.length ≤ i), List.drop_eq_getElem_cons h, List.getD_eq_getElem?_getD, List.getElem?_eq_getElem h]
  rfl
/-- Where an insertion from above ends. -/
theorem insF_from {l : List Fq} {x : Fq} (hv : ∀ y ∈ l, vF y) (hx : vF x) {j : Nat} (hj : j ≤ l.length) (h1 : ∀ k, j ≤ k → k < l.length → cmpF x ((sortF l).getD k fr0) < 0) (h2 : 0 < j → ¬ cmpF x ((sortF l).getD (j - 1) fr0) < 0) :
    insF (sortF l) x = (sortF l).take j ++ x :: (sortF l).drop j := by
  have hsl := sortF_len l
  refine insF_at _ _ j (by omega) ?_ ?_
  · intro k hk
    have h3 := h2 (by omega)
    have h4 : cmpF ((sortF l).getD (j - 1) fr0) x ≤ 0 := by rw [cmpF_anti x]; omega
    have h5 := sortF_at hv (i := k) (j := j - 1) (by omega) (by omega)
    exact cmpF_trans (hv _ (sortF_mem (by omega))) (hv _ (sortF_mem (by omega))) hx h5 h4
  · intro hjl
    have h3 := h1 j (Nat.le_refl _) (by omega)
    rw [cmpF_anti x]
    omega
theorem midF_end (l : List Fq) (hv : ∀ y ∈ l, vF y) (i j : Nat) (h : i < l.length) (hj : j ≤ i) (h1 : ∀ k, j ≤ k → k < i → cmpF (l.getD i fr0) ((sortF (l.take i)).getD k fr0) < 0) (h2 : 0 < j → ¬ cmpF (l.getD i fr0) ((sortF (l.take i)).getD (j - 1) fr0) < 0) :
    midF (sortF (l.take i)) (l.getD i fr0) j (l.drop (i + 1)) = sortF (l.take (i + 1)) ++ l.drop (i + 1) := by
  have ht : l.take (i + 1) = l.take i ++ [l.getD i fr0] := take_snoc l i fr0 h
  have hl : (l.take i).length = i := by simp; omega
  have hx : vF (l.getD i fr0) := hv _ (by rw [List.getD_eq_getElem?_getD, List.getElem?_eq_getElem h]; exact List.getElem_mem h)
  rw [ht, sortF_snoc, insF_from (fun y hy => hv y (List.mem_of_mem_take hy)) hx (j := j) (by omega) (fun k hk hk2 => h1 k hk (by omega)) h2]
  simp [midF]
theorem getD_mem {l : List Fq} {i : Nat} (h : i < l.length) : l.getD i fr0 ∈ l := by
  rw [List.getD_eq_getElem?_getD, List.getElem?_eq_getElem h]
  exact List.getElem_mem h
theorem start1 (l : List Fq) : l = sortF (l.take 1) ++ l.drop 1 := by
  cases l with
  | nil => rfl
  | cons x r => simp [sortF, insF]
end Go.Proofs.Ythknflclfmnciaa
