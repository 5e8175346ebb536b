
/- Labels sorted by their names, in plain words. No program in sight. -/
import Derived.Test.YtebfhljamoapjaaDoorKd
namespace Go.Proofs.YtebfhljamoapjaaDoor
open Go.RowKit
set_option linter.unusedVariables false
set_option linter.unusedSimpArgs false

/-- The order of labels by their names. -/
def cmpN (x y : Lb) : Int := cmpS x.1 y.1
theorem cmpN_lt (x y : Lb) : cmpN x y < 0 ↔ ¬ cmpN y x ≤ 0 := by
  unfold cmpN
  rw [cmpS_neg]
  omega
theorem leN_trans {x y z : Lb} (h1 : cmpN x y ≤ 0) (h2 : cmpN y z ≤ 0) : cmpN x z ≤ 0 := cmpS_le_trans h1 h2
theorem leN_total (x y : Lb) (h : ¬ cmpN x y ≤ 0) : cmpN y x ≤ 0 := by
  unfold cmpN at *
  rw [cmpS_neg]
  omega
theorem take_snoc {α : Type} (l : List α) (i : Nat) (d : α) (h : i < l.length) : l.take (i + 1) = l.take i ++ [l.getD i d] := by
  rw [List.take_add_one]
  simp [List.getD_eq_getElem?_getD, h]
/-- Into a sorted list, behind those that are not greater. -/
def insL : List Lb → Lb → List Lb
  | [], x => [x]
  | y :: r, x => if cmpN y x ≤ 0 then y :: insL r x else x :: y :: r
def sortL (l : List Lb) : List Lb := l.foldl insL []
theorem sortL_snoc (l : List Lb) (x : Lb) : sortL (l ++ [x]) = insL (sortL l) x := by simp [sortL, List.foldl_append]
theorem insL_len (x : Lb) : ∀ s : List Lb, (insL s x).length = s.length + 1
  | [] => rfl
  | y :: r => by
    unfold insL
    split
    · simp [insL_len x r]
    · simp
theorem mem_insL (x z : Lb) : ∀ s : List Lb, z ∈ insL s x ↔ z = x ∨ z ∈ s
  | [] => by simp [insL]
  | y :: r => by
    unfold insL
    split
    · simp only [List.mem_cons, mem_insL x z r]
      constructor
      · rintro (h | h | h) <;> simp [h]
      · rintro (h | h | h) <;> simp [h]
    · simp
def SortedL (s : List Lb) : Prop := s.Pairwise (fun a b => cmpN a b ≤ 0)
theorem insL_sorted (x : Lb) : ∀ s : List Lb, SortedL s → SortedL (insL s x)
  | [], _ => by simp [insL, SortedL]
  | y :: r, h => by
    unfold insL
    obtain ⟨h1, h2⟩ := List.pairwise_cons.1 h
    split
    · rename_i hc
      refine List.pairwise_cons.2 ⟨fun z hz => ?_, insL_sorted x r h2⟩
      rcases (mem_insL x z r).1 hz with rfl | hz
      · exact hc
      · exact h1 z hz
    · rename_i hc
      have hxy := leN_total y x hc
      refine List.pairwise_cons.2 ⟨fun z hz => ?_, h⟩
      rcases List.mem_cons.1 hz with rfl | hz
      · exact hxy
      · exact leN_trans hxy (h1 z hz)
theorem sort_snoc_ind {p : List Lb → List Lb → Prop} (h0 : p [] []) (h1 : ∀ l x s, p l s → p (l ++ [x]) (insL s x)) : ∀ l, p l (sortL l) := by
  have key : ∀ (n : Nat) (l : List Lb), l.length = n → p l (sortL l) := by
    intro n
    induction n with
    | zero =>
      intro l hl
      rw [List.eq_nil_of_length_eq_zero hl]
      exact h0
    | succ n ih =>
      intro l hl
      have hne : l ≠ [] := by intro h; rw [h] at hl; simp at hl
      rw [← List.dropLast_concat_getLast hne, sortL_snoc]
      exact h1 _ _ _ (ih _ (by simp [hl]))
  exact fun l => key _ l rfl
theorem sortL_sorted (l : List Lb) : SortedL (sortL l) := sort_snoc_ind (p := fun _ s => SortedL s) .nil (fun _ x s h => insL_sorted x s h) l
theorem sortL_len (l : List Lb) : (sortL l).length = l.length := sort_snoc_ind (p := fun l s => s.length = l.length) rfl (fun _ x s h => by simp [insL_len, h]) l
theorem mem_sortL (z : Lb) (l : List Lb) : z ∈ sortL l ↔ z ∈ l := sort_snoc_ind (p := fun l s => z ∈ s ↔ z ∈ l) (by simp) (fun _ x s h => by rw [mem_insL, h]; simp [or_comm]) l
theorem insL_at (x : Lb) : ∀ (s : List Lb) (j : Nat), j ≤ s.length → (∀ k, k < j → cmpN (s.getD k lb0) x ≤ 0) → (j < s.length → ¬ cmpN (s.getD j lb0) x ≤ 0) → insL s x = s.take j ++ x :: s.drop j
  | [], j, h, _, _ => by simp at h; subst h; rfl
  | y :: r, 0, h, h1, h2 => by
    have := h2 (by simp)
    simp only [List.getD_cons_zero] at this
    unfold insL
    rw [if_neg this]
    rfl
  | y :: r, j + 1, h, h1, h2 => by
    have := h1 0 (by omega)
    simp only [List.getD_cons_zero] at this
    unfold insL
    rw [if_pos this, insL_at x r j (by simpa using h) (fun k hk => by simpa using h1 (k + 1) (by omega)) (fun hj => by simpa using h2 (by simpa using hj))]
    rfl
/-- x on its way into s. -/
def midL (s : List Lb) (x : Lb) (j : Nat) (r : List Lb) : List Lb := s.take j ++ x :: (s.drop j ++ r)
theorem midL_len (s : List Lb) (x : Lb) (j : Nat) (r : List Lb) (h : j ≤ s.length) : (midL s x j r).length = s.length + 1 + r.length := by simp [midL]; omega
theorem midL_at (s : List Lb) (x : Lb) (j : Nat) (r : List Lb) (h : j ≤ s.length) : (midL s x j r).getD j lb0 = x := by
  have hl : (s.take j).length = j := by simp; omega
  unfold midL
  rw [List.getD_eq_getElem?_getD, List.getElem?_append_right (by omega), hl]
  simp
theorem midL_below (s : List Lb) (x : Lb) (j k : Nat) (r : List Lb) (h : j ≤ s.length) (hk : k < j) : (midL s x j r).getD k lb0 = s.getD k lb0 := by
  have hl : (s.take j).length = j := by simp; omega
  unfold midL
  rw [List.getD_eq_getElem?_getD, List.getD_eq_getElem?_getD, List.getElem?_append_left (by omega), List.getElem?_take, if_pos hk]
theorem midL_swap (s : List Lb) (x : Lb) (j : Nat) (r : List Lb) (h : j + 1 ≤ s.length) : ((midL s x (j + 1) r).set (j + 1) (s.getD j lb0)).set j x = midL s x j r := by
  have hj : j < s.length := by omega
  have e1 : s.take (j + 1) = s.take j ++ [s.getD j lb0] := by
    rw [List.take_add_one, List.getElem?_eq_getElem hj, List.getD_eq_getElem?_getD, List.getElem?_eq_getElem hj]
    rfl
  have e2 : s.drop j = s.getD j lb0 :: s.drop (j + 1) := by
    rw [List.drop_eq_getElem_cons hj, List.getD_eq_getElem?_getD, List.getElem?_eq_getElem hj]
    rfl
  have hl : (s.take j).length = j := by simp; omega
  unfold midL
  rw [e1, e2]
  simp only [List.append_assoc, List.cons_append, List.nil_append]
  rw [List.set_append, if_neg (by omega), hl, show j + 1 - j = 1 by omega]
  rw [List.set_append, if_neg (by omega), hl, Nat.sub_self]
  rfl
theorem midL_start (l : List Lb) (i : Nat) (h : i < l.length) (s : List Lb) (hs : s.length = i) : s ++ l.drop i = midL s (l.getD i lb0) i (l.drop (i + 1)) := by
  unfold midL
  rw [List.take_of_length_le (by omega), List.drop_of_length_le (by omega : s.length ≤ i), List.drop_eq_getElem_cons h, List.getD_eq_getElem?_getD, List.getElem?_eq_getElem h]
  rfl
theorem midL_end (l : List Lb) (i j : Nat) (h : i < l.length) (hj : j ≤ i) (h1 : ∀ k, j ≤ k → k < i → cmpN (l.getD i lb0) ((sortL (l.take i)).getD k lb0) < 0) (h2 : 0 < j → ¬ cmpN (l.getD i lb0) ((sortL (l.take i)).getD (j - 1) lb0) < 0) :
    midL (sortL (l.take i)) (l.getD i lb0) j (l.drop (i + 1)) = sortL (l.take (i + 1)) ++ l.drop (i + 1) := by
  have hsl : (sortL (l.take i)).length = i := by rw [sortL_len]; simp; omega
  have ht : l.take (i + 1) = l.take i ++ [l.getD i lb0] := take_snoc l i lb0 h
  have hso := sortL_sorted (l.take i)
  rw [ht, sortL_snoc, insL_at _ _ j (by omega) ?_ ?_]
  · simp [midL]
  · intro k hk
    have h3 := h2 (by omega)
    rw [cmpN_lt] at h3
    have h4 : cmpN ((sortL (l.take i)).getD (j - 1) lb0) (l.getD i lb0) ≤ 0 := Classical.not_not.1 h3
    by_cases hkj : k = j - 1
    · rw [hkj]; exact h4
    · refine leN_trans ?_ h4
      have := List.pairwise_iff_getElem.1 hso k (j - 1) (by omega) (by omega) (by omega)
      rw [List.getD_eq_getElem?_getD, List.getElem?_eq_getElem (by omega), List.getD_eq_getElem?_getD, List.getElem?_eq_getElem (by omega)]
      exact this
  · intro hjl
    have h3 := h1 j (Nat.le_refl _) (by omega)
    rwa [cmpN_lt] at h3
/-- What is wrong with label i. -/
def dupB (ls : List Lb) (i : Nat) : Bool := (List.range i).any fun j => decide ((ls.getD j lb0).1 = (ls.getD i lb0).1)
theorem dupB_iff (ls : List Lb) (i : Nat) : dupB ls i = true ↔ ∃ j, j < i ∧ (ls.getD j lb0).1 = (ls.getD i lb0).1 := by
  simp [dupB]
def badC (ls : List Lb) (i : Nat) : Int :=
  if nameB (ls.getD i lb0).1 = false then 8 else if (ls.getD i lb0).2 = ByteArray.empty ∨ valueB (ls.getD i lb0).2 = false then 1 else if dupB ls i = true then 10 else 0
/-- The first thing that is wrong. -/
def newC (ls : List Lb) : Nat → Int
  | 0 => 0
  | i + 1 => if newC ls i ≠ 0 then newC ls i else badC ls i
def newP (ls : List Lb) : List Lb × Int := if 8 < ls.length then ([], 4) else if newC ls ls.length ≠ 0 then ([], newC ls ls.length) else (sortL ls, 0)
theorem newC_stop (ls : List Lb) (i k : Nat) (h : i ≤ k) (hn : newC ls i ≠ 0) : newC ls k = newC ls i := by
  obtain ⟨m, rfl⟩ := Nat.exists_eq_add_of_le h
  clear h
  induction m with
  | zero => rfl
  | succ m ih =>
    show (if newC ls (i + m) ≠ 0 then newC ls (i + m) else badC ls (i + m)) = _
    rw [ih, if_pos hn]
theorem newC_bad (ls : List Lb) (i : Nat) (h0 : newC ls i = 0) (hi : i < ls.length) (hb : badC ls i ≠ 0) : newC ls ls.length = badC ls i := by
  have h1 : newC ls (i + 1) = badC ls i := by
    show (if _ then _ else _) = _
    rw [if_neg (by simp [h0])]
  rw [newC_stop ls (i + 1) ls.length hi (by rw [h1]; exact hb), h1]
theorem newC_ok (ls : List Lb) (i : Nat) (h0 : newC ls i = 0) (hb : badC ls i = 0) : newC ls (i + 1) = 0 := by
  show (if _ then _ else _) = _
  rw [if_neg (by simp [h0]), hb]
theorem newC_all (ls : List Lb) : ∀ i, newC ls i = 0 → ∀ j, j < i → badC ls j = 0
  | 0, _, j, hj => by omega
  | i + 1, h, j, hj => by
    have h' : (if newC ls i ≠ 0 then newC ls i else badC ls i) = 0 := h
    by_cases hc : newC ls i = 0
    · rw [if_neg (by simp [hc])] at h'
      by_cases hji : j = i
      · rw [hji]; exact h'
      · exact newC_all ls i hc j (by omega)
    · rw [if_pos hc] at h'
      exact absurd h' hc
end Go.Proofs.YtebfhljamoapjaaDoor
