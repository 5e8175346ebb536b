
/- The texts of label sets: what stands in them, no program in sight. -/
import Derived.Test.YtebfhljamoapjaaDoorZa
namespace Go.Proofs.YtebfhljamoapjaaDoor
open Go.RowKit
set_option linter.unusedVariables false
set_option linter.unusedSimpArgs false

theorem ba_ext {a b : ByteArray} (h : a.data.toList = b.data.toList) : a = b := by
  obtain ⟨⟨a⟩⟩ := a
  obtain ⟨⟨b⟩⟩ := b
  simp only at h
  rw [h]
theorem ba_app (a b : ByteArray) : (a ++ b).data.toList = a.data.toList ++ b.data.toList := by simp [ByteArray.data_append]
/-- The text of a label, and of labels with commas between. -/
def eL (x : Lb) : List UInt8 := x.1.data.toList ++ ([61, 34] ++ (x.2.data.toList ++ [34]))
def elemT (x : Lb) : ByteArray := ⟨(eL x).toArray⟩
theorem elemT_data (x : Lb) : (elemT x).data.toList = eL x := rfl
def jL : List Lb → List UInt8
  | [] => []
  | [x] => eL x
  | x :: y :: r => eL x ++ 44 :: jL (y :: r)
theorem jL_snoc (x : Lb) : ∀ l : List Lb, l ≠ [] → jL (l ++ [x]) = jL l ++ 44 :: eL x
  | [], h => absurd rfl h
  | [y], _ => rfl
  | y :: z :: r, _ => by
    have := jL_snoc x (z :: r) (by simp)
    simp only [List.cons_append, jL] at this ⊢
    rw [this]
    simp
theorem textN_data (ls : List Lb) : ∀ i, i ≤ ls.length → (textN ls i).data.toList = 123 :: jL (ls.take i)
  | 0, _ => by simp [textN, jL]
  | i + 1, hi => by
    have ih := textN_data ls i (by omega)
    have hts : ls.take (i + 1) = ls.take i ++ [ls.getD i lb0] := take_snoc ls i lb0 (by omega)
    have h1 : (⟨#[44]⟩ : ByteArray).data.toList = [44] := rfl
    have h2 : (⟨#[61, 34]⟩ : ByteArray).data.toList = [61, 34] := rfl
    have h3 : (⟨#[34]⟩ : ByteArray).data.toList = [34] := rfl
    unfold textN
    rw [hts]
    by_cases h0 : i = 0
    · subst h0
      rw [if_pos rfl]
      simp only [ba_app, ih, h2, h3]
      simp [jL, eL]
    · rw [if_neg h0, jL_snoc _ _ (by
      intro h
      have := congrArg List.length h
      rw [List.length_take] at this
      simp only [List.length_nil] at this
      omega)]
      simp only [ba_app, ih, h1, h2, h3, eL]
      simp
theorem text_data (ls : List Lb) : (textR ls).data.toList = 123 :: (jL ls ++ [125]) := by
  have h := textN_data ls ls.length (Nat.le_refl _)
  rw [List.take_length] at h
  unfold textR
  rw [ba_app, h]
  rfl
/-- No byte c in a list. -/
def NoB (c : UInt8) (l : List UInt8) : Prop := ∀ b ∈ l, b ≠ c
theorem index_skip (c : UInt8) (t : List UInt8) : ∀ a l : List UInt8, NoB c a → (c :: t).isPrefixOf l = true → Lib.index (a ++ l) (c :: t) = (a.length : Int)
  | [], l, _, h => by
    cases l with
    | nil => simp at h
    | cons b l' =>
      show Lib.index (b :: l') (c :: t) = 0
      unfold Lib.index
      rw [if_pos h]
  | b :: a, l, hn, h => by
    have hb : b ≠ c := hn b (by simp)
    have ih := index_skip c t a l (fun z hz => hn z (by simp [hz])) h
    show Lib.index (b :: (a ++ l)) (c :: t) = _
    unfold Lib.index
    have h1 : ¬ (c :: t).isPrefixOf (b :: (a ++ l)) = true := by
      simp only [List.isPrefixOf, Bool.and_eq_true, beq_iff_eq]
      rintro ⟨h1, _⟩
      exact hb h1.symm
    rw [if_neg h1, ih, if_neg (by simp)]
    simp
theorem index_none (c : UInt8) (t : List UInt8) : ∀ a : List UInt8, NoB c a → Lib.index a (c :: t) = -1
  | [], _ => by simp [Lib.index]
  | b :: a, hn => by
    have hb : b ≠ c := hn b (by simp)
    have ih := index_none c t a (fun z hz => hn z (by simp [hz]))
    unfold Lib.index
    have h1 : ¬ (c :: t).isPrefixOf (b :: a) = true := by
      simp only [List.isPrefixOf, Bool.and_eq_true, beq_iff_eq]
      rintro ⟨h1, _⟩
      exact hb h1.symm
    rw [if_neg h1, ih]
    rfl
/-- A part read as a label. -/
def elemOf (p : ByteArray) : Option Lb :=
  if (Lib.cut p.data.toList [61, 34]).2.2 = true ∧ Lib.hasSuffix (Lib.cut p.data.toList [61, 34]).2.1 [34] = true then
    some (⟨(Lib.cut p.data.toList [61, 34]).1.toArray⟩, ⟨(Lib.trimSuffix (Lib.cut p.data.toList [61, 34]).2.1 [34]).toArray⟩) else none
theorem elemOf_T (x : Lb) (h : NoB 61 x.1.data.toList) : elemOf (elemT x) = some x := by
  have hi : Lib.index (eL x) [61, 34] = (x.1.data.toList.length : Int) := index_skip 61 [34] _ _ h (by simp [List.isPrefixOf])
  have hc : Lib.cut (eL x) [61, 34] = (x.1.data.toList, x.2.data.toList ++ [34], true) := by
    unfold Lib.cut
    rw [hi, if_pos (by omega), Int.toNat_natCast]
    unfold eL
    rw [List.take_left, List.drop_append]
    simp
  have hs : Lib.hasSuffix (x.2.data.toList ++ [34]) [34] = true := by
    unfold Lib.hasSuffix
    rw [List.isSuffixOf_iff_suffix]
    exact List.suffix_append _ _
  unfold elemOf
  rw [elemT_data, hc]
  simp only
  rw [if_pos ⟨trivial, hs⟩]
  unfold Lib.trimSuffix
  rw [if_pos hs]
  simp
theorem splitK_T : ∀ (l : List Lb) (k : Nat), l ≠ [] → l.length ≤ k + 1 → (∀ x ∈ l, NoB 44 (eL x)) → Lib.splitK [44] 0 k (jL l) = l.map eL
  | [], _, h, _, _ => absurd rfl h
  | [x], k, _, _, h => by
    have hi := index_none 44 [] (eL x) (h x (by simp))
    cases k with
    | zero => rfl
    | succ k =>
      show Lib.splitK [44] 0 (k + 1) (eL x) = [eL x]
      unfold Lib.splitK
      rw [hi, if_pos (by decide)]
  | x :: y :: r, k, _, hk, h => by
    obtain ⟨k, rfl⟩ : ∃ k', k = k' + 1 := ⟨k - 1, by simp at hk; omega⟩
    have hi : Lib.index (eL x ++ 44 :: jL (y :: r)) [44] = ((eL x).length : Int) := index_skip 44 [] _ _ (h x (by simp)) (by simp [List.isPrefixOf])
    have ih := splitK_T (y :: r) k (by simp) (by simp at hk ⊢; omega) (fun z hz => h z (List.mem_cons_of_mem _ hz))
    show Lib.splitK [44] 0 (k + 1) (eL x ++ 44 :: jL (y :: r)) = _
    unfold Lib.splitK
    rw [hi, if_neg (by simp), Int.toNat_natCast]
    rw [Nat.add_zero, List.take_left, List.drop_append]
    simp [ih, List.drop_eq_nil_of_le (Nat.le_succ (eL x).length)]
end Go.Proofs.YtebfhljamoapjaaDoor
