
/- The texts of valid label sets: each is the text of one alone; what a reader of parts finds in it. -/
import Derived.Test.YtebfhljamoapjaaDoorZp
namespace Go.Proofs.YtebfhljamoapjaaDoor
open Go.RowKit
set_option linter.unusedVariables false
set_option linter.unusedSimpArgs false

theorem name_no {s : ByteArray} (h : nameB s = true) (c : UInt8) (hc : ∀ i, ¬ chOk i c.toNat) : NoB c s.data.toList := by
  intro b hb hbc
  subst hbc
  obtain ⟨i, hi, he⟩ := List.getElem_of_mem hb
  have h2 := (of_decide_eq_true h).2.2 i (by simpa using hi)
  refine hc i ?_
  rw [← he]
  exact h2
theorem value_no {s : ByteArray} (h : valueB s = true) (c : UInt8) (hc : ¬ vOk c.toNat) : NoB c s.data.toList := by
  intro b hb hbc
  subst hbc
  obtain ⟨i, hi, he⟩ := List.getElem_of_mem hb
  have h2 := (of_decide_eq_true h).2 i (by simpa using hi)
  refine hc ?_
  rw [← he]
  exact h2
theorem chOk_no (i : Nat) : ¬ chOk i 61 ∧ ¬ chOk i 34 ∧ ¬ chOk i 44 := by
  unfold chOk
  omega
structure GoodL (x : Lb) : Prop where
  n1 : nameB x.1 = true
  v0 : x.2 ≠ ByteArray.empty
  v1 : valueB x.2 = true
theorem good_of {l : List Lb} (h : validP l = true) : ∀ x ∈ l, GoodL x := by
  intro x hx
  obtain ⟨i, hi, rfl⟩ := mem_getD hx
  have := (valid_inv h).2 i hi
  exact ⟨this.1, this.2.1, this.2.2.1⟩
theorem GoodL.no61 {x : Lb} (h : GoodL x) : NoB 61 x.1.data.toList := name_no h.n1 61 fun i => (chOk_no i).1
theorem GoodL.no34 {x : Lb} (h : GoodL x) : NoB 34 x.2.data.toList := value_no h.v1 34 (by decide)
theorem GoodL.no44 {x : Lb} (h : GoodL x) : NoB 44 (eL x) := by
  have h1 := name_no h.n1 44 fun i => (chOk_no i).2.2
  have h2 := value_no h.v1 44 (by decide)
  intro b hb
  unfold eL at hb
  simp only [List.mem_append, List.mem_cons, List.not_mem_nil, or_false] at hb
  rcases hb with hb | (hb | hb) | hb | hb
  · exact h1 b hb
  · rw [hb]; decide
  · rw [hb]; decide
  · exact h2 b hb
  · rw [hb]; decide
theorem eL_len (x : Lb) : (eL x).length = x.1.size + x.2.size + 3 := by
  unfold eL
  simp
  omega
theorem eL_back {l : List Lb} (h : ∀ x ∈ l, GoodL x) : (l.map eL).map (fun t => elemOf ⟨t.toArray⟩) = l.map some := by
  rw [List.map_map]
  refine List.map_congr_left fun x hx => ?_
  exact elemOf_T x (h x hx).no61
theorem jL_nil {l : List Lb} (h : jL l = []) : l = [] := by
  have he : ∀ x : Lb, eL x ≠ [] := fun x hx => by
    have := congrArg List.length hx
    rw [eL_len] at this
    simp at this
  match l with
  | [] => rfl
  | [x] => exact absurd h (he x)
  | x :: y :: r =>
    unfold jL at h
    simp at h
theorem jL_inj {l1 l2 : List Lb} (h1 : ∀ x ∈ l1, GoodL x) (h2 : ∀ x ∈ l2, GoodL x) (h : jL l1 = jL l2) : l1 = l2 := by
  by_cases hn : l1 = []
  · subst hn
    exact (jL_nil h.symm).symm
  have hn2 : l2 ≠ [] := by
    rintro rfl
    exact hn (jL_nil h)
  have e1 := splitK_T l1 (l1.length + l2.length) hn (by omega) fun x hx => (h1 x hx).no44
  have e2 := splitK_T l2 (l1.length + l2.length) hn2 (by omega) fun x hx => (h2 x hx).no44
  rw [h, e2] at e1
  have e3 := eL_back h1
  rw [← e1, eL_back h2] at e3
  exact (List.map_inj_right fun a b hab => Option.some.inj hab).1 e3.symm
theorem text_jL {l1 l2 : List Lb} (h : textR l1 = textR l2) : jL l1 = jL l2 := by
  have := congrArg (fun b : ByteArray => b.data.toList) h
  simp only [text_data, List.cons.injEq, true_and] at this
  exact List.append_cancel_right this
theorem text_inj {l1 l2 : List Lb} (h1 : validP l1 = true) (h2 : validP l2 = true) (h : textR l1 = textR l2) : l1 = l2 := jL_inj (good_of h1) (good_of h2) (text_jL h)
/-- What a text is read as. -/
noncomputable def parseR (s : ByteArray) : List Lb × Int := by
  classical
  exact if h : ∃ l, validP l = true ∧ textR l = s then (h.choose, 0) else ([], 2)
theorem parseR_yes {l : List Lb} {s : ByteArray} (hv : validP l = true) (ht : textR l = s) : parseR s = (l, 0) := by
  have h : ∃ l, validP l = true ∧ textR l = s := ⟨l, hv, ht⟩
  unfold parseR
  rw [dif_pos h]
  have := h.choose_spec
  rw [text_inj this.1 hv (this.2.trans ht.symm)]
theorem parseR_no {s : ByteArray} (h : ∀ l, validP l = true → textR l = s → False) : parseR s = ([], 2) := by
  unfold parseR
  rw [dif_neg]
  rintro ⟨l, hv, ht⟩
  exact h l hv ht
theorem text_form {l : List Lb} {s : ByteArray} (ht : textR l = s) : s.data.toList = 123 :: (jL l ++ [125]) := by rw [← ht, text_data]
theorem text_size {l : List Lb} {s : ByteArray} (ht : textR l = s) : s.size = (jL l).length + 2 := by
  have := congrArg List.length (text_form ht)
  simpa using this
theorem mid_data {l : List Lb} {s : ByteArray} (ht : textR l = s) : (s.extract 1 (s.size - 1)).data.toList = jL l := by
  have h1 := text_form ht
  have h2 := text_size ht
  rw [ByteArray.data_extract, Array.toList_extract, h1, h2]
  simp
theorem jL_len : ∀ l : List Lb, l.length ≤ (jL l).length
  | [] => by simp
  | [x] => by
    show 1 ≤ (eL x).length
    rw [eL_len]
    omega
  | x :: y :: r => by
    have := jL_len (y :: r)
    have h2 : (jL (x :: y :: r)).length = (eL x).length + ((jL (y :: r)).length + 1) := by
      show (eL x ++ 44 :: jL (y :: r)).length = _
      simp
    rw [h2]
    simp only [List.length_cons] at this ⊢
    omega
theorem ba_list {a b : List ByteArray} (h : a.map (fun x => x.data.toList) = b.map fun x => x.data.toList) : a = b := (List.map_inj_right fun _ _ => ba_ext).1 h
theorem parts_text {l : List Lb} {s : ByteArray} (hv : validP l = true) (ht : textR l = s) (hne : s ≠ ⟨#[123, 125]⟩) :
    Lib.splitB ⟨#[44]⟩ 0 (min 9 ((s.extract 1 (s.size - 1)).size + 1) - 1) (s.extract 1 (s.size - 1)) = l.map elemT := by
  have hn : l ≠ [] := by
    rintro rfl
    exact hne (ht.symm.trans (by decide +kernel))
  have hg := good_of hv
  have h8 := (valid_inv hv).1
  have hm := mid_data ht
  have hsz : (s.extract 1 (s.size - 1)).size = (jL l).length := by
    have := congrArg List.length hm
    simpa using this
  have hll := jL_len l
  refine ba_list ?_
  rw [Lib.splitB_data, hm, hsz]
  rw [splitK_T l _ hn (by omega) fun x hx => (hg x hx).no44, List.map_map]
  rfl
/-- A label's text, cut. -/
theorem cut_T (x : Lb) (h : NoB 61 x.1.data.toList) : Lib.cut (elemT x).data.toList [61, 34] = (x.1.data.toList, x.2.data.toList ++ [34], true) := by
  have hi : Lib.index (eL x) [61, 34] = (x.1.data.toList.length : Int) := index_skip 61 [34] _ _ h (by simp [List.isPrefixOf])
  rw [elemT_data]
  unfold Lib.cut
  rw [hi, if_pos (by omega), Int.toNat_natCast]
  unfold eL
  rw [List.take_left, List.drop_append]
  simp
theorem suf_T (l : List UInt8) : Lib.hasSuffix (l ++ [34]) [34] = true := by
  unfold Lib.hasSuffix
  rw [List.isSuffixOf_iff_suffix]
  exact List.suffix_append _ _
theorem trim_T (l : List UInt8) : Lib.trimSuffix (l ++ [34]) [34] = l := by
  unfold Lib.trimSuffix
  rw [if_pos (suf_T l)]
  simp
theorem cut_len (p q : List UInt8) : (Lib.cut p q).1.length ≤ p.length ∧ (Lib.cut p q).2.1.length ≤ p.length := by
  unfold Lib.cut
  split
  · simp
    omega
  · simp
theorem trim_len (p q : List UInt8) : (Lib.trimSuffix p q).length ≤ p.length := by
  unfold Lib.trimSuffix
  split <;> simp
theorem split_len (sep : ByteArray) (sv : Nat) : ∀ (k : Nat) (s x : ByteArray), x ∈ Lib.splitB sep sv k s → x.size ≤ s.size
  | 0, s, x, h => by
    simp only [Lib.splitB, List.mem_singleton] at h
    rw [h]
    exact Nat.le_refl _
  | k + 1, s, x, h => by
    unfold Lib.splitB at h
    split at h
    · simp only [List.mem_singleton] at h
      rw [h]
      exact Nat.le_refl _
    · rcases List.mem_cons.1 h with h | h
      · rw [h, ByteArray.size_extract]
        omega
      · have := split_len sep sv k _ x h
        rw [ByteArray.size_extract] at this
        omega
/-- The first place of a byte from k on. -/
def untilN (T : List UInt8) (c : UInt8) (k : Nat) : Nat → Int
  | 0 => -1
  | f + 1 => if T.getD k 0 = c then (k : Int) else untilN T c (k + 1) f
def untilR (s : ByteArray) (k : Nat) (c : UInt8) : Int := untilN s.data.toList c k (s.size - k)
theorem until_step (s : ByteArray) (k : Nat) (c : UInt8) (h : k < s.size) : untilR s k c = if s.data.toList.getD k 0 = c then (k : Int) else untilR s (k + 1) c := by
  unfold untilR
  rw [show s.size - k = (s.size - (k + 1)) + 1 by omega]
  rfl
theorem until_end (s : ByteArray) (k : Nat) (c : UInt8) (h : s.size ≤ k) : untilR s k c = -1 := by
  unfold untilR
  rw [show s.size - k = 0 by omega]
  rfl
theorem untilN_cases (T : List UInt8) (c : UInt8) : ∀ f k, untilN T c k f = -1 ∨ ∃ m : Nat, untilN T c k f = m ∧ k ≤ m ∧ m < k + f
  | 0, k => .inl rfl
  | f + 1, k => by
    unfold untilN
    split
    · exact .inr ⟨k, rfl, by omega, by omega⟩
    · rcases untilN_cases T c f (k + 1) with h | ⟨m, h1, h2, h3⟩
      · exact .inl h
      · exact .inr ⟨m, h1, by omega, by omega⟩
theorem until_cases (s : ByteArray) (k : Nat) (c : UInt8) : untilR s k c = -1 ∨ ∃ m : Nat, untilR s k c = m ∧ k ≤ m ∧ m < s.size := by
  rcases untilN_cases s.data.toList c (s.size - k) k with h | ⟨m, h1, h2, h3⟩
  · exact .inl h
  · exact .inr ⟨m, h1, h2, by omega⟩
theorem until_at (s : ByteArray) (c : UInt8) (rest : List UInt8) : ∀ (a : List UInt8) (k : Nat), s.data.toList.drop k = a ++ c :: rest → NoB c a → untilR s k c = ((k + a.length : Nat) : Int)
  | [], k, h, _ => by
    have hl : k < s.size := by
      have := congrArg List.length h
      simp at this
      omega
    have h2 : s.data.toList.getD k 0 = c := by
      have := congrArg (fun l : List UInt8 => l.getD 0 0) h
      simpa [List.getD_eq_getElem?_getD] using this
    rw [until_step s k c hl, if_pos h2]
    rfl
  | b :: a, k, h, hn => by
    have hl : k < s.size := by
      have := congrArg List.length h
      simp at this
      omega
    have h2 : s.data.toList.getD k 0 = b := by
      have := congrArg (fun l : List UInt8 => l.getD 0 0) h
      simpa [List.getD_eq_getElem?_getD] using this
    have h3 : s.data.toList.drop (k + 1) = a ++ c :: rest := by
      rw [← List.drop_drop, h]
      rfl
    rw [until_step s k c hl, if_neg (by rw [h2]; exact hn b (by simp)), until_at s c rest a (k + 1) h3 fun z hz => hn z (by simp [hz])]
    simp only [List.length_cons]
    omega
/-- Where label j's text begins. -/
def offN (l : List Lb) : Nat → Nat
  | 0 => 1
  | j + 1 => offN l j + (eL (l.getD j lb0)).length + 1
theorem drop_get {l : List Lb} {j : Nat} (h : j < l.length) : l.drop j = l.getD j lb0 :: l.drop (j + 1) := by
  rw [List.drop_eq_getElem_cons h, List.getD_eq_getElem?_getD, List.getElem?_eq_getElem h]
  rfl
theorem off_drop {l : List Lb} {s : ByteArray} (ht : textR l = s) : ∀ j, j < l.length → s.data.toList.drop (offN l j) = jL (l.drop j) ++ [125]
  | 0, _ => by
    rw [text_form ht]
    rfl
  | j + 1, h => by
    have ih := off_drop ht j (by omega)
    have e1 := drop_get (show j < l.length by omega)
    have e2 := drop_get h
    rw [e1, e2] at ih
    unfold offN
    rw [Nat.add_assoc, ← List.drop_drop, ih, e2]
    show (eL (l.getD j lb0) ++ 44 :: jL _ ++ [125]).drop _ = _
    rw [List.append_assoc, List.drop_append]
    simp [List.drop_eq_nil_of_le (Nat.le_succ (eL (l.getD j lb0)).length)]
/-- What stands where label j begins. -/
theorem off_at {l : List Lb} {s : ByteArray} (ht : textR l = s) {j : Nat} (h : j < l.length) : ∃ rest, s.data.toList.drop (offN l j) = eL (l.getD j lb0) ++ rest ∧ rest ≠ [] ∧ (j + 1 = l.length → rest.length = 1) := by
  have := off_drop ht j h
  rw [drop_get h] at this
  by_cases h2 : j + 1 < l.length
  · rw [drop_get h2] at this
    refine ⟨44 :: jL (l.getD (j + 1) lb0 :: l.drop (j + 1 + 1)) ++ [125], ?_, by simp, by omega⟩
    rw [this]
    show eL (l.getD j lb0) ++ 44 :: jL _ ++ [125] = _
    simp
  · rw [List.drop_eq_nil_of_le (show l.length ≤ j + 1 by omega)] at this
    exact ⟨[125], this, by simp, fun _ => rfl⟩
theorem off_end {l : List Lb} {s : ByteArray} (ht : textR l = s) {j : Nat} (h : j + 1 = l.length) : offN l (j + 1) = s.size := by
  obtain ⟨rest, h1, h2, h3⟩ := off_at ht (show j < l.length by omega)
  have h4 := congrArg List.length h1
  have h5 := h3 h
  rw [List.length_append, h5] at h4
  simp only [List.length_drop, Array.length_toList] at h4
  have h6 : s.data.size = s.size := rfl
  rw [h6] at h4
  unfold offN
  omega
end Go.Proofs.YtebfhljamoapjaaDoor
