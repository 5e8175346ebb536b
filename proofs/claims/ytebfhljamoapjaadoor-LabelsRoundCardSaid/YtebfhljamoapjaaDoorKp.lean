
/- Strings and lists of labels in plain words: their order. No program in sight. -/
import Derived.Test.YtebfhljamoapjaaDoorKb
import Derived.Lib.Strings
namespace Go.Proofs.YtebfhljamoapjaaDoor
open Go.RowKit
set_option linter.unusedVariables false
set_option linter.unusedSimpArgs false

theorem tl_data (s : ByteArray) : s.toList = s.data.toList := ByteArray.toList_eq s
theorem tl_inj {a b : ByteArray} (h : a.toList = b.toList) : a = b := by
  rw [tl_data, tl_data] at h
  exact ByteArray.ext (Array.ext' h)
theorem tl_eq (a b : ByteArray) : (a.toList == b.toList) = decide (a = b) := by
  by_cases h : a = b
  · subst h; simp
  · rw [decide_eq_false h]
    simp only [beq_eq_false_iff_ne, ne_eq]
    exact fun h' => h (tl_inj h')
theorem bl_irr : ∀ x : List UInt8, Op.bytesLess x x = false
  | [] => rfl
  | a :: x => by
    have := bl_irr x
    simp [Op.bytesLess, this]
theorem bl_trans : ∀ x y z : List UInt8, Op.bytesLess x y = true → Op.bytesLess y z = true → Op.bytesLess x z = true
  | [], [], _, h, _ => by simp [Op.bytesLess] at h
  | _ :: _, [], _, h, _ => by simp [Op.bytesLess] at h
  | _, _ :: _, [], _, h => by simp [Op.bytesLess] at h
  | [], _ :: _, _ :: _, _, _ => rfl
  | a :: x, b :: y, c :: z, h1, h2 => by
    have ih := bl_trans x y z
    simp only [Op.bytesLess, Bool.or_eq_true, Bool.and_eq_true, decide_eq_true_eq, beq_iff_eq, UInt8.lt_iff_toNat_lt] at *
    rcases h1 with h1 | ⟨rfl, h1⟩ <;> rcases h2 with h2 | ⟨rfl, h2⟩
    · left; omega
    · left; exact h1
    · left; exact h2
    · right; exact ⟨rfl, ih h1 h2⟩
theorem bl_tri : ∀ x y : List UInt8, Op.bytesLess x y = false → Op.bytesLess y x = false → x = y
  | [], [], _, _ => rfl
  | [], _ :: _, h, _ => by simp [Op.bytesLess] at h
  | _ :: _, [], _, h => by simp [Op.bytesLess] at h
  | a :: x, b :: y, h1, h2 => by
    have ih := bl_tri x y
    simp only [Op.bytesLess, Bool.or_eq_false_iff, decide_eq_false_iff_not, UInt8.lt_iff_toNat_lt] at h1 h2
    have hab : a = b := UInt8.toNat_inj.1 (by omega)
    subst hab
    simp only [beq_self_eq_true, Bool.true_and] at h1 h2
    rw [ih h1.2 h2.2]
/-- The order of strings: -1, 0, 1. -/
def ltS (a b : ByteArray) : Bool := Op.bytesLess a.toList b.toList
def cmpS (a b : ByteArray) : Int := if ltS a b = true then -1 else if a = b then 0 else 1
theorem ltS_irr (a : ByteArray) : ltS a a = false := bl_irr _
theorem ltS_trans {a b c : ByteArray} (h1 : ltS a b = true) (h2 : ltS b c = true) : ltS a c = true := bl_trans _ _ _ h1 h2
theorem ltS_tri {a b : ByteArray} (h1 : ltS a b = false) (h2 : ltS b a = false) : a = b := tl_inj (bl_tri _ _ h1 h2)
theorem ltS_asym {a b : ByteArray} (h : ltS a b = true) : ltS b a = false := by
  cases h2 : ltS b a with
  | false => rfl
  | true => exact absurd (ltS_trans h h2) (by rw [ltS_irr]; simp)
theorem ltS_ne {a b : ByteArray} (h : ltS a b = true) : a ≠ b := by
  rintro rfl
  rw [ltS_irr] at h
  cases h
theorem cmpS_cases (a b : ByteArray) : (ltS a b = true ∧ cmpS a b = -1) ∨ (a = b ∧ cmpS a b = 0) ∨ (ltS b a = true ∧ cmpS a b = 1) := by
  unfold cmpS
  cases h1 : ltS a b with
  | true => simp
  | false =>
    by_cases h2 : a = b
    · simp [h2]
    · cases h3 : ltS b a with
      | true => simp [h2]
      | false => exact absurd (ltS_tri h1 h3) h2
theorem gtS (a b : ByteArray) : (!(Op.bytesLess a.toList b.toList || a.toList == b.toList)) = ltS b a := by
  rw [tl_eq]
  show (!(ltS a b || decide (a = b))) = ltS b a
  cases h1 : ltS a b with
  | true => rw [ltS_asym h1]; rfl
  | false =>
    by_cases h2 : a = b
    · subst h2; simp [ltS_irr]
    · cases h3 : ltS b a with
      | true => simp [h2]
      | false => exact absurd (ltS_tri h1 h3) h2
theorem cmpS_neg (a b : ByteArray) : cmpS b a = - cmpS a b := by
  rcases cmpS_cases a b with ⟨h, e⟩ | ⟨h, e⟩ | ⟨h, e⟩ <;> rcases cmpS_cases b a with ⟨h', e'⟩ | ⟨h', e'⟩ | ⟨h', e'⟩ <;> rw [e, e'] <;> first | rfl | (exfalso; first | (rw [ltS_asym h] at h'; cases h') | (subst h; rw [ltS_irr] at h'; cases h') | (subst h'; rw [ltS_irr] at h; cases h))
theorem cmpS_zero {a b : ByteArray} : cmpS a b = 0 ↔ a = b := by
  constructor
  · intro h
    rcases cmpS_cases a b with ⟨h', e'⟩ | ⟨h', e'⟩ | ⟨h', e'⟩
    · omega
    · exact h'
    · omega
  · rintro rfl
    unfold cmpS
    rw [ltS_irr]
    simp
/-- The order of labels, and of lists of labels. -/
def cmpL1 (a b : Lb) : Int := if a.1 = b.1 then cmpS a.2 b.2 else cmpS a.1 b.1
def cmpLs : List Lb → List Lb → Int
  | [], [] => 0
  | [], _ :: _ => -1
  | _ :: _, [] => 1
  | x :: r, y :: s => if cmpL1 x y = 0 then cmpLs r s else cmpL1 x y
theorem cmpL1_zero {a b : Lb} : cmpL1 a b = 0 ↔ a = b := by
  unfold cmpL1
  obtain ⟨a1, a2⟩ := a
  obtain ⟨b1, b2⟩ := b
  simp only
  split
  · rename_i h
    rw [cmpS_zero, h]
    simp
  · rename_i h
    rw [cmpS_zero]
    simp [h]
theorem cmpL1_neg (a b : Lb) : cmpL1 b a = - cmpL1 a b := by
  unfold cmpL1
  by_cases h : a.1 = b.1
  · rw [if_pos h, if_pos h.symm, cmpS_neg]
  · rw [if_neg h, if_neg (fun h' => h h'.symm), cmpS_neg]
theorem cmpS_in (a b : ByteArray) : cmpS a b = -1 ∨ cmpS a b = 0 ∨ cmpS a b = 1 := by
  rcases cmpS_cases a b with ⟨_, e⟩ | ⟨_, e⟩ | ⟨_, e⟩ <;> simp [e]
theorem cmpL1_in (a b : Lb) : cmpL1 a b = -1 ∨ cmpL1 a b = 0 ∨ cmpL1 a b = 1 := by
  unfold cmpL1
  split <;> exact cmpS_in _ _
theorem cmpS_le_trans {a b c : ByteArray} (h1 : cmpS a b ≤ 0) (h2 : cmpS b c ≤ 0) : cmpS a c ≤ 0 := by
  rcases cmpS_cases a b with ⟨h, e⟩ | ⟨h, e⟩ | ⟨h, e⟩
  · rcases cmpS_cases b c with ⟨h', e'⟩ | ⟨h', e'⟩ | ⟨h', e'⟩
    · unfold cmpS; rw [if_pos (ltS_trans h h')]; omega
    · subst h'; omega
    · omega
  · subst h; exact h2
  · omega
theorem cmpS_lt {a b : ByteArray} (h : cmpS a b < 0) : ltS a b = true := by
  rcases cmpS_cases a b with ⟨h', e'⟩ | ⟨h', e'⟩ | ⟨h', e'⟩
  · exact h'
  · omega
  · omega
theorem cmpL1_le_trans {a b c : Lb} (h1 : cmpL1 a b ≤ 0) (h2 : cmpL1 b c ≤ 0) : cmpL1 a c ≤ 0 := by
  unfold cmpL1 at *
  by_cases e1 : a.1 = b.1
  · rw [if_pos e1] at h1
    rw [e1]
    by_cases e2 : b.1 = c.1
    · rw [if_pos e2] at h2 ⊢
      exact cmpS_le_trans h1 h2
    · rw [if_neg e2] at h2 ⊢
      exact h2
  · rw [if_neg e1] at h1
    by_cases e2 : b.1 = c.1
    · rw [← e2, if_neg e1]
      exact h1
    · rw [if_neg e2] at h2
      have l1 : ltS a.1 b.1 = true := cmpS_lt (by have : cmpS a.1 b.1 ≠ 0 := fun h => e1 (cmpS_zero.1 h); omega)
      have l2 : ltS b.1 c.1 = true := cmpS_lt (by have : cmpS b.1 c.1 ≠ 0 := fun h => e2 (cmpS_zero.1 h); omega)
      have l3 := ltS_trans l1 l2
      rw [if_neg (ltS_ne l3)]
      unfold cmpS
      rw [if_pos l3]
      omega
theorem cmpLs_neg : ∀ a b : List Lb, cmpLs b a = - cmpLs a b
  | [], [] => rfl
  | [], _ :: _ => rfl
  | _ :: _, [] => rfl
  | x :: r, y :: s => by
    have ih := cmpLs_neg r s
    have h1 := cmpL1_neg x y
    unfold cmpLs
    by_cases h : cmpL1 x y = 0
    · rw [if_pos h, if_pos (by omega), ih]
    · rw [if_neg h, if_neg (by omega), h1]
theorem cmpLs_zero : ∀ a b : List Lb, cmpLs a b = 0 ↔ a = b
  | [], [] => by simp [cmpLs]
  | [], _ :: _ => by simp [cmpLs]
  | _ :: _, [] => by simp [cmpLs]
  | x :: r, y :: s => by
    have ih := cmpLs_zero r s
    unfold cmpLs
    by_cases h : cmpL1 x y = 0
    · rw [if_pos h, ih, cmpL1_zero.1 h]
      simp
    · rw [if_neg h]
      constructor
      · intro h'; exact absurd h' h
      · intro h'
        injection h' with h1 h2
        exact absurd (cmpL1_zero.2 h1) h
theorem cmpLs_le_trans : ∀ a b c : List Lb, cmpLs a b ≤ 0 → cmpLs b c ≤ 0 → cmpLs a c ≤ 0
  | [], _, [], _, _ => by simp [cmpLs]
  | [], _, _ :: _, _, _ => by simp [cmpLs]
  | x :: r, [], c, h, _ => by simp [cmpLs] at h
  | x :: r, y :: s, [], _, h => by simp [cmpLs] at h
  | x :: r, y :: s, z :: t, h1, h2 => by
    have ih := cmpLs_le_trans r s t
    unfold cmpLs at h1 h2 ⊢
    by_cases e1 : cmpL1 x y = 0
    · rw [if_pos e1] at h1
      rw [cmpL1_zero.1 e1]
      by_cases e2 : cmpL1 y z = 0
      · rw [if_pos e2] at h2 ⊢
        exact ih h1 h2
      · rw [if_neg e2] at h2 ⊢
        exact h2
    · rw [if_neg e1] at h1
      have h12 : cmpL1 x z ≤ 0 := by
        by_cases e2 : cmpL1 y z = 0
        · rw [← cmpL1_zero.1 e2]; exact h1
        · rw [if_neg e2] at h2
          exact cmpL1_le_trans h1 h2
      have hne : cmpL1 x z ≠ 0 := by
        intro h0
        have hxz := cmpL1_zero.1 h0
        subst hxz
        have h21 := cmpL1_neg x y
        by_cases e2 : cmpL1 y x = 0
        · omega
        · rw [if_neg e2] at h2
          omega
      rw [if_neg hne]
      exact h12
/-- The first i labels agree. -/
theorem cmpLs_drop : ∀ (i : Nat) (a b : List Lb), a.take i = b.take i → i ≤ a.length → i ≤ b.length → cmpLs a b = cmpLs (a.drop i) (b.drop i)
  | 0, a, b, _, _, _ => by simp
  | i + 1, [], b, _, h, _ => by simp at h
  | i + 1, x :: r, [], _, _, h => by simp at h
  | i + 1, x :: r, y :: s, h, h1, h2 => by
    simp only [List.take_succ_cons, List.cons.injEq] at h
    obtain ⟨rfl, h⟩ := h
    have := cmpLs_drop i r s h (by simpa using h1) (by simpa using h2)
    have e : cmpL1 x x = 0 := cmpL1_zero.2 rfl
    simp only [List.drop_succ_cons]
    rw [← this]
    show (if _ then _ else _) = _
    rw [if_pos e]
/-- The value of the first label with a name. -/
def getP : List Lb → ByteArray → ByteArray
  | [], _ => ByteArray.empty
  | e :: r, n => if e.1 = n then e.2 else getP r n
theorem getP_at : ∀ (ls : List Lb) (n : ByteArray) (i : Nat), i < ls.length → (∀ j, j < i → (ls.getD j lb0).1 ≠ n) → (ls.getD i lb0).1 = n → getP ls n = (ls.getD i lb0).2
  | [], n, i, h, _, _ => by simp at h
  | e :: r, n, 0, _, _, h => by
    simp only [List.getD_cons_zero] at h ⊢
    unfold getP
    rw [if_pos h]
  | e :: r, n, i + 1, h, h1, h2 => by
    have h0 := h1 0 (by omega)
    simp only [List.getD_cons_zero, List.getD_cons_succ] at h0 h2 ⊢
    unfold getP
    rw [if_neg h0]
    exact getP_at r n i (by simpa using h) (fun j hj => by simpa using h1 (j + 1) (by omega)) h2
theorem getP_none : ∀ (ls : List Lb) (n : ByteArray), (∀ j, j < ls.length → (ls.getD j lb0).1 ≠ n) → getP ls n = ByteArray.empty
  | [], n, _ => rfl
  | e :: r, n, h => by
    have h0 := h 0 (by simp)
    simp only [List.getD_cons_zero] at h0
    unfold getP
    rw [if_neg h0]
    exact getP_none r n (fun j hj => by simpa using h (j + 1) (by simpa using hj))
/-- Lists that agree everywhere are equal. -/
theorem list_ext {α : Type} (d : α) (a b : List α) (hl : a.length = b.length) (h : ∀ j, j < a.length → a.getD j d = b.getD j d) : a = b := by
  apply List.ext_getElem hl
  intro i h1 h2
  have := h i h1
  simpa [List.getD_eq_getElem?_getD, h1, h2] using this
end Go.Proofs.YtebfhljamoapjaaDoor
