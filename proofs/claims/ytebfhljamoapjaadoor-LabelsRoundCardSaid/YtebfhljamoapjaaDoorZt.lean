
/- Turned label sets, in plain words. -/
import Derived.Test.YtebfhljamoapjaaDoorZd
namespace Go.Proofs.YtebfhljamoapjaaDoor
open Go.RowKit
set_option linter.unusedVariables false
set_option linter.unusedSimpArgs false

def lbGood (e : Lb) : Prop := nameB e.1 = true ∧ e.2 ≠ ByteArray.empty ∧ valueB e.2 = true
theorem valid_iff (l : List Lb) : validP l = true ↔ (l.length ≤ 8 ∧ (∀ e ∈ l, lbGood e) ∧ l.Pairwise fun a b => ltS a.1 b.1 = true) := by
  constructor
  · intro h
    obtain ⟨h1, h2⟩ := valid_inv h
    refine ⟨by omega, fun e he => ?_, ?_⟩
    · obtain ⟨i, hi, rfl⟩ := mem_getD he
      obtain ⟨a, b, c, _⟩ := h2 i hi
      exact ⟨a, b, c⟩
    · refine List.pairwise_iff_getElem.2 fun i j hi hj hij => ?_
      have := lt_all h2 i j hij hj
      rw [List.getD_eq_getElem?_getD, List.getElem?_eq_getElem hi, List.getD_eq_getElem?_getD, List.getElem?_eq_getElem hj] at this
      exact this
  · rintro ⟨h1, h2, h3⟩
    refine valid_yes (by omega) fun i hi => ?_
    obtain ⟨a, b, c⟩ := h2 _ (getD_mem hi)
    refine ⟨a, b, c, fun h0 => ?_⟩
    have := List.pairwise_iff_getElem.1 h3 (i - 1) i (by omega) hi (by omega)
    rw [List.getD_eq_getElem?_getD, List.getElem?_eq_getElem (by omega), List.getD_eq_getElem?_getD, List.getElem?_eq_getElem hi]
    exact this
theorem names_lt : ∀ i, i < 6 → ∀ j, j < i → ltS (namesL.getD j ByteArray.empty) (namesL.getD i ByteArray.empty) = true := by decide +kernel
theorem names_ok : ∀ i, i < 6 → nameB (namesL.getD i ByteArray.empty) = true := by decide +kernel
theorem values_ok : ∀ i, i < 6 → valueB (valuesL.getD i ByteArray.empty) = true ∧ valuesL.getD i ByteArray.empty ≠ ByteArray.empty := by decide +kernel
theorem setE_good (zs : List Int) (i : Nat) (hi : i < 6) : lbGood (setE zs i) := by
  have h1 := pick_nn zs (i + 1) 6 (by decide)
  have h2 := pick_lt zs (i + 1) 6 (by decide)
  have h3 := values_ok (pick zs (i + 1) 6).toNat (by omega)
  exact ⟨names_ok i hi, h3.2, h3.1⟩
theorem setN_ok (zs : List Int) : ∀ i, i ≤ 6 → (∀ e ∈ setN zs i, lbGood e ∧ ∃ j, j < i ∧ e.1 = namesL.getD j ByteArray.empty) ∧ (setN zs i).Pairwise fun a b => ltS a.1 b.1 = true
  | 0, _ => ⟨by simp [setN], by simp [setN]⟩
  | i + 1, hi => by
    obtain ⟨h1, h2⟩ := setN_ok zs i (by omega)
    unfold setN
    split
    · refine ⟨fun e he => ?_, ?_⟩
      · rcases List.mem_append.1 he with h | h
        · obtain ⟨g, j, hj, hje⟩ := h1 e h
          exact ⟨g, j, by omega, hje⟩
        · simp only [List.mem_singleton] at h
          subst h
          exact ⟨setE_good zs i (by omega), i, by omega, rfl⟩
      · rw [List.pairwise_append]
        refine ⟨h2, by simp, fun a ha b hb => ?_⟩
        simp only [List.mem_singleton] at hb
        subst hb
        obtain ⟨_, j, hj, hje⟩ := h1 a ha
        rw [hje]
        exact names_lt i (by omega) j hj
    · refine ⟨fun e he => ?_, h2⟩
      obtain ⟨g, j, hj, hje⟩ := h1 e he
      exact ⟨g, j, by omega, hje⟩
theorem set_valid (zs : List Int) : validP (setL zs) = true := by
  obtain ⟨h1, h2⟩ := setN_ok zs 6 (Nat.le_refl _)
  have := setN_len zs 6
  exact (valid_iff _).2 ⟨by show (setN zs 6).length ≤ 8; omega, fun e he => (h1 e he).1, h2⟩

/-- Two lists that are in order and have the same members are equal. -/
theorem strict_ext : ∀ a b : List Lb, a.Pairwise (fun x y => ltS x.1 y.1 = true) → b.Pairwise (fun x y => ltS x.1 y.1 = true) → (∀ z, z ∈ a ↔ z ∈ b) → a = b
  | [], [], _, _, _ => rfl
  | [], y :: s, _, _, h => by simpa using (h y).2 (by simp)
  | x :: r, [], _, _, h => by simpa using (h x).1 (by simp)
  | x :: r, y :: s, ha, hb, h => by
    obtain ⟨a1, a2⟩ := List.pairwise_cons.1 ha
    obtain ⟨b1, b2⟩ := List.pairwise_cons.1 hb
    have hxy : x = y := by
      rcases List.mem_cons.1 ((h x).1 (by simp)) with e | e
      · exact e
      · rcases List.mem_cons.1 ((h y).2 (by simp)) with f | f
        · exact f.symm
        · have h1 := b1 x e
          have h2 := ltS_asym (a1 y f)
          rw [h1] at h2
          cases h2
    subst hxy
    have ne : ∀ z, ltS x.1 z.1 = true → z ≠ x := fun z hz e => by
      subst e
      exact ltS_ne hz rfl
    rw [strict_ext r s a2 b2 fun z => ⟨fun hz => ?_, fun hz => ?_⟩]
    · rcases List.mem_cons.1 ((h z).1 (by simp [hz])) with e | e
      · exact absurd e (ne z (a1 z hz))
      · exact e
    · rcases List.mem_cons.1 ((h z).2 (by simp [hz])) with e | e
      · exact absurd e (ne z (b1 z hz))
      · exact e
/-- A label set in another order is restored. -/
theorem turn_new {a t : List Lb} (h : validP a = true) (hp : t.Perm a) : newP t = (a, 0) := by
  obtain ⟨h1, h2, h3⟩ := (valid_iff a).1 h
  have hl : t.length = a.length := hp.length_eq
  have hd : t.Pairwise fun x y => x.1 ≠ y.1 := by
    refine (hp.pairwise_iff (fun {x y} hxy => fun e => hxy e.symm)).2 (h3.imp fun {x y} hxy => ltS_ne hxy)
  have hc : ∀ i, i ≤ t.length → newC t i = 0 := by
    intro i
    induction i with
    | zero => intro _; rfl
    | succ i ih =>
      intro hi
      obtain ⟨a1, a2, a3⟩ := h2 _ (hp.mem_iff.1 (getD_mem (show i < t.length by omega)))
      refine newC_ok t i (ih (by omega)) (badC_0 a1 a2 a3 ?_)
      rw [dupB_iff]
      rintro ⟨j, hj, he⟩
      have := List.pairwise_iff_getElem.1 hd j i (by omega) (by omega) hj
      rw [List.getD_eq_getElem?_getD, List.getElem?_eq_getElem (by omega), List.getD_eq_getElem?_getD, List.getElem?_eq_getElem (by omega)] at he
      exact this he
  have hn : newP t = (sortL t, 0) := newP_ok (by omega) (hc _ (Nat.le_refl _))
  have hv : validP (newP t).1 = true := newP_valid (by rw [hn])
  rw [hn] at hv ⊢
  obtain ⟨_, _, g3⟩ := (valid_iff _).1 hv
  rw [strict_ext (sortL t) a g3 h3 fun z => by rw [mem_sortL]; exact hp.mem_iff]
theorem turn_perm (a : List Lb) (k : Nat) : (a.drop k ++ a.take k).Perm a := by
  have h := (List.perm_append_comm (l₁ := a.drop k) (l₂ := a.take k))
  rwa [List.take_append_drop] at h
theorem perm_lbs {a t : List Lb} (h : LbS a) (hp : t.Perm a) : LbS t := by
  refine lbs_small (by rw [hp.length_eq]; exact h.1) fun e he => ?_
  obtain ⟨i, _, rfl⟩ := mem_getD (hp.mem_iff.1 he)
  exact h.2 i
end Go.Proofs.YtebfhljamoapjaaDoor
