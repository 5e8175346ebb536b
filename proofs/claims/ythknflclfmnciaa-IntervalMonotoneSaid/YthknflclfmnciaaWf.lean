
/- Wide numbers: sums, differences and halves digit by digit, in plain words. No program in sight. -/
import Derived.Test.YthknflclfmnciaaQn
namespace Go.Proofs.Ythknflclfmnciaa
set_option linter.unusedVariables false
set_option linter.unusedSimpArgs false

theorem take_set_succ {l : List Int} {i : Nat} (h : i < l.length) (d : Int) : vl ((l.set i d).take (i + 1)) = vl (l.take i) + pw i * d := by
  rw [vl_take_succ (by simpa using h)]
  have e1 : (l.set i d).take i = l.take i := by rw [List.take_set_of_le (Nat.le_refl i)]
  have e2 : (l.set i d).getD i 0 = d := by simp [List.getD_eq_getElem?_getD, h]
  rw [e1, e2]
theorem getD_drop {l m : List Int} {i : Nat} (h : l.drop i = m.drop i) (k : Nat) : l.getD (i + k) 0 = m.getD (i + k) 0 := by
  have : (l.drop i).getD k 0 = (m.drop i).getD k 0 := by rw [h]
  simpa [List.getD_eq_getElem?_getD] using this
theorem drop_set_succ {l m : List Int} {i : Nat} (h : l.drop i = m.drop i) (d : Int) : (l.set i d).drop (i + 1) = m.drop (i + 1) := by
  rw [List.drop_set_of_lt (by omega)]
  have : (l.drop i).drop 1 = (m.drop i).drop 1 := by rw [h]
  simpa [List.drop_drop] using this
theorem take_all {l : List Int} (h : l.length = 8) : l.take 8 = l := List.take_of_length_le (by omega)
/-- Sums. -/
def PluP (a b : List Int) (i : Nat) (c : Int) (out : List Int) : Prop := out.length = 8 ∧ DgL out ∧ out.drop i = a.drop i ∧ 0 ≤ c ∧ c ≤ 1 ∧ vl (out.take i) + pw i * c = vl (a.take i) + vl (b.take i)
theorem PluP.zero {a b : List Int} (la : a.length = 8) (ha : DgL a) : PluP a b 0 0 a := ⟨la, ha, rfl, by omega, by omega, by simp [vl]⟩
theorem PluP.step {a b out : List Int} {i : Nat} {c : Int} (ha : DgL a) (hb : DgL b) (la : a.length = 8) (lb : b.length = 8) (h : PluP a b i c out) (hi : i < 8) :
    PluP a b (i + 1) ((c + out.getD i 0 + b.getD i 0) / 4294967296) (out.set i ((c + out.getD i 0 + b.getD i 0) % 4294967296)) := by
  obtain ⟨h1, h2, h3, h4, h5, h6⟩ := h
  have e : out.getD i 0 = a.getD i 0 := getD_drop h3 0
  have da := ha.at (i := i) (by omega)
  have db := hb.at (i := i) (by omega)
  rw [e]
  refine ⟨by simpa using h1, h2.set i (by omega), drop_set_succ h3 _, by omega, by omega, ?_⟩
  rw [take_set_succ (by omega), vl_take_succ (l := a) (by omega), vl_take_succ (l := b) (by omega), pw_succ]
  have hs := Int.mul_ediv_add_emod (c + a.getD i 0 + b.getD i 0) 4294967296
  have e2 : pw i * ((c + a.getD i 0 + b.getD i 0) % 4294967296) + 4294967296 * pw i * ((c + a.getD i 0 + b.getD i 0) / 4294967296) = pw i * (c + a.getD i 0 + b.getD i 0) := by
    rw [Int.mul_comm 4294967296 (pw i), Int.mul_assoc, ← Int.mul_add, Int.add_comm (_ % _), hs]
  have e3 : pw i * (c + a.getD i 0 + b.getD i 0) = pw i * c + pw i * a.getD i 0 + pw i * b.getD i 0 := by rw [Int.mul_add, Int.mul_add]
  rw [e3] at e2
  omega
theorem PluP.done {a b out : List Int} {c : Int} (la : a.length = 8) (lb : b.length = 8) (h : PluP a b 8 c out) (hlt : vl a + vl b < pw 8) : out = dgN 8 (vl a + vl b) := by
  obtain ⟨h1, h2, h3, h4, h5, h6⟩ := h
  rw [take_all h1, take_all la, take_all lb] at h6
  have h7 := vl_nonneg h2
  have hc : c = 0 := by
    rcases (show c = 0 ∨ c = 1 by omega) with h | h
    · exact h
    · rw [h] at h6; omega
  rw [hc, Int.mul_zero, Int.add_zero] at h6
  rw [← h6]
  exact eq_dg h2 h1
/-- Differences. -/
def MinP (a b : List Int) (i : Nat) (c : Int) (out : List Int) : Prop := out.length = 8 ∧ DgL out ∧ out.drop i = a.drop i ∧ 0 ≤ c ∧ c ≤ 1 ∧ vl (out.take i) + vl (b.take i) = vl (a.take i) + pw i * c
theorem MinP.zero {a b : List Int} (la : a.length = 8) (ha : DgL a) : MinP a b 0 0 a := ⟨la, ha, rfl, by omega, by omega, by simp [vl]⟩
theorem MinP.step {a b out : List Int} {i : Nat} {c : Int} (ha : DgL a) (hb : DgL b) (la : a.length = 8) (lb : b.length = 8) (h : MinP a b i c out) (hi : i < 8) :
    MinP a b (i + 1) (1 - (out.getD i 0 + 4294967296 - b.getD i 0 - c) / 4294967296) (out.set i ((out.getD i 0 + 4294967296 - b.getD i 0 - c) % 4294967296)) := by
  obtain ⟨h1, h2, h3, h4, h5, h6⟩ := h
  have e : out.getD i 0 = a.getD i 0 := getD_drop h3 0
  have da := ha.at (i := i) (by omega)
  have db := hb.at (i := i) (by omega)
  rw [e]
  refine ⟨by simpa using h1, h2.set i (by omega), drop_set_succ h3 _, by omega, by omega, ?_⟩
  rw [take_set_succ (by omega), vl_take_succ (l := a) (by omega), vl_take_succ (l := b) (by omega), pw_succ]
  have hs := Int.mul_ediv_add_emod (a.getD i 0 + 4294967296 - b.getD i 0 - c) 4294967296
  generalize (a.getD i 0 + 4294967296 - b.getD i 0 - c) / 4294967296 = q at *
  generalize (a.getD i 0 + 4294967296 - b.getD i 0 - c) % 4294967296 = r at *
  have e2 : r = a.getD i 0 + 4294967296 - b.getD i 0 - c - 4294967296 * q := by omega
  have e3 : pw i * r = pw i * a.getD i 0 + 4294967296 * pw i - pw i * b.getD i 0 - pw i * c - 4294967296 * pw i * q := by
    rw [e2, Int.mul_sub, Int.mul_sub, Int.mul_sub, Int.mul_add, ← Int.mul_assoc, Int.mul_comm (pw i) 4294967296]
  rw [Int.mul_sub, Int.mul_one]
  omega
theorem MinP.done {a b out : List Int} {c : Int} (la : a.length = 8) (lb : b.length = 8) (h : MinP a b 8 c out) (hle : vl b ≤ vl a) : out = dgN 8 (vl a - vl b) := by
  obtain ⟨h1, h2, h3, h4, h5, h6⟩ := h
  rw [take_all h1, take_all la, take_all lb] at h6
  have h7 := vl_lt h2
  rw [h1] at h7
  have hc : c = 0 := by
    rcases (show c = 0 ∨ c = 1 by omega) with h | h
    · exact h
    · rw [h] at h6; omega
  rw [hc, Int.mul_zero, Int.add_zero] at h6
  rw [show vl a - vl b = vl out by omega]
  exact eq_dg h2 h1
/-- Halves. -/
def HalP (a : List Int) (i : Nat) (out : List Int) : Prop := out.length = 8 ∧ DgL out ∧ out.drop i = a.drop i ∧ 2 * vl (out.take i) + a.getD 0 0 % 2 = vl (a.take i) + pw i * (a.getD i 0 % 2)
theorem HalP.zero {a : List Int} (la : a.length = 8) (ha : DgL a) : HalP a 0 a := ⟨la, ha, rfl, by simp [vl, pw_zero]⟩
theorem HalP.step {a out : List Int} {i : Nat} (ha : DgL a) (la : a.length = 8) (h : HalP a i out) (hi : i < 8) :
    HalP a (i + 1) (out.set i (out.getD i 0 / 2 + 2147483648 * (out.getD (i + 1) 0 % 2))) := by
  obtain ⟨h1, h2, h3, h6⟩ := h
  have e : out.getD i 0 = a.getD i 0 := getD_drop h3 0
  have e1 : out.getD (i + 1) 0 = a.getD (i + 1) 0 := getD_drop h3 1
  have da := ha.at (i := i) (by omega)
  rw [e, e1]
  refine ⟨by simpa using h1, h2.set i (by omega), drop_set_succ h3 _, ?_⟩
  rw [take_set_succ (by omega), vl_take_succ (l := a) (by omega), pw_succ]
  have e2 : pw i * (a.getD i 0) = pw i * (2 * (a.getD i 0 / 2)) + pw i * (a.getD i 0 % 2) := by
    rw [← Int.mul_add, Int.mul_ediv_add_emod]
  have e3 : 2 * (pw i * (a.getD i 0 / 2 + 2147483648 * (a.getD (i + 1) 0 % 2))) = pw i * (2 * (a.getD i 0 / 2)) + 4294967296 * pw i * (a.getD (i + 1) 0 % 2) := by
    rw [Int.mul_add, Int.mul_add, Int.mul_left_comm 2 (pw i), Int.mul_left_comm 2 (pw i), ← Int.mul_assoc 2 2147483648, Int.mul_comm 4294967296 (pw i), Int.mul_assoc (pw i)]
    rfl
  rw [Int.mul_add, e3]
  omega
theorem vl_even {l : List Int} (h : l.length = 8) : vl l % 2 = l.getD 0 0 % 2 := by
  match l, h with
  | x :: r, _ => simp only [vl, List.getD_cons_zero]; omega
theorem HalP.done {a out : List Int} (la : a.length = 8) (h : HalP a 8 out) : out = dgN 8 (vl a / 2) := by
  obtain ⟨h1, h2, h3, h6⟩ := h
  rw [take_all h1, take_all la, show a.getD 8 0 = 0 from by simp [List.getD_eq_getElem?_getD, la], show (0 : Int) % 2 = 0 from rfl, Int.mul_zero] at h6
  have := vl_even la
  rw [show vl a / 2 = vl out by omega]
  exact eq_dg h2 h1
end Go.Proofs.Ythknflclfmnciaa
