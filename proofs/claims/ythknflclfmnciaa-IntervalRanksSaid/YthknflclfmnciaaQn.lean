
/- Wide numbers: eight digits, the least first, in plain words. No program in sight. -/
import Derived.Test.YthknflclfmnciaaQp
namespace Go.Proofs.Ythknflclfmnciaa
open Go.RowKit
set_option linter.unusedVariables false
set_option linter.unusedSimpArgs false

def vl : List Int → Int
  | [] => 0
  | x :: r => x + 4294967296 * vl r
def pw (k : Nat) : Int := 4294967296 ^ k
theorem pw_zero : pw 0 = 1 := rfl
theorem pw_succ (k : Nat) : pw (k + 1) = 4294967296 * pw k := by unfold pw; rw [Int.pow_succ, Int.mul_comm]
theorem pw_pos (k : Nat) : 0 < pw k := by
  induction k with
  | zero => decide
  | succ k ih => rw [pw_succ]; omega
def DgL (l : List Int) : Prop := ∀ x ∈ l, 0 ≤ x ∧ x < 4294967296
theorem DgL.at {l : List Int} (h : DgL l) {i : Nat} (hi : i < l.length) : 0 ≤ l.getD i 0 ∧ l.getD i 0 < 4294967296 := by
  rw [List.getD_eq_getElem?_getD, List.getElem?_eq_getElem hi]
  exact h _ (List.getElem_mem hi)
theorem DgL.set {l : List Int} (h : DgL l) (i : Nat) {d : Int} (hd : 0 ≤ d ∧ d < 4294967296) : DgL (l.set i d) := by
  intro x hx
  rcases List.mem_or_eq_of_mem_set hx with h1 | h1
  · exact h x h1
  · rw [h1]; exact hd
theorem DgL.take {l : List Int} (h : DgL l) (i : Nat) : DgL (l.take i) := fun x hx => h x (List.mem_of_mem_take hx)
theorem vl_nonneg : ∀ {l : List Int}, DgL l → 0 ≤ vl l
  | [], _ => by simp [vl]
  | x :: r, h => by
    have h1 := h x (by simp)
    have h2 := vl_nonneg (l := r) (fun y hy => h y (by simp [hy]))
    simp only [vl]
    omega
theorem vl_lt : ∀ {l : List Int}, DgL l → vl l < pw l.length
  | [], _ => by simp [vl, pw_zero]
  | x :: r, h => by
    have h1 := h x (by simp)
    have h2 := vl_lt (l := r) (fun y hy => h y (by simp [hy]))
    simp only [vl, List.length_cons, pw_succ]
    omega
theorem vl_split : ∀ (l : List Int) (i : Nat), i ≤ l.length → vl l = vl (l.take i) + pw i * vl (l.drop i)
  | l, 0, _ => by simp [vl, pw_zero]
  | [], i + 1, h => by simp at h
  | x :: r, i + 1, h => by
    simp only [List.take_succ_cons, List.drop_succ_cons, vl, pw_succ]
    rw [vl_split r i (by simpa using h), Int.mul_add, Int.mul_assoc]
    omega
theorem drop_getD {l : List Int} {i : Nat} (h : i < l.length) : l.drop i = l.getD i 0 :: l.drop (i + 1) := by
  rw [List.drop_eq_getElem_cons h, List.getD_eq_getElem?_getD, List.getElem?_eq_getElem h]
  rfl
theorem vl_at {l : List Int} {i : Nat} (h : i < l.length) : vl l = vl (l.take i) + pw i * l.getD i 0 + pw (i + 1) * vl (l.drop (i + 1)) := by
  rw [vl_split l i (by omega), drop_getD h]
  simp only [vl, pw_succ]
  rw [Int.mul_add, ← Int.mul_assoc, Int.mul_comm (pw i) 4294967296, Int.add_assoc]
theorem vl_take_succ {l : List Int} {k : Nat} (h : k < l.length) : vl (l.take (k + 1)) = vl (l.take k) + pw k * l.getD k 0 := by
  have h1 := vl_at (l := l.take (k + 1)) (i := k) (by simp; omega)
  rw [List.take_take, Nat.min_eq_left (by omega), List.drop_take] at h1
  rw [h1]
  have e : (l.take (k + 1)).getD k 0 = l.getD k 0 := by
    simp only [List.getD_eq_getElem?_getD]
    rw [List.getElem?_take_of_lt (by omega)]
  rw [e]
  simp [vl]
theorem vl_set {l : List Int} {p : Nat} (h : p < l.length) (d : Int) : vl (l.set p d) + pw p * l.getD p 0 = vl l + pw p * d := by
  have h1 := vl_at (l := l.set p d) (i := p) (by simpa using h)
  have h2 := vl_at h
  have e1 : (l.set p d).take p = l.take p := by simp [List.take_set]; exact List.set_eq_of_length_le (by simp; omega)
  have e2 : (l.set p d).drop (p + 1) = l.drop (p + 1) := by rw [List.drop_set_of_lt (by omega)]
  have e3 : (l.set p d).getD p 0 = d := by simp [List.getD_eq_getElem?_getD, h]
  rw [e1, e2, e3] at h1
  omega
/-- The digits of a number. -/
def dgN : Nat → Int → List Int
  | 0, _ => []
  | n + 1, z => z % 4294967296 :: dgN n (z / 4294967296)
theorem dgN_len : ∀ (n : Nat) (z : Int), (dgN n z).length = n
  | 0, _ => rfl
  | n + 1, z => by simp [dgN, dgN_len n]
theorem dgN_dg : ∀ (n : Nat) (z : Int), DgL (dgN n z)
  | 0, _ => by intro x hx; simp [dgN] at hx
  | n + 1, z => by
    intro x hx
    simp only [dgN, List.mem_cons] at hx
    rcases hx with rfl | hx
    · omega
    · exact dgN_dg n _ x hx
theorem dgN_vl : ∀ {l : List Int}, DgL l → dgN l.length (vl l) = l
  | [], _ => rfl
  | x :: r, h => by
    have h1 := h x (by simp)
    simp only [List.length_cons, dgN, vl]
    rw [show (x + 4294967296 * vl r) % 4294967296 = x by omega, show (x + 4294967296 * vl r) / 4294967296 = vl r by omega, dgN_vl (l := r) (fun y hy => h y (by simp [hy]))]
theorem vl_dgN : ∀ (n : Nat) (z : Int), 0 ≤ z → z < pw n → vl (dgN n z) = z
  | 0, z, h0, h1 => by simp only [pw_zero] at h1; simp only [dgN, vl]; omega
  | n + 1, z, h0, h1 => by
    rw [pw_succ] at h1
    simp only [dgN, vl]
    rw [vl_dgN n (z / 4294967296) (by omega) (by omega)]
    omega
theorem eq_dg {l : List Int} (h : DgL l) (hl : l.length = 8) : l = dgN 8 (vl l) := by
  have := dgN_vl h
  rw [hl] at this
  exact this.symm
theorem vl_lt_of {a b : List Int} (ha : DgL a) (hb : DgL b) {i : Nat} (h1 : i < a.length) (h2 : i < b.length) (he : a.drop (i + 1) = b.drop (i + 1)) (h : a.getD i 0 < b.getD i 0) : vl a < vl b := by
  have e1 := vl_at h1
  have e2 := vl_at h2
  rw [he] at e1
  have t1 := vl_lt (ha.take i)
  rw [List.length_take, Nat.min_eq_left (by omega)] at t1
  have t2 := vl_nonneg (hb.take i)
  have hp := pw_pos i
  have : pw i * (a.getD i 0 + 1) ≤ pw i * b.getD i 0 := Int.mul_le_mul_of_nonneg_left (by omega) (by omega)
  rw [Int.mul_add] at this
  omega
/-- One step of a product: a digit and a carry. -/
theorem mul_step {o c d m P X : Int} {V T : Int} (h : d + 4294967296 * c = o) : P * d + (4294967296 * P) * c = P * o := by
  rw [← h, Int.mul_add, ← Int.mul_assoc, Int.mul_comm P 4294967296]
/-- A row of a product, up to a place. -/
def RowP (a b : List Int) (i : Nat) (out0 : List Int) (k : Nat) (c : Int) (out : List Int) : Prop :=
  out.length = 8 ∧ DgL out ∧ (0 ≤ c ∧ c < 4294967296) ∧ vl out + pw (i + k) * c = vl out0 + pw i * (a.getD i 0 * vl (b.take k))
theorem RowP.zero {a b : List Int} {i : Nat} {out : List Int} (hl : out.length = 8) (hd : DgL out) : RowP a b i out 0 0 out := ⟨hl, hd, by omega, by simp [vl]⟩
theorem RowP.step {a b : List Int} {i : Nat} {out0 : List Int} {k : Nat} {c : Int} {out : List Int} (ha : DgL a) (hb : DgL b) (la : a.length = 8) (lb : b.length = 8) (h : RowP a b i out0 k c out) (hk : i + k < 8) :
    RowP a b i out0 (k + 1) ((c + out.getD (i + k) 0 + a.getD i 0 * b.getD k 0) / 4294967296) (out.set (i + k) ((c + out.getD (i + k) 0 + a.getD i 0 * b.getD k 0) % 4294967296)) := by
  obtain ⟨h1, h2, h3, h4⟩ := h
  have da := ha.at (i := i) (by omega)
  have db := hb.at (i := k) (by omega)
  have d0 := h2.at (i := i + k) (by omega)
  have hm : a.getD i 0 * b.getD k 0 ≤ 4294967295 * 4294967295 := Int.mul_le_mul (by omega) (by omega) (by omega) (by omega)
  have hm0 : 0 ≤ a.getD i 0 * b.getD k 0 := Int.mul_nonneg (by omega) (by omega)
  refine ⟨by simpa using h1, h2.set _ (by omega), ?_, ?_⟩
  · generalize a.getD i 0 * b.getD k 0 = m at *
    omega
  · have e1 := vl_set (l := out) (p := i + k) (by omega) ((c + out.getD (i + k) 0 + a.getD i 0 * b.getD k 0) % 4294967296)
    have e2 := vl_take_succ (l := b) (k := k) (by omega)
    have e3 := mul_step (P := pw (i + k)) (m := 0) (X := 0) (V := 0) (T := 0) (Int.emod_add_mul_ediv (c + out.getD (i + k) 0 + a.getD i 0 * b.getD k 0) 4294967296)
    have e4 : pw i * (a.getD i 0 * (pw k * b.getD k 0)) = pw (i + k) * (a.getD i 0 * b.getD k 0) := by
      have : pw (i + k) = pw i * pw k := by unfold pw; rw [Int.pow_add]
      rw [this, Int.mul_assoc, ← Int.mul_assoc (a.getD i 0), Int.mul_comm (a.getD i 0) (pw k), Int.mul_assoc]
    rw [e2, Int.mul_add (a.getD i 0), Int.mul_add (pw i), e4]
    rw [Int.mul_add, Int.mul_add] at e3
    rw [show i + (k + 1) = i + k + 1 by omega, pw_succ]
    generalize (c + out.getD (i + k) 0 + a.getD i 0 * b.getD k 0) / 4294967296 = q at *
    generalize vl (out.set (i + k) ((c + out.getD (i + k) 0 + a.getD i 0 * b.getD k 0) % 4294967296)) = v at *
    omega
/-- A product, up to a row. -/
def TimP (a b : List Int) (i : Nat) (out : List Int) : Prop := out.length = 8 ∧ DgL out ∧ ∃ q, 0 ≤ q ∧ vl out + pw 8 * q = vl (a.take i) * vl b
theorem TimP.zero {a b : List Int} : TimP a b 0 [0, 0, 0, 0, 0, 0, 0, 0] := ⟨rfl, by intro x hx; simp at hx; omega, 0, by omega, by simp [vl]⟩
theorem TimP.step {a b : List Int} {i : Nat} {out0 out : List Int} {c : Int} (ha : DgL a) (hb : DgL b) (la : a.length = 8) (lb : b.length = 8) (h : TimP a b i out0) (hi : i < 8) (hr : RowP a b i out0 (8 - i) c out) : TimP a b (i + 1) out := by
  obtain ⟨h1, h2, q, hq, h3⟩ := h
  obtain ⟨r1, r2, r3, r4⟩ := hr
  refine ⟨r1, r2, q + c + a.getD i 0 * vl (b.drop (8 - i)), ?_, ?_⟩
  · have da := ha.at (i := i) (by omega)
    have : 0 ≤ vl (b.drop (8 - i)) := vl_nonneg (fun x hx => hb x (List.mem_of_mem_drop hx))
    have := Int.mul_nonneg da.1 this
    omega
  · rw [show i + (8 - i) = 8 by omega] at r4
    have e1 := vl_take_succ (l := a) (k := i) (by omega)
    have e2 := vl_split b (8 - i) (by omega)
    have e3 : pw i * a.getD i 0 * vl b = pw i * (a.getD i 0 * vl (b.take (8 - i))) + pw 8 * (a.getD i 0 * vl (b.drop (8 - i))) := by
      have : pw 8 = pw i * pw (8 - i) := by unfold pw; rw [← Int.pow_add, show i + (8 - i) = 8 by omega]
      rw [this, e2, Int.mul_assoc, Int.mul_add, Int.mul_add, Int.mul_assoc (pw i), ← Int.mul_assoc (a.getD i 0) (pw (8 - i)), Int.mul_comm (a.getD i 0) (pw (8 - i)), Int.mul_assoc (pw (8 - i))]
    rw [e1, Int.add_mul, e3, Int.mul_add, Int.mul_add]
    omega
theorem TimP.done {a b : List Int} {out : List Int} (la : a.length = 8) (h : TimP a b 8 out) (hlt : vl a * vl b < pw 8) : out = dgN 8 (vl a * vl b) := by
  obtain ⟨h1, h2, q, hq, h3⟩ := h
  rw [List.take_of_length_le (by omega)] at h3
  have h4 := vl_nonneg h2
  have : q = 0 := by
    have hp := pw_pos 8
    rcases Int.lt_or_le 0 q with h5 | h5
    · have := Int.mul_le_mul_of_nonneg_left (show 1 ≤ q by omega) (show 0 ≤ pw 8 by omega)
      omega
    · omega
  rw [this, Int.mul_zero, Int.add_zero] at h3
  rw [← h3]
  exact eq_dg h2 h1
end Go.Proofs.Ythknflclfmnciaa
