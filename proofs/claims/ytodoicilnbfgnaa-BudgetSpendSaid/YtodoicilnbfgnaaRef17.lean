/- Contracts of intervalmonref17. -/
import Derived.Test.YtodoicilnbfgnaaRef1
import Derived.Test.YtodoicilnbfgnaaBud2
import Derived.Deep.RegionHeld3
import Derived.Deep.DeepCutAuto
namespace Go.Proofs.Ytodoicilnbfgnaa
open Go.RowKit

def stepL : List ByteArray := [⟨#[113, 117, 97, 110, 116, 105, 115, 101, 100]⟩, ⟨#[116, 104, 105, 110, 110, 101, 100]⟩, ⟨#[114, 111, 108, 108, 101, 100]⟩, ⟨#[114, 101, 116, 97, 105, 110, 101, 100]⟩, ⟨#[120]⟩, ⟨#[]⟩,
  ⟨#[49, 50, 51, 52, 53, 54, 55, 56, 57, 48, 49, 50, 51, 52, 53, 54, 55]⟩, ⟨#[49, 50, 51, 52, 53, 54, 55, 56, 57, 48, 49, 50, 51, 52, 53, 54]⟩]
def stepOf (n : Int) : ByteArray := stepL.getD (arnd n 8).toNat ByteArray.empty
def stepObj : Obj := .cells (stepL.map Value.string).toArray 9

theorem step_any (n : Int) (w : World) (hn : I64 n) :
    Calls Try.prog 21 #[.int .i64 n] w fun e w' => e = .returned (.string (stepOf n)) ∧ w' = w.alloc stepObj := by
  have h0 := arnd_nn n 8 (by omega)
  have h1 := arnd_lt n 8 (by omega)
  go_enter Try.func21, Try.ntmps21
  go_wp2_with fail
  refine (around_any n 8 _ hn (by omega) (by omega)).mono ?_
  rintro e w1 ⟨rfl, rfl⟩
  have hs : Hid (stepOf n = stepL.getD (arnd n 8).toNat ByteArray.empty) := Lib.hid rfl
  generalize arnd n 8 = k at *
  obtain ⟨j, rfl⟩ := Int.eq_ofNat_of_zero_le h0
  have hj : j < 8 := by omega
  rcases (show j = 0 ∨ j = 1 ∨ j = 2 ∨ j = 3 ∨ j = 4 ∨ j = 5 ∨ j = 6 ∨ j = 7 by omega) with rfl | rfl | rfl | rfl | rfl | rfl | rfl | rfl
  all_goals
    go_wp2
    go_ret
    rw [hs.out]
    exact ⟨rfl, rfl⟩

def total (es : List (ByteArray × Int)) : Int := (es.map (·.2)).sum
theorem total_nil : total [] = 0 := rfl
theorem total_app (es fs : List (ByteArray × Int)) : total (es ++ fs) = total es + total fs := by simp [total]
theorem total_one (s : ByteArray) (c : Int) : total [(s, c)] = c := by simp [total]
theorem total_nn (es : List (ByteArray × Int)) (h : ∀ e ∈ es, 0 ≤ e.2) : 0 ≤ total es := by
  induction es with
  | nil => simp [total]
  | cons e r ih =>
    have := ih (fun x hx => h x (by simp [hx]))
    have := h e (by simp)
    simp [total] at *
    omega
theorem total_take (es : List (ByteArray × Int)) (k : Nat) (h : ∀ e ∈ es, 0 ≤ e.2) : 0 ≤ total (es.take k) ∧ total (es.take k) ≤ total es := by
  have h1 := total_nn (es.take k) (fun e he => h e (List.mem_of_mem_take he))
  have h2 := total_nn (es.drop k) (fun e he => h e (List.mem_of_mem_drop he))
  have h3 := total_app (es.take k) (es.drop k)
  rw [List.take_append_drop] at h3
  omega
theorem total_snoc (es : List (ByteArray × Int)) (k : Nat) (h : k < es.length) : total (es.take (k + 1)) = total (es.take k) + es[k].2 := by
  rw [List.take_succ_eq_append_getElem h, total_app]
  congr 1
  simp [total]

theorem entCells_at (es : List (ByteArray × Int)) (k : Nat) (h : k < es.length) : (entCells es)[k * 2]? = some (.string es[k].1) ∧ (entCells es)[k * 2 + 1]? = some (.int .i64 es[k].2) := by
  induction es generalizing k with
  | nil => simp at h
  | cons e r ih =>
    cases k with
    | zero => simp [entCells]
    | succ k =>
      have := ih k (by simpa using h)
      have e1 : (k + 1) * 2 = k * 2 + 2 := by omega
      rw [e1]
      simpa [entCells] using this

/-- The entries of a ledger: allowed steps and costs, within the budget. -/
structure Good (bud : Int) (es : List (ByteArray × Int)) : Prop where
  ent : ∀ e ∈ es, 0 ≤ e.2 ∧ 1 ≤ e.1.size ∧ e.1.size ≤ 16
  sum : total es ≤ bud
  top : bud ≤ 2147483648
  few : es.length ≤ 1000
theorem Good.nn {bud : Int} {es : List (ByteArray × Int)} (h : Good bud es) : ∀ e ∈ es, 0 ≤ e.2 := fun e he => (h.ent e he).1

theorem ref_spent (bud : Int) (v : Value) (es : List (ByteArray × Int)) (w : World) (h : Sl w 2 v es.length (entCells es)) (hg : Good bud es) :
    Calls Try.prog 10 #[.agg #[.int .i64 bud, v]] w fun e w' => e = .returned (.int .i64 (total es)) ∧ w' = w.alloc (.cells #[.int .i64 bud, v] 25) := by
  obtain ⟨A, c, rfl, h1, h2, h3, h4⟩ := h
  have hf := hg.few
  have ht := hg.top
  have hsm := hg.sum
  have H4 := Lib.hid h4
  clear h4 h3
  go_enter Try.func10, Try.ntmps10
  go_wp2
  go_loop [3, 4] (fun t i => ∃ k : Nat, k ≤ es.length ∧ i = .int .i64 k ∧ t = .int .i64 (total (es.take k))) (fun _ i => es.length - (intOf i).toNat)
  case atStart => exact ⟨0, Nat.zero_le _, rfl, rfl⟩
  case round =>
    obtain ⟨k, hk, rfl, rfl⟩ := hrel
    have hb1 := total_take es k hg.nn
    by_cases hlt : k < es.length
    · have hb2 := total_take es (k + 1) hg.nn
      have hsn := total_snoc es k hlt
      have Hsn := Lib.hid hsn
      obtain ⟨b, off, rfl, hb, hc⟩ := H4.out (by omega)
      have hc1 := hc (k * 2 + 1) _ (entCells_at es k hlt).2
      clear hc
      rw [← Nat.add_assoc] at hc1
      obtain ⟨q, hq⟩ : ∃ q, q = es[k].2 := ⟨_, rfl⟩
      have hq0 := hg.nn es[k] (List.getElem_mem hlt)
      rw [← hq] at hc1 hsn Hsn hq0
      have hb3 : 0 ≤ q ∧ q ≤ 2147483648 := by omega
      clear hsn hq
      go_wp2
      go_round
      case rel => exact ⟨k + 1, by omega, by go_num, by rw [Hsn.out]⟩
      case measure => simp [intOf]; omega
    · go_wp2
      go_ret
      rw [List.take_of_length_le (by omega)]
      exact ⟨rfl, rfl⟩
end Go.Proofs.Ytodoicilnbfgnaa
