/- The walk of the law BudgetNew. -/
import Derived.Test.YtodoicilnbfgnaaBud2
namespace Go.Proofs.Ytodoicilnbfgnaa
open Go.RowKit

theorem allowed_yes (n : Int) (w : World) (h0 : 0 ≤ n) (h1 : n ≤ 2147483648) : Calls Try.prog 16 #[.int .i64 n] w fun e w' => e = .returned (.bool true) ∧ w = w' := by
  go_enter Try.func16, Try.ntmps16
  go_wp2
  go_ret
  simp
theorem allowed_no (n : Int) (w : World) (h : n < 0 ∨ 2147483648 < n) : Calls Try.prog 16 #[.int .i64 n] w fun e w' => e = .returned (.bool false) ∧ w = w' := by
  by_cases h0 : 0 ≤ n
  · have h1 : ¬ n ≤ 2147483648 := by omega
    clear h
    go_enter Try.func16, Try.ntmps16
    go_wp2
    go_ret
    simp
  · go_enter Try.func16, Try.ntmps16
    go_wp2
    go_ret
    simp

theorem walk_BudgetNew (w : World) (a0 : Int) (_w0 : I64 a0) : Calls Try.prog 4 #[.int .i64 a0] w fun e w' => e = .returned (.bool true) ∧ Below w.heap.size w w' := by
  by_cases h : 0 ≤ a0 ∧ a0 ≤ 2147483648
  · obtain ⟨h0, h1⟩ := h
    go_enter Try.func4, Try.ntmps4
    go_wp2_with fail
    refine (new_ok a0 _ h0 h1).mono ?_
    rintro e w1 ⟨rfl, rfl⟩
    have hL0 : Led (w.alloc (.cells #[.int .i64 a0, .int .i64 0, .slice none 0 0] 64)) w.heap.size (.slice none 0 0) a0 0 [] := ⟨Blk.new _ _ _, World.ownsRow_nil _ _ _ _⟩
    have hf0 : Below w.heap.size w (w.alloc (.cells #[.int .i64 a0, .int .i64 0, .slice none 0 0] 64)) := (Below.refl _ _).alloc (Nat.le_refl _) _
    generalize w.alloc (.cells #[.int .i64 a0, .int .i64 0, .slice none 0 0] 64) = w1 at *
    go_wp2_with fail
    refine (allowed_yes a0 _ h0 h1).mono ?_
    rintro e w2 ⟨rfl, rfl⟩
    go_wp2_with fail
    refine (hL0.left (by omega) (by omega) (by omega)).mono ?_
    rintro e w2 ⟨rfl, n2, rfl⟩
    go_wp2_with fail
    refine (spent_any _ 0 _ (show (w1.drewN n2).cell? _ = _ from hL0.c1)).mono ?_
    rintro e w3 ⟨rfl, rfl⟩
    go_wp2_with fail
    refine (entries_any w.heap.size _ _ _ _ (w1.drewN n2) hL0 (by simp)).mono ?_
    rintro e w4 ⟨rfl, rfl⟩
    go_wp2_with fail
    refine (lives_any _).mono ?_
    rintro e w5 ⟨rfl, hb5⟩
    have hb : Below w.heap.size w w5 := ((show Below w.heap.size w (w1.drewN n2) from ⟨hf0.os, hf0.tape, hf0.output, hf0.size, hf0.block⟩).alloc hf0.size _).trans (hb5.mono (by have := hf0.size; simp; omega))
    go_wp2_with fail
    go_ret
    exact ⟨rfl, hb⟩
  · go_enter Try.func4, Try.ntmps4
    go_wp2_with fail
    refine (new_bad a0 _ (by omega)).mono ?_
    rintro e w1 ⟨rfl, rfl⟩
    go_wp2_with fail
    refine (allowed_no a0 _ (by omega)).mono ?_
    rintro e w2 ⟨rfl, rfl⟩
    go_wp2_with fail
    refine (lives_any _).mono ?_
    rintro e w5 ⟨rfl, hb5⟩
    go_wp2_with fail
    go_ret
    exact ⟨rfl, hb5⟩
end Go.Proofs.Ytodoicilnbfgnaa
