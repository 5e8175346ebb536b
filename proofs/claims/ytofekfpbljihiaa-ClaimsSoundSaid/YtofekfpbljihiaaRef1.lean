/- Contracts of intervalmonref01.Around. -/
import Derived.Test.YtofekfpbljihiaaProg
import Derived.Test.YtofekfpbljihiaaMem
import Derived.WalkKit
import Derived.Lib.Hide
import Derived.Deep.QuietTactic
import Derived.BigQuiet
import Derived.Outline
namespace Go.Proofs.Ytofekfpbljihiaa
open Go.RowKit

/-- What Around returns: n modulo m, never negative. -/
def arnd (n m : Int) : Int := (if n < 0 then -(n + 1) else n) % m
theorem arnd_nn (n m : Int) (h : 1 ≤ m) : 0 ≤ arnd n m := Int.emod_nonneg _ (by omega)
theorem arnd_lt (n m : Int) (h : 1 ≤ m) : arnd n m < m := Int.emod_lt_of_pos _ (by omega)

theorem around_any (n m : Int) (w : World) (hn : I64 n) (hm : 1 ≤ m) (hm2 : m ≤ 9223372036854775807) :
    Calls Try.prog 19 #[.int .i64 n, .int .i64 m] w fun e w' => e = .returned (.int .i64 (arnd n m)) ∧ w' = w := by
  obtain ⟨h0, h1⟩ := hn
  by_cases h : n < 0
  · have e : arnd n m = -(n + 1).tmod m := by
      rw [← Int.neg_tmod, Int.tmod_eq_emod_of_nonneg (by omega)]
      simp [arnd, h]
    have E := Lib.hid e
    clear e
    go_enter Try.func19, Try.ntmps19
    go_wp2
    go_ret
    rw [E.out]
    exact ⟨rfl, rfl⟩
  · have e : arnd n m = n % m := by simp [arnd, h]
    have E := Lib.hid e
    clear e
    go_enter Try.func19, Try.ntmps19
    go_wp2
    go_ret
    rw [E.out]
    exact ⟨rfl, rfl⟩
end Go.Proofs.Ytofekfpbljihiaa
