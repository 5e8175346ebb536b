
/- hash: mix, groups, walked the kit's way. -/
import Derived.Test.YtebfhljamoapjaaDoorProg
import Derived.Test.YtebfhljamoapjaaDoorMem
import Derived.RangeFuncNested
import Derived.RangeFuncBound
import Derived.RangeFuncCalls
import Derived.RangeFuncLeaves
import Derived.RangeFuncFrom
import Derived.Shelf.Abstract
import Derived.Shelf.RegionOpen
import Derived.WalkKit
import Derived.OwnWalkIn
import Derived.TacticsInMore
import Derived.LoopNIn
import Derived.LoopIn
import Derived.Lib.Hide
namespace Go.Proofs.YtebfhljamoapjaaDoor
open Go.RowKit Go.Shelf
attribute [local go_sem] Oper.semAt_some
set_option linter.unusedVariables false
set_option linter.unusedSimpArgs false

def mixM (s x : Int) : Int := IntKind.u64.wrap (bits BinOp.xor IntKind.u64 s x * 11400714819323198485)
def mixV (s x : Int) : Int := bits BinOp.xor IntKind.u64 (mixM s x) (mixM s x / 4294967296)
theorem mix_any (s x : Int) (w : World) : Calls Tryd.prog 48 #[.int .u64 s, .int .u64 x] w fun e w' => e = .returned (.int .u64 (mixV s x)) ∧ w' = w := by
  go_enter Tryd.func48, Tryd.ntmps48
  go_wp2
  go_ret
  exact ⟨rfl, rfl⟩
theorem groups_any (s : ByteArray) (w : World) : Calls Tryd.prog 47 #[.string s] w fun e w' => e = .returned (.func (.func 66) #[] #[.pointer (some ⟨w.heap.size, 0, none⟩)]) ∧ w' = w.alloc (.cells #[.string s] 9) := by
  go_enter Tryd.func47, Tryd.ntmps47
  go_wp2
  go_ret
  exact ⟨rfl, rfl⟩
/-- The bytes of a word, as they are gathered. -/
def byteN (s : ByteArray) (j : Nat) : Nat := if h : j < s.size then s[j].toNat else 0
def wAcc (s : ByteArray) (i : Nat) : Nat → Int
  | 0 => 0
  | k + 1 => bits BinOp.or IntKind.u64 (wAcc s i k) (IntKind.u64.wrap (IntKind.u64.wrap (byteN s (i + k) : Int) * 2 ^ (8 * k)))
def wordN (s : ByteArray) (i : Nat) : Int := wAcc s i (min 8 (s.size - i))
def wordsL (s : ByteArray) : List Int := (List.range ((s.size + 7) / 8)).map fun k => wordN s (8 * k)
/-- The cell of the iterator's own stays. -/
def KeepB (B : Nat) (W W' : World) : Prop := W'.cell? ⟨B, 0, none⟩ = W.cell? ⟨B, 0, none⟩
theorem wordsL_len (s : ByteArray) : (wordsL s).length = (s.size + 7) / 8 := by simp [wordsL]
set_option maxRecDepth 100000 in
set_option maxHeartbeats 2000000 in
theorem groups1_in (l B : Nat) (s : ByteArray) (hs : s.size ≤ 1000000) (J Jx : List Int → World → Prop)
    (hY : ∀ pre x W, J pre W → pre.length < (wordsL s).length → YieldAt Fence.wide (3 - 1) Tryd.prog l #[.int .u64 x] W fun e W' =>
      (e = .returned (.bool true) ∧ J (pre ++ [x]) W' ∧ KeepB B W W') ∨ (e = .returned (.bool false) ∧ Jx (pre ++ [x]) W'))
    (W : World) (hBn : W.cell? ⟨B, 0, none⟩ = some (.string s)) (h0 : J [] W) :
    CallsIn Fence.wide 3 Tryd.prog 66 #[.func (.yield l) #[] #[], .pointer (some ⟨B, 0, none⟩)] W fun e W' => (∃ v, e = .returned v) ∧
      ((∃ ys, ys = wordsL s ∧ J ys W') ∨ (∃ pre, pre <+: wordsL s ∧ Jx pre W')) := by
  refine callsIn_of_wp Tryd.func66 rfl trivial ?_ rfl
  simp only [Tryd.ntmps66, List.size_toArray, List.length_cons, List.length_nil, Nat.reduceAdd, Nat.reduceSub, Array.replicate_succ, Array.replicate_zero, List.push_toArray, List.append_toArray, List.nil_append, List.cons_append]
  gi_wp2
  gi_loopw [3] (fun p wr => ∃ k : Nat, p = .int .i64 (8 * (k : Int)) ∧ k ≤ (s.size + 7) / 8 ∧ J ((wordsL s).take k) wr ∧ wr.cell? ⟨B, 0, none⟩ = some (.string s))
    (fun p wr => s.size + 8 - (intOf p).toNat)
  case atStart =>
    exact ⟨0, rfl, Nat.zero_le _, by simpa using h0, hBn⟩
  case round =>
    obtain ⟨k, rfl, hk, hJk, hc⟩ := hrel
    by_cases hlt : 8 * k < s.size
    case neg =>
      have hlt' : ¬ (8 * (k : Int) < (s.size : Int)) := by omega
      gi_wp2
      go_end0
      have hkk : k = (s.size + 7) / 8 := by omega
      refine ⟨⟨_, rfl⟩, .inl ?_⟩
      rw [List.take_of_length_le (by rw [wordsL_len]; omega)] at hJk
      exact hJk
    case pos =>
      have hlt' : 8 * (k : Int) < (s.size : Int) := by omega
      gi_wp2
      gi_loopw [4, 5] (fun q j wr' => ∃ m : Nat, q = .int .u64 (wAcc s (8 * k) m) ∧ j = .int .i64 (8 * (k : Int) + (m : Int)) ∧ m ≤ min 8 (s.size - 8 * k) ∧ wr' = wr)
        (fun q j wr' => s.size + 8 - (intOf j).toNat)
      case atStart =>
        exact ⟨0, rfl, by simp, Nat.zero_le _, rfl⟩
      case round =>
        obtain ⟨m, rfl, rfl, hm, rfl⟩ := hrel
        by_cases hm2 : m < min 8 (s.size - 8 * k)
        case pos =>
          have g1 : 8 * (k : Int) + (m : Int) < (s.size : Int) := by omega
          have g2 : 8 * (k : Int) + (m : Int) < 8 * (k : Int) + 8 := by omega
          gi_wp2
          go_roundw
          case rel =>
            refine ⟨m + 1, ?_, ?_, by omega, trivial⟩
            · simp only [wAcc, byteN]
              rw [dif_pos (by omega)]
            · rw [show 8 * (k : Int) + (m : Int) + 1 = 8 * (k : Int) + ((m + 1 : Nat) : Int) by omega]
          case measure =>
            simp only [intOf]
            omega
        case neg =>
          have hme : m = min 8 (s.size - 8 * k) := by omega
          have hg1 : ¬ (8 * (k : Int) + (m : Int) < (s.size : Int)) ∨ ¬ (8 * (k : Int) + (m : Int) < 8 * (k : Int) + 8) := by omega
          have hx : wAcc s (8 * k) m = wordN s (8 * k) := by rw [hme]; rfl
          have hkl : k < (wordsL s).length := by rw [wordsL_len]; omega
          obtain ⟨fn, tmps, assign, body, hy, hR⟩ := hY ((wordsL s).take k) (wAcc s (8 * k) m) wr hJk (by simp; omega)
          have htk : (wordsL s).take k ++ [wAcc s (8 * k) m] = (wordsL s).take (k + 1) := by
            rw [List.take_add_one, List.getElem?_eq_getElem hkl, hx]
            simp [wordsL]
          rw [htk] at hR
          clear hx htk
          by_cases hg2 : 8 * (k : Int) + (m : Int) < (s.size : Int)
          · have hg3 : ¬ (8 * (k : Int) + (m : Int) < 8 * (k : Int) + 8) := by omega
            clear hme
            gi_wp2
            refine hR.mono ?_
            rintro e W3 (⟨rfl, hJ3, hk3⟩ | ⟨rfl, hJx3⟩)
            · have hc3 : W3.cell? ⟨B, 0, none⟩ = some (.string s) := hk3.trans hc
              gi_wp2
              go_roundw
              case rel => exact ⟨k + 1, by rw [show 8 * (k : Int) + 8 = 8 * ((k + 1 : Nat) : Int) by omega], by omega, hJ3, hc3⟩
              case measure =>
                simp only [intOf]
                omega
            · gi_wp2
              refine bodyPost_ret (results_none rfl _ _ _) rfl ?_
              exact ⟨⟨_, rfl⟩, .inr ⟨_, List.take_prefix _ _, hJx3⟩⟩
          · clear hme
            gi_wp2
            refine hR.mono ?_
            rintro e W3 (⟨rfl, hJ3, hk3⟩ | ⟨rfl, hJx3⟩)
            · have hc3 : W3.cell? ⟨B, 0, none⟩ = some (.string s) := hk3.trans hc
              gi_wp2
              go_roundw
              case rel => exact ⟨k + 1, by rw [show 8 * (k : Int) + 8 = 8 * ((k + 1 : Nat) : Int) by omega], by omega, hJ3, hc3⟩
              case measure =>
                simp only [intOf]
                omega
            · gi_wp2
              refine bodyPost_ret (results_none rfl _ _ _) rfl ?_
              exact ⟨⟨_, rfl⟩, .inr ⟨_, List.take_prefix _ _, hJx3⟩⟩
theorem groups1_stops (B : Nat) (s : ByteArray) (hs : s.size ≤ 1000000) (w : World) (hBw : B < w.heap.size) (hBn : w.cell? ⟨B, 0, none⟩ = some (.string s)) :
    SeqStopsK Fence.wide 3 Tryd.prog 66 #[.pointer (some ⟨B, 0, none⟩)] (fun x : Int => #[.int .u64 x]) (KeepB B) (fun xs => xs = wordsL s) (fun pre => pre <+: wordsL s) (wordsL s).length w := by
  intro l J Jx W hW hJ hJx hY h0
  exact groups1_in l B s hs J Jx hY W ((hW.cell (p := ⟨B, 0, none⟩) hBw).trans hBn) h0
end Go.Proofs.YtebfhljamoapjaaDoor
