
/- hash: Bytes, walked the kit's way. -/
import Derived.Test.YtebfhljamoapjaaDoorHt
import Derived.RangeFuncBox
import Derived.RangeFuncNested
import Derived.RangeFuncBound
import Derived.RangeFuncCalls
import Derived.RangeFuncLeaves
import Derived.RangeFuncFrom
import Derived.Shelf.Abstract
import Derived.Shelf.RegionOpen
import Derived.WalkKit
import Derived.OwnWalkIn
import Derived.TacticsInMore
import Derived.LoopNIn
import Derived.LoopIn
import Derived.Lib.Hide
import Derived.Maps.AppendAt
namespace Go.Proofs.YtebfhljamoapjaaDoor
open Go.RowKit Go.Shelf
attribute [local go_sem] Oper.semAt_some
set_option linter.unusedVariables false
set_option linter.unusedSimpArgs false

theorem groupsB_any (a : Option Addr) (n c : Nat) (w : World) : Calls Tryd.prog 35 #[.slice a n c] w fun e w' => e = .returned (.func (.func 46) #[] #[.pointer (some ⟨w.heap.size, 0, none⟩)]) ∧ w' = w.alloc (.cells #[.slice a n c] 39) := by
  go_enter Tryd.func35, Tryd.ntmps35
  go_wp2
  go_ret
  exact ⟨rfl, rfl⟩
/-- The bytes of a word, as they are gathered. -/
def bAcc (zs : List Int) (i : Nat) : Nat → Int
  | 0 => 0
  | k + 1 => bits BinOp.or IntKind.u64 (bAcc zs i k) (IntKind.u64.wrap (IntKind.u64.wrap (zs.getD (i + k) 0) * 2 ^ (8 * k)))
def bWord (zs : List Int) (i : Nat) : Int := bAcc zs i (min 8 (zs.length - i))
def bWords (zs : List Int) : List Int := (List.range ((zs.length + 7) / 8)).map fun k => bWord zs (8 * k)
theorem bWords_len (zs : List Int) : (bWords zs).length = (zs.length + 7) / 8 := by simp [bWords]
/-- What a round keeps: what lay below, and the iterator's own cell. -/
def KeepN (n₀ B : Nat) (W W' : World) : Prop := Below n₀ W W' ∧ KeepB B W W'
set_option maxRecDepth 100000 in
set_option maxHeartbeats 2000000 in
theorem groupsB1_in (l B n₀ b off c : Nat) (zs : List Int) (hs : zs.length ≤ 1000000) (hb : b < n₀) (J Jx : List Int → World → Prop)
    (hY : ∀ pre x W, J pre W → pre.length < (bWords zs).length → YieldAt Fence.wide (3 - 1) Tryd.prog l #[.int .u64 x] W fun e W' =>
      (e = .returned (.bool true) ∧ J (pre ++ [x]) W' ∧ KeepN n₀ B W W') ∨ (e = .returned (.bool false) ∧ Jx (pre ++ [x]) W'))
    (W : World) (hBn : W.cell? ⟨B, 0, none⟩ = some (.slice (some ⟨b, off, none⟩) zs.length c)) (hz : ∀ (k : Nat) (x : Int), zs[k]? = some x → W.cell? ⟨b, off + k, none⟩ = some (.int .u8 x)) (h0 : J [] W) :
    CallsIn Fence.wide 3 Tryd.prog 46 #[.func (.yield l) #[] #[], .pointer (some ⟨B, 0, none⟩)] W fun e W' => (∃ v, e = .returned v) ∧
      ((∃ ys, ys = bWords zs ∧ J ys W') ∨ (∃ pre, pre <+: bWords zs ∧ Jx pre W')) := by
  refine callsIn_of_wp Tryd.func46 rfl trivial ?_ rfl
  simp only [Tryd.ntmps46, List.size_toArray, List.length_cons, List.length_nil, Nat.reduceAdd, Nat.reduceSub, Array.replicate_succ, Array.replicate_zero, List.push_toArray, List.append_toArray, List.nil_append, List.cons_append]
  gi_wp2
  gi_loopw [3] (fun p wr => ∃ k : Nat, p = .int .i64 (8 * (k : Int)) ∧ k ≤ (zs.length + 7) / 8 ∧ J ((bWords zs).take k) wr ∧ wr.cell? ⟨B, 0, none⟩ = some (.slice (some ⟨b, off, none⟩) zs.length c) ∧ (∀ (k : Nat) (x : Int), zs[k]? = some x → wr.cell? ⟨b, off + k, none⟩ = some (.int .u8 x)))
    (fun p wr => zs.length + 8 - (intOf p).toNat)
  case atStart =>
    exact ⟨0, rfl, Nat.zero_le _, by simpa using h0, hBn, hz⟩
  case round =>
    obtain ⟨k, rfl, hk, hJk, hc, hz2⟩ := hrel
    by_cases hlt : 8 * k < zs.length
    case neg =>
      have hlt' : ¬ (8 * (k : Int) < (zs.length : Int)) := by omega
      gi_wp2
      go_end0
      have hkk : k = (zs.length + 7) / 8 := by omega
      refine ⟨⟨_, rfl⟩, .inl ?_⟩
      rw [List.take_of_length_le (by rw [bWords_len]; omega)] at hJk
      exact hJk
    case pos =>
      have hlt' : 8 * (k : Int) < (zs.length : Int) := by omega
      gi_wp2
      gi_loopw [4, 5] (fun q j wr' => ∃ m : Nat, q = .int .u64 (bAcc zs (8 * k) m) ∧ j = .int .i64 (8 * (k : Int) + (m : Int)) ∧ m ≤ min 8 (zs.length - 8 * k) ∧ wr' = wr)
        (fun q j wr' => zs.length + 8 - (intOf j).toNat)
      case atStart =>
        exact ⟨0, rfl, by simp, Nat.zero_le _, rfl⟩
      case round =>
        obtain ⟨m, rfl, rfl, hm, rfl⟩ := hrel
        by_cases hm2 : m < min 8 (zs.length - 8 * k)
        case pos =>
          have g1 : 8 * (k : Int) + (m : Int) < (zs.length : Int) := by omega
          have g2 : 8 * (k : Int) + (m : Int) < 8 * (k : Int) + 8 := by omega
          have hck : wr.cell? ⟨b, off + (8 * k + m), none⟩ = some (.int .u8 (zs.getD (8 * k + m) 0)) := hz2 _ _ (by rw [List.getD_eq_getElem?_getD, List.getElem?_eq_getElem (by omega)]; rfl)
          gi_wp2
          go_roundw
          case rel =>
            refine ⟨m + 1, ?_, ?_, by omega, trivial⟩
            · simp only [bAcc, List.getD_eq_getElem?_getD]
            · rw [show 8 * (k : Int) + (m : Int) + 1 = 8 * (k : Int) + ((m + 1 : Nat) : Int) by omega]
          case measure =>
            simp only [intOf]
            omega
        case neg =>
          have hme : m = min 8 (zs.length - 8 * k) := by omega
          have hg1 : ¬ (8 * (k : Int) + (m : Int) < (zs.length : Int)) ∨ ¬ (8 * (k : Int) + (m : Int) < 8 * (k : Int) + 8) := by omega
          have hx : bAcc zs (8 * k) m = bWord zs (8 * k) := by rw [hme]; rfl
          have hkl : k < (bWords zs).length := by rw [bWords_len]; omega
          obtain ⟨fn, tmps, assign, body, hy, hR⟩ := hY ((bWords zs).take k) (bAcc zs (8 * k) m) wr hJk (by simp; omega)
          have htk : (bWords zs).take k ++ [bAcc zs (8 * k) m] = (bWords zs).take (k + 1) := by
            rw [List.take_add_one, List.getElem?_eq_getElem hkl, hx]
            simp [bWords]
          rw [htk] at hR
          clear hx htk
          by_cases hg2 : 8 * (k : Int) + (m : Int) < (zs.length : Int)
          · have hg3 : ¬ (8 * (k : Int) + (m : Int) < 8 * (k : Int) + 8) := by omega
            clear hme
            gi_wp2
            refine hR.mono ?_
            rintro e W3 (⟨rfl, hJ3, hk3⟩ | ⟨rfl, hJx3⟩)
            · have hc3 := hk3.2.trans hc
              gi_wp2
              go_roundw
              case rel => exact ⟨k + 1, by rw [show 8 * (k : Int) + 8 = 8 * ((k + 1 : Nat) : Int) by omega], by omega, hJ3, hc3, fun k x hx => (hk3.1.cell (p := ⟨b, off + k, none⟩) hb).trans (hz2 k x hx)⟩
              case measure =>
                simp only [intOf]
                omega
            · gi_wp2
              refine bodyPost_ret (results_none rfl _ _ _) rfl ?_
              exact ⟨⟨_, rfl⟩, .inr ⟨_, List.take_prefix _ _, hJx3⟩⟩
          · clear hme
            gi_wp2
            refine hR.mono ?_
            rintro e W3 (⟨rfl, hJ3, hk3⟩ | ⟨rfl, hJx3⟩)
            · have hc3 := hk3.2.trans hc
              gi_wp2
              go_roundw
              case rel => exact ⟨k + 1, by rw [show 8 * (k : Int) + 8 = 8 * ((k + 1 : Nat) : Int) by omega], by omega, hJ3, hc3, fun k x hx => (hk3.1.cell (p := ⟨b, off + k, none⟩) hb).trans (hz2 k x hx)⟩
              case measure =>
                simp only [intOf]
                omega
            · gi_wp2
              refine bodyPost_ret (results_none rfl _ _ _) rfl ?_
              exact ⟨⟨_, rfl⟩, .inr ⟨_, List.take_prefix _ _, hJx3⟩⟩
theorem groupsB1_stops (B n₀ b off c : Nat) (zs : List Int) (hs : zs.length ≤ 1000000) (w : World) (hb : b < n₀) (hn : n₀ ≤ w.heap.size) (hBw : B < w.heap.size) (hBn : w.cell? ⟨B, 0, none⟩ = some (.slice (some ⟨b, off, none⟩) zs.length c)) (hz : ∀ (k : Nat) (x : Int), zs[k]? = some x → w.cell? ⟨b, off + k, none⟩ = some (.int .u8 x)) :
    SeqStopsK Fence.wide 3 Tryd.prog 46 #[.pointer (some ⟨B, 0, none⟩)] (fun x : Int => #[.int .u64 x]) (KeepN n₀ B) (fun xs => xs = bWords zs) (fun pre => pre <+: bWords zs) (bWords zs).length w := by
  intro l J Jx W hW hJ hJx hY h0
  exact groupsB1_in l B n₀ b off c zs hs hb J Jx hY W ((hW.cell (p := ⟨B, 0, none⟩) hBw).trans hBn) (fun k x hx => (hW.cell (p := ⟨b, off + k, none⟩) (by show b < w.heap.size; omega)).trans (hz k x hx)) h0
end Go.Proofs.YtebfhljamoapjaaDoor
