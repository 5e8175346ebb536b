
/- hash: Sum, walked the kit's way. -/
import Derived.Test.YtebfhljamoapjaaDoorHs
import Derived.RangeFuncNested
import Derived.RangeFuncBound
import Derived.RangeFuncCalls
import Derived.RangeFuncLeaves
import Derived.RangeFuncFrom
import Derived.Shelf.Abstract
import Derived.Shelf.RegionOpen
import Derived.WalkKit
import Derived.OwnWalkIn
import Derived.TacticsInMore
import Derived.LoopNIn
import Derived.LoopIn
import Derived.Lib.Hide
namespace Go.Proofs.YtebfhljamoapjaaDoor
open Go.RowKit Go.Shelf
attribute [local go_sem] Oper.semAt_some
set_option linter.unusedVariables false
set_option linter.unusedSimpArgs false

theorem cellN (W : World) (v : Value) (t : TypeId) : (W.alloc (.cells #[v] t)).cell? ⟨W.heap.size, 0, none⟩ = some v ∧ (W.alloc (.cells #[v] t)).frozen? ⟨W.heap.size, 0, none⟩ = false := by
  have h : Blk (W.alloc (.cells #[v] t)) W.heap.size t #[v] := Blk.new W t #[v]
  exact ⟨h.cell 0, h.frozen 0⟩
theorem cellA {W : World} {a : Addr} {v : Value} (o : Obj) (h : W.cell? a = some v) : (W.alloc o).cell? a = some v := cell_kept h (World.grownBy_alloc W o none) (fun r e => by cases e)
theorem frozenA {W : World} {a : Addr} {v : Value} (o : Obj) (h : W.cell? a = some v) (hf : W.frozen? a = false) : (W.alloc o).frozen? a = false := (frozen_kept h (World.grownBy_alloc W o none) (fun r e => by cases e)).trans hf
def sum1 (s : ByteArray) (n : Nat) : Int := mixV (mixV ((wordsL s).foldl mixV 0) (s.size : Int)) (n : Int)
def sum2 (s : ByteArray) (n : Nat) (ws : List Int) (k : Nat) : Int := (ws.take k).foldl (fun a x => mixV a (IntKind.u64.wrap x)) (sum1 s n)
theorem sum2_succ (s : ByteArray) (n : Nat) (ws : List Int) (k : Nat) (h : k < ws.length) : sum2 s n ws (k + 1) = mixV (sum2 s n ws k) (IntKind.u64.wrap ws[k]) := by
  unfold sum2
  rw [List.take_add_one, List.getElem?_eq_getElem h, List.foldl_append]
  rfl
def sumV (s : ByteArray) (ws : List Int) : Int := mixV (sum2 s ws.length ws ws.length) 0
set_option maxRecDepth 100000 in
set_option maxHeartbeats 4000000 in
theorem sum_any (s : ByteArray) (hs : s.size ≤ 1000000) (b off c : Nat) (ws : List Int) (w : World) (hb : b < w.heap.size) (hcell : ∀ (k : Nat) (x : Int), ws[k]? = some x → w.cell? ⟨b, off + k, none⟩ = some (.int .i64 x)) (hl : ws.length ≤ 1000000) :
    Calls Tryd.prog 36 #[.string s, .slice (some ⟨b, off, none⟩) ws.length c] w fun e W' => e = .returned (.int .u64 (sumV s ws)) ∧ Below w.heap.size w W' := by
  refine (callsIn_wide (n := 4)).1 ?_
  refine callsIn_of_wp_marks Tryd.func36 rfl trivial ?_ rfl
  simp only [Tryd.ntmps36, List.size_toArray, List.length_cons, List.length_nil, Nat.reduceAdd, Nat.reduceSub, Array.replicate_succ, Array.replicate_zero, List.push_toArray, List.append_toArray, List.nil_append, List.cons_append]
  gi_wp2_with (refine ⟨trivial, ?_⟩; gi_at_call 47; refine (callsIn_wide.2 (groups_any s _)).mono ?_; rintro e w' ⟨rfl, rfl⟩)
  have hs0 := cellN w (.int .u64 0) 37
  have hb0 := cellN (w.alloc (.cells #[.int .u64 0] 37)) (.string s) 9
  rw [World.size_alloc] at hb0
  have hB0 : Below w.heap.size w ((w.alloc (.cells #[.int .u64 0] 37)).alloc (.cells #[.string s] 9)) := ((Below.refl _ w).alloc (Nat.le_refl _) _).alloc (by simp) _
  refine wpIn_rangeFunc_ownF (α := Int) rfl (by omega) (gf := 66) (lb := #[.pointer (some ⟨w.heap.size + 1, 0, none⟩)]) rfl trivial (enters_of Tryd.func66 (by kernel_rfl) rfl)
    (groups1_stops (w.heap.size + 1) s hs _ (by simp) hb0.1) (fun h k => k.trans h) (fun W l o o' hl _ _ _ => by
      have hl' : w.heap.size + 1 + 1 ≤ l := by simpa using hl
      exact World.cell?_of_block (World.putObj_heap_other (show w.heap.size + 1 ≠ l by omega))) (Below.refl _ _) (fun _ => rfl)
    (fun pre W => (W.cell? ⟨w.heap.size, 0, none⟩ = some (.int .u64 (pre.foldl mixV 0)) ∧ W.frozen? ⟨w.heap.size, 0, none⟩ = false) ∧ Below w.heap.size w W)
    (fun _ _ _ => False)
    (OwnFrom.and (Own.from (fun s A B row hs hg hr => ⟨cell_kept hs.1 hg hr, (frozen_kept hs.1 hg hr).trans hs.2⟩) _) (ownFrom_below (Nat.le_refl _) (by simp; omega)))
    (fun _ _ _ _ _ hs _ _ => hs)
    ⟨⟨cellA _ hs0.1, frozenA _ hs0.1 hs0.2⟩, hB0⟩
    (fun x => { tmps := #[.string s, .slice (some ⟨b, off, none⟩) ws.length c, undef, undef, .int .u64 0, .pointer (some ⟨w.heap.size, 0, none⟩), .int .u64 x, undef, undef, .string s, .func (.func 66) #[] #[.pointer (some ⟨w.heap.size + 1, 0, none⟩)], .int .u64 x, undef, undef, undef, undef, undef, undef, undef, undef, undef, undef, undef, undef, undef, undef, undef, undef, undef, undef, undef, undef, undef, undef, undef, undef, undef, undef], defers := [] }) ?assign ?body ?done ?stop
  case assign =>
    intro l x W K hK
    gi_wp2
    exact hK
  case body =>
    rintro l pre x W ⟨⟨hc, hf⟩, hB⟩ _
    gi_wp2_with (refine ⟨trivial, ?_⟩; gi_at_call 48; refine (CallsIn.inRound l (callsIn_wide.2 (mix_any _ _ _))).mono ?_; rintro e w' ⟨rfl, rfl⟩)
    exact ⟨KeepsOthers.setCell _ _ _, World.cell?_of_block (Below.heap_setCell w' ⟨w.heap.size, 0, none⟩ _ (w.heap.size + 1) (by simp)), ⟨by rw [List.foldl_append]; exact World.cell?_setCell_same' _ _ _ (by rw [hc]; rfl), by rw [World.frozen?_setCell]; exact hf⟩, hB.setCell (p := ⟨w.heap.size, 0, none⟩) (Nat.le_refl _) _⟩
  case done =>
    rintro D ys W hD rfl ⟨⟨hc, hf⟩, hB⟩ hK
    gi_wp2_with (refine ⟨trivial, ?_⟩; gi_at_call 48; refine (callsIn_wide.2 (mix_any _ _ _)).mono ?_; rintro e w' ⟨rfl, rfl⟩)
    have hk1 := (KeepsOthers.setCell w' ⟨w.heap.size, 0, none⟩ (Value.int IntKind.u64 (mixV (List.foldl mixV 0 (wordsL s)) s.size))).same D _ hK rfl
    have hk2 := (KeepsOthers.setCell (w'.setCell ⟨w.heap.size, 0, none⟩ (Value.int IntKind.u64 (mixV (List.foldl mixV 0 (wordsL s)) s.size))) ⟨w.heap.size, 0, none⟩ (Value.int IntKind.u64 (mixV (mixV (List.foldl mixV 0 (wordsL s)) s.size) ws.length))).same D _ hk1 rfl
    have hc1 := World.cell?_setCell_same' w' ⟨w.heap.size, 0, none⟩ (Value.int IntKind.u64 (mixV (List.foldl mixV 0 (wordsL s)) s.size)) (by rw [hc]; rfl)
    have hc2 := World.cell?_setCell_same' (w'.setCell ⟨w.heap.size, 0, none⟩ (Value.int IntKind.u64 (mixV (List.foldl mixV 0 (wordsL s)) s.size))) ⟨w.heap.size, 0, none⟩ (Value.int IntKind.u64 (mixV (mixV (List.foldl mixV 0 (wordsL s)) s.size) ws.length)) (by rw [hc1]; rfl)
    gi_loopw [27] (fun p wr => ∃ k : Nat, p = .int .i64 (k : Int) ∧ k ≤ ws.length ∧ wr.cell? ⟨w.heap.size, 0, none⟩ = some (.int .u64 (sum2 s ws.length ws k)) ∧ wr.frozen? ⟨w.heap.size, 0, none⟩ = false ∧ Below w.heap.size w wr ∧ wr.heap[D]? = some (.deferred (some [])))
      (fun p wr => ws.length - (intOf p).toNat)
    case atStart =>
      refine ⟨0, rfl, Nat.zero_le _, ?_, ?_, (hB.setCell (p := ⟨w.heap.size, 0, none⟩) (Nat.le_refl _) _).setCell (p := ⟨w.heap.size, 0, none⟩) (Nat.le_refl _) _, hk2⟩
      · rw [hc2]; simp [sum2, sum1]
      · rw [World.frozen?_setCell, World.frozen?_setCell]; exact hf
    case round =>
      clear hc1 hc2 hk1 hk2 hc hf hB hK
      obtain ⟨k, rfl, hk, hc, hf, hB, hK⟩ := hrel
      by_cases hlt : k < ws.length
      case pos =>
        have hlt' : (k : Int) < (ws.length : Int) := by omega
        have hck : wr.cell? ⟨b, off + k, none⟩ = some (.int .i64 ws[k]) := (hB.cell (p := ⟨b, off + k, none⟩) hb).trans (hcell k _ (List.getElem?_eq_getElem hlt))
        gi_wp2_with (refine ⟨trivial, ?_⟩; gi_at_call 48; refine (callsIn_wide.2 (mix_any _ _ _)).mono ?_; rintro e w' ⟨rfl, rfl⟩)
        go_roundw
        case rel =>
          refine ⟨k + 1, by rw [show (k : Int) + 1 = ((k + 1 : Nat) : Int) by omega], by omega, ?_, by rw [World.frozen?_setCell]; exact hf, hB.setCell (p := ⟨w.heap.size, 0, none⟩) (Nat.le_refl _) _, (KeepsOthers.setCell _ _ _).same D _ hK rfl⟩
          rw [World.cell?_setCell_same' _ _ _ (by rw [hc]; rfl), sum2_succ s ws.length ws k hlt]
        case measure =>
          simp only [intOf]
          omega
      case neg =>
        have hlt' : ¬ ((k : Int) < (ws.length : Int)) := by omega
        obtain rfl : k = ws.length := by omega
        gi_wp2_with (refine ⟨trivial, ?_⟩; gi_at_call 48; refine (callsIn_wide.2 (mix_any _ _ _)).mono ?_; rintro e w' ⟨rfl, rfl⟩)
        refine ⟨by simp, .inl ⟨_, _, rfl, run_takeDeferred hK, ?_⟩⟩
        exact ⟨_, results_tmp rfl _ _ _, rfl, hB.trans (belowK_b (w := w) (Nat.le_refl _) _ D _ _ (by simp at hD; omega) hK rfl rfl)⟩
  case stop =>
    rintro D c pre W _ _ h _
    exact h.elim
end Go.Proofs.YtebfhljamoapjaaDoor
