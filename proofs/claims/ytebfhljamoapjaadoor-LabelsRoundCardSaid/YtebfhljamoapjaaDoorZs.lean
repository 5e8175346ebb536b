
/- hash: Bytes, walked the kit's way. -/
import Derived.Test.YtebfhljamoapjaaDoorZr
import Derived.RangeFuncBox
import Derived.RangeFuncNested
import Derived.RangeFuncBound
import Derived.RangeFuncCalls
import Derived.RangeFuncLeaves
import Derived.RangeFuncFrom
import Derived.Shelf.Abstract
import Derived.Shelf.RegionOpen
import Derived.WalkKit
import Derived.OwnWalkIn
import Derived.TacticsInMore
import Derived.LoopNIn
import Derived.LoopIn
import Derived.Lib.Hide
import Derived.Maps.AppendAt
namespace Go.Proofs.YtebfhljamoapjaaDoor
open Go.RowKit Go.Shelf
attribute [local go_sem] Oper.semAt_some
set_option linter.unusedVariables false
set_option linter.unusedSimpArgs false

/-- What the hash of bytes hands to Sum. -/
def bInts (zs : List Int) : List Int := (bWords zs).map wrap64 ++ [(zs.length : Int)]
def bytesV (s : ByteArray) (zs : List Int) : Int := sumV s (bInts zs)
theorem bInts_len (zs : List Int) : (bInts zs).length = (bWords zs).length + 1 := by simp [bInts]
theorem info_int : (Tryd.prog.info? 3).map (fun i => (i.zero, i.size, i.bytes)) = some (some (.int .i64 0), 1, 8) := by kernel_rfl
theorem own_cells {W : World} {base : Nat} {e : TypeId} {g k cap : Nat} {ws : List Int} (h : W.ownsRow base e 1 (.slice (some ⟨g, 0, none⟩) k cap) k (ws.map (Value.int .i64))) : ∀ (j : Nat) (x : Int), ws[j]? = some x → W.cell? ⟨g, 0 + j, none⟩ = some (.int .i64 x) := by
  intro j x hx
  have hl := h.1
  rcases h.2 with ⟨h0, _⟩ | ⟨g', cap', cur, hv, _, hg, _, _, hs, ht⟩
  · cases h0
  · cases hv
    have hj : j < ws.length := (List.getElem?_eq_some_iff.1 hx).1
    have h2 : (cur.toList.take (k * 1))[j]? = some (.int .i64 x) := by rw [ht, List.getElem?_map, hx]; rfl
    rw [List.getElem?_take_of_lt (by simp at hl; omega)] at h2
    have h3 : cur[j]? = some (.int .i64 x) := by simpa using h2
    simp only [World.cell?, hg]
    simpa using h3
theorem boxed_own (B : Nat) (t : TypeId) (v : Value) : Own (fun (_ : List Int) W => Boxed W B t v) := fun s X Y row hs hg hr => hs.kept hg (fun e' => by
  obtain ⟨o, ho, hc⟩ := hr B e'.symm
  rw [show X.heap[B]? = _ from hs] at ho
  cases ho
  cases hc)
set_option maxRecDepth 100000 in
set_option maxHeartbeats 4000000 in
theorem bytes_any (s : ByteArray) (hs : s.size ≤ 1000000) (b off c : Nat) (zs : List Int) (w : World) (hb : b < w.heap.size) (hz : ∀ (k : Nat) (x : Int), zs[k]? = some x → w.cell? ⟨b, off + k, none⟩ = some (.int .u8 x)) (hl : zs.length ≤ 1000000) :
    Calls Tryd.prog 17 #[.string s, .slice (some ⟨b, off, none⟩) zs.length c] w fun e W' => e = .returned (.int .u64 (bytesV s zs)) ∧ Below w.heap.size w W' := by
  obtain ⟨i0, hi, hz0, hz1, hz2⟩ := info_parts info_int
  have hwl := bWords_len zs
  refine (callsIn_wide (n := 4)).1 ?_
  refine callsIn_of_wp_marks Tryd.func17 rfl trivial ?_ rfl
  simp only [Tryd.ntmps17, List.size_toArray, List.length_cons, List.length_nil, Nat.reduceAdd, Nat.reduceSub, Array.replicate_succ, Array.replicate_zero, List.push_toArray, List.append_toArray, List.nil_append, List.cons_append]
  gi_wp2_with (first
    | (gi_at_make; (refine wpListIn_make_own _ rfl _ _ 22 rfl w.heap.size 3 i0 (.int .i64 0) 1 Tryd.underlying22 hi hz0 hz1 .i64 .i64 _ (zs.length / 8 + 2) rfl rfl (by omega) (by rw [hz2]; omega) (Nat.le_trans (show _ ≤ 1000000 by omega) (by decide)) (Nat.le_refl _) ?_); intro w1 hown1 hgrow1)
    | (refine ⟨trivial, ?_⟩; gi_at_call 35; refine (callsIn_wide.2 (groupsB_any _ _ _ _)).mono ?_; rintro e w' ⟨rfl, rfl⟩))
  have hw1 : w.heap.size ≤ w1.heap.size := hgrow1.size
  obtain ⟨W0, hW0⟩ : ∃ W0, w1.alloc (.cells #[.slice (some ⟨w.heap.size, 0, none⟩) 0 (zs.length / 8 + 2)] 22) = W0 := ⟨_, rfl⟩
  have hsz0 : W0.heap.size = w1.heap.size + 1 := by rw [← hW0]; simp
  have bO : Boxed W0 w1.heap.size 22 (.slice (some ⟨w.heap.size, 0, none⟩) 0 (zs.length / 8 + 2)) := by rw [← hW0]; exact Boxed.new _ _ _
  have hown0 : W0.ownsRow w.heap.size 3 1 (.slice (some ⟨w.heap.size, 0, none⟩) 0 (zs.length / 8 + 2)) 0 [] := by
    rw [← hW0]
    exact hown1.alloc _
  have hB0 : Below w.heap.size w W0 := by
    rw [← hW0]
    exact ((Below.refl w.heap.size w).grown hgrow1 (Nat.le_refl _) (fun k e => by cases e)).alloc hw1 _
  rw [hW0]
  have bG := Boxed.new W0 39 (.slice (some ⟨b, off, none⟩) zs.length c)
  rw [hsz0] at bG
  have hB1 : Below w.heap.size w (W0.alloc (.cells #[.slice (some ⟨b, off, none⟩) zs.length c] 39)) := hB0.alloc (by omega) _
  refine wpIn_rangeFunc_ownF (α := Int) rfl (by omega) (gf := 46) (lb := #[.pointer (some ⟨w1.heap.size + 1, 0, none⟩)]) rfl trivial (enters_of Tryd.func46 (by kernel_rfl) rfl)
    (groupsB1_stops (w1.heap.size + 1) w.heap.size b off c zs hl _ hb (by simp [hsz0]; omega) (by simp [hsz0]) bG.cell (fun k x hx => (hB1.cell (p := ⟨b, off + k, none⟩) hb).trans (hz k x hx)))
    (fun h k => ⟨h.1.trans k.1, k.2.trans h.2⟩) (fun W l o o' hl h1 h2 h3 => by
      have hl' : w1.heap.size + 1 + 1 ≤ l := by simpa [hsz0] using hl
      exact ⟨belowK_b (w := w) (Nat.le_refl _) W l o o' (by omega) h1 h2 h3, World.cell?_of_block (World.putObj_heap_other (show w1.heap.size + 1 ≠ l by omega))⟩) (Below.refl _ _) (fun _ => rfl)
    (fun pre W => ((∃ v, Boxed W w1.heap.size 22 v ∧ W.ownsRow w.heap.size 3 1 v pre.length ((pre.map wrap64).map (Value.int .i64)) ∧ True) ∧ Boxed W (w1.heap.size + 1) 39 (.slice (some ⟨b, off, none⟩) zs.length c)) ∧ Below w.heap.size w W)
    (fun _ _ _ => False)
    (OwnFrom.and (Own.from (fun s A B row hs hg hr => ⟨holdsRow_own w.heap.size w1.heap.size 22 3 1 (fun pre : List Int => pre.length) (fun pre => (pre.map wrap64).map (Value.int .i64)) (fun _ _ => True) s A B row hs.1 hg hr, boxed_own _ _ _ s A B row hs.2 hg hr⟩) _) (ownFrom_below (Nat.le_refl _) (by simp [hsz0]; omega)))
    (fun _ _ _ _ _ hs _ _ => hs)
    ⟨⟨⟨_, bO.alloc _, hown0.alloc _, trivial⟩, bG⟩, hB1⟩
    (fun x => { tmps := #[.string s, .slice (some ⟨b, off, none⟩) zs.length c, undef, undef, .int .u64 0, .pointer (some ⟨w1.heap.size, 0, none⟩), .int .u64 x, .slice (some ⟨b, off, none⟩) zs.length c, .int .i64 zs.length, .int .i64 ((zs.length : Int) / 8), .int .i64 ((zs.length : Int) / 8 + 2), .slice (some ⟨w.heap.size, 0, none⟩) 0 (zs.length / 8 + 2), .slice (some ⟨b, off, none⟩) zs.length c, .func (.func 46) #[] #[.pointer (some ⟨w1.heap.size + 1, 0, none⟩)], .int .u64 x, undef, undef, undef, undef, undef, undef, undef, undef, undef, undef, undef, undef], defers := [] }) ?assign ?body ?done ?stop
  case assign =>
    intro l x W K hK
    gi_wp2
    exact hK
  case body =>
    rintro l pre x W ⟨⟨⟨v, hv, hrow, -⟩, hbx⟩, hB⟩ hlt
    have hc := hv.cell
    have hpl : pre.length ≤ 1000000 := by omega
    gi_wp2_with (gi_at_builtin; refine wpListIn_append_own _ rfl _ _ 22 rfl w.heap.size 3 i0 (.int .i64 0) 1 8 Tryd.underlying22 hi hz0 hz1 hz2 rfl (by decide) _ _ _ rfl (hrow.alloc _) ⟨W.heap.size, 0, none⟩ 1 1 [.int .i64 (wrap64 x)] rfl rfl (cell_one_new _ _ _) (by simp [Value.oneCell']) (Nat.le_trans (show _ ≤ 1000001 by omega) (by decide)) (by omega) (by have := hB.size; simp; omega) ?_; intro v' w2 hown' hgrow _; obtain ⟨g', cap', rfl⟩ := ownsRow_succ hown'; obtain ⟨hv1, hv2, hr2, hk2, hb2⟩ := hv.appended (by decide) hrow hB.size hw1 hown' hgrow; have hc1 := hv1.cell; have hf1 := hv1.frozen)
    have hbx1 : Boxed w2 (w1.heap.size + 1) 39 (.slice (some ⟨b, off, none⟩) zs.length c) := (hbx.alloc _).kept hgrow (hbx.not_row (by decide) hrow)
    have hbx2 : Boxed (w2.setCell ⟨w1.heap.size, 0, none⟩ (.slice (some ⟨g', 0, none⟩) (pre.length + 1) cap')) (w1.heap.size + 1) 39 (.slice (some ⟨b, off, none⟩) zs.length c) := (Below.heap_setCell w2 ⟨w1.heap.size, 0, none⟩ _ (w1.heap.size + 1) (by simp)).trans hbx1
    exact ⟨hk2, ⟨hb2, hbx2.cell.trans hbx.cell.symm⟩, ⟨⟨_, hv2, by simpa using hr2, trivial⟩, hbx2⟩, hB.trans hb2⟩
  case done =>
    rintro D ys W hD rfl ⟨⟨⟨v, hv, hrow, -⟩, hbx⟩, hB⟩ hK
    have hc := hv.cell
    have hDl : D < W.heap.size := (Array.getElem?_eq_some_iff.1 hK).1
    have hne : some D ≠ v.ownBlock := by
      rcases hrow.2 with ⟨rfl, _⟩ | ⟨g, cap, cur, rfl, _, hgb, _⟩
      · simp [Value.ownBlock]
      · intro e'
        obtain rfl : D = g := by simpa [Value.ownBlock] using e'
        rw [hgb] at hK
        cases hK
    gi_wp2_with (first
      | (gi_at_builtin; refine wpListIn_append_own _ rfl _ _ 22 rfl w.heap.size 3 i0 (.int .i64 0) 1 8 Tryd.underlying22 hi hz0 hz1 hz2 rfl (by decide) _ _ _ rfl (hrow.alloc _) ⟨W.heap.size, 0, none⟩ 1 1 [.int .i64 (zs.length : Int)] rfl rfl (cell_one_new _ _ _) (by simp [Value.oneCell']) (Nat.le_trans (show _ ≤ 1000001 by omega) (by decide)) (by omega) (by have := hB.size; simp; omega) ?_; intro v' w2 hown' hgrow _; obtain ⟨g', cap', rfl⟩ := ownsRow_succ hown'; have hsum := sum_any s hs g' 0 cap' (bInts zs) w2 (hown'.lt g' rfl).2 (own_cells (by simpa [bInts] using hown')) (by rw [bInts_len]; omega); rw [bInts_len, hwl] at hsum)
      | (refine ⟨trivial, ?_⟩; gi_at_call 36; refine (callsIn_wide.2 hsum).mono ?_; rintro e w' ⟨rfl, hbw⟩))
    have hB2 : Below w.heap.size w w2 := (hB.alloc hB.size _).grown hgrow (by have := hB.size; simp; omega) (fun k e => (hrow.lt k e).1)
    have hD2 : w2.heap[D]? = some (.deferred (some [])) := (hgrow.block D (by simp; omega) hne).trans ((Below.heap_alloc _ _ _ hDl).trans hK)
    have hD3 : w'.heap[D]? = some (.deferred (some [])) := (hbw.block D (Array.getElem?_eq_some_iff.1 hD2).1).trans hD2
    refine ⟨by simp, .inl ⟨_, _, rfl, run_takeDeferred hD3, ?_⟩⟩
    exact ⟨_, results_tmp rfl _ _ _, rfl, (hB2.trans (hbw.mono hB2.size)).trans (belowK_b (w := w) (Nat.le_refl _) w' D _ _ (by simp [hsz0] at hD; omega) hD3 rfl rfl)⟩
  case stop =>
    rintro D c pre W _ _ h _
    exact h.elim
end Go.Proofs.YtebfhljamoapjaaDoor
