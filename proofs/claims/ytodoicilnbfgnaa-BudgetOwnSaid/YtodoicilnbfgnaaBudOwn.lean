/- The walk of the law BudgetOwn. -/
import Derived.Test.YtodoicilnbfgnaaBudLed
namespace Go.Proofs.Ytodoicilnbfgnaa
open Go.RowKit

/-- The loop that spoils what Entries returned: only that block turns. -/
def OwnRel (w4 : World) (g n : Nat) (wr : World) : Prop := Fr (fun k => k = g) w4 wr ∧ ∃ cs : Array Value, Blk wr g 48 cs ∧ cs.size = n * 2

theorem OwnRel.step {w4 : World} {g n k : Nat} {wr : World} (h : OwnRel w4 g n wr) (_hk : k < n) (u1 u2 : Value) : OwnRel w4 g n ((wr.setCell ⟨g, k * 2, none⟩ u1).setCell ⟨g, k * 2 + 1, none⟩ u2) := by
  obtain ⟨hf, cs, hb, hs⟩ := h
  refine ⟨(hf.setCell (p := ⟨g, k * 2, none⟩) (fun _ => rfl) u1).setCell (p := ⟨g, k * 2 + 1, none⟩) (fun _ => rfl) u2, _, (hb.set_ (k * 2) u1).set_ (k * 2 + 1) u2, by simpa using hs⟩

set_option maxHeartbeats 2000000 in
theorem walk_BudgetOwn (w : World) (a0 : Int) (w0 : I64 a0) (v1 : Value) (z1 : List Int) (hz1 : Ints w v1 z1) :
    Calls Try.prog 6 #[.int .i64 a0, v1] w fun e w' => e = .returned (.bool true) ∧ Below w.heap.size w w' := by
  have H1 := Lib.hid hz1
  obtain ⟨⟨A0, c0, rfl, -⟩, -⟩ := hz1
  have hgood := ofL_good a0 z1
  have hb0 := arnd_nn a0 201 (by omega)
  have hb1 := arnd_lt a0 201 (by omega)
  go_enter Try.func6, Try.ntmps6
  go_wp2_with fail
  refine (ref_of a0 _ z1 _ w0 H1.out).mono ?_
  rintro e w1 ⟨A, c, rfl, hS, hbel⟩
  generalize ofL a0 z1 = es at *
  generalize arnd a0 201 = bud at *
  obtain ⟨hg, hlen⟩ := hgood
  have hsum := hg.sum
  have hnn := total_nn es hg.nn
  go_wp2_with fail
  refine (ledger_any bud A c es _ (hS.alloc _) hg hb0).mono ?_
  rintro e w3 ⟨rfl, v, hL, hown, hb3⟩
  have hm3 : Blk w3 w1.heap.size 25 #[.int .i64 bud, .slice A es.length c] := (Blk.new w1 _ _).below hb3 (by simp)
  have hS3 : Sl w3 2 (.slice A es.length c) es.length (entCells es) := (hS.alloc _).below hb3
  have hbel3 : Below w.heap.size w w3 := (hbel.alloc hbel.size _).trans (hb3.mono (by have := hbel.size; simp; omega))
  have hsz3 : w1.heap.size + 2 < w3.heap.size := by have := hL.1.lt; simp at this; omega
  have hown3 : ∀ k, v.ownBlock = some k → k < w3.heap.size := fun k hk => own_lt hL.2 hk
  have HS3 := Lib.hid hS3
  have HL := Lib.hid hL
  have Hown := Lib.hid hown
  have Hown3 := Lib.hid hown3
  have Hb3 := Lib.hid hb3
  clear hS hS3 hL hown hown3 hb3
  simp only [World.size_alloc] at HL
  go_wp2_with fail
  refine (entries_any (w1.heap.size + 1 + 1) v bud (total es) es w3 HL.out (by omega)).mono ?_
  rintro e w4 ⟨rfl, rfl⟩
  go_wp2_with fail
  go_loopw [8] (fun i wr => ∃ k : Nat, k ≤ es.length ∧ i = .int .i64 k ∧ OwnRel (w3.alloc (.cells (entCells es).toArray 48)) w3.heap.size es.length wr) (fun i _ => es.length - (intOf i).toNat)
  case atStart => exact ⟨0, Nat.zero_le _, rfl, Fr.refl _ _, _, Blk.new _ _ _, by simp [entCells_len]⟩
  case round =>
    obtain ⟨k, hk, rfl, hR⟩ := hrel
    have HR := Lib.hid hR
    obtain ⟨hf, cs, hB, hcs⟩ := hR
    by_cases hlt : k < es.length
    · have y0 : wr.cell? ⟨w3.heap.size, k * 2, none⟩ = some cs[k * 2] := (hB.cell (k * 2)).trans (by simp [show k * 2 < cs.size by omega])
      have y1 : wr.cell? ⟨w3.heap.size, k * 2 + 1, none⟩ = some cs[k * 2 + 1] := (hB.cell (k * 2 + 1)).trans (by simp [show k * 2 + 1 < cs.size by omega])
      have f0 := hB.frozen (k * 2)
      have f1 := hB.frozen (k * 2 + 1)
      clear hf hB
      go_wp2_with fail
      go_roundw
      case rel => exact ⟨k + 1, by omega, by go_num, HR.out.step hlt _ _⟩
      case measure => simp [intOf]; omega
    · clear hB hcs
      have hf2 : Fr (fun k => k = w3.heap.size) w3 wr := ((Fr.refl _ w3).alloc _).trans hf (fun _ _ h => h)
      have hLr : Led wr (w1.heap.size + 1 + 1) v bud (total es) es := HL.out.fr hf2 (by omega) (fun i hi => by have := Hown3.out i hi; omega)
      have hSr : Sl wr 2 (.slice A es.length c) es.length (entCells es) := HS3.out.fr2 hf2 (fun _ i hi _ => by omega)
      have hmr : Blk wr w1.heap.size 25 #[.int .i64 bud, .slice A es.length c] := hm3.fr hf2 (by omega)
      have hbr : Below w.heap.size w wr := hbel3.trans (hf2.below hbel3.size (fun i hi => by have := hbel3.size; omega))
      have hszr := hf2.size
      have m0 : wr.cell? ⟨w1.heap.size, 0, none⟩ = some (.int .i64 bud) := (hmr.cell 0).trans rfl
      have m1 : wr.cell? ⟨w1.heap.size, 1, none⟩ = some (.slice A es.length c) := (hmr.cell 1).trans rfl
      have HLr := Lib.hid hLr
      have HSr := Lib.hid hSr
      have hm3' := Lib.hid hm3
      clear hf hf2 hLr hSr hmr hm3
      obtain ⟨E, hE⟩ : ∃ E, E = Obj.cells (entCells es).toArray 48 := ⟨_, rfl⟩
      obtain ⟨M, hM⟩ : ∃ M, M = Obj.cells #[.int .i64 bud, .slice A es.length c] 25 := ⟨_, rfl⟩
      have HLr2 := Lib.hid (HLr.out.fr ((Fr.refl (fun _ => False) wr).alloc E) id (fun _ _ => id))
      have HSr2 := Lib.hid (HSr.out.alloc E)
      have HE := Lib.hid (Sl.lit wr 48 2 es.length (entCells es) (by simp only [maxLen]; omega) (entCells_len es))
      have n0 : (wr.alloc E).cell? ⟨w1.heap.size, 0, none⟩ = some (.int .i64 bud) := (World.cell?_alloc_lt wr E _ (by simp; omega)).trans m0
      have n1 : (wr.alloc E).cell? ⟨w1.heap.size, 1, none⟩ = some (.slice A es.length c) := (World.cell?_alloc_lt wr E _ (by simp; omega)).trans m1
      have p0 : ((wr.alloc E).alloc M).cell? ⟨w1.heap.size, 0, none⟩ = some (.int .i64 bud) := (World.cell?_alloc_lt (wr.alloc E) M _ (by simp; omega)).trans n0
      have p1 : ((wr.alloc E).alloc M).cell? ⟨w1.heap.size, 1, none⟩ = some (.slice A es.length c) := (World.cell?_alloc_lt (wr.alloc E) M _ (by simp; omega)).trans n1
      subst hE
      subst hM
      have HG := Lib.hid hg
      clear hg
      go_wp2_with fail
      go_region_held3 (fun w' => w'.cell? ⟨w1.heap.size, 0, none⟩ = some (.int .i64 bud) ∧ w'.cell? ⟨w1.heap.size, 1, none⟩ = some (.slice A es.length c))
        (first | exact ⟨(hl.cell (by simp; omega)).trans p0, (hl.cell (by simp; omega)).trans p1⟩ | exact ⟨p0, p1⟩ | exact ⟨n0, n1⟩ | exact ⟨m0, m1⟩)
        (first
          | (go_at_call 18; refine (entries_any (w1.heap.size + 1 + 1) v bud (total es) es _ (by exact HLr.out) (by omega)).mono ?_; rintro e w' ⟨rfl, rfl⟩)
          | (go_at_call 22; refine (same_yes _ _ es _ (by exact HE.out) (by exact HSr2.out) (by omega)).mono ?_; rintro e w' ⟨rfl, n7, rfl⟩)
          | (go_at_call 17; refine (spent_any _ (total es) _ (by exact HLr2.out.c1)).mono ?_; rintro e w' ⟨rfl, rfl⟩)
          | (go_at_call 10; refine (ref_spent bud _ es _ (by exact HSr2.out) HG.out).mono ?_; rintro e w' ⟨rfl, rfl⟩)
          | (go_at_call 15; refine (lives_any _).mono ?_; rintro e w' ⟨rfl, hl⟩))
      go_wp2_with fail
      go_ret
      exact ⟨rfl, ((below_dn (hbr.alloc hbr.size _) (1 + n7)).alloc (by have := hbr.size; simp; omega) _).trans (hl.mono (by have := hbr.size; simp; omega))⟩
end Go.Proofs.Ytodoicilnbfgnaa
