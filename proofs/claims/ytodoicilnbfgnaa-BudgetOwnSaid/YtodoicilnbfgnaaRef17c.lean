/- Contract of intervalmonref17.Of. -/
import Derived.Test.YtodoicilnbfgnaaRef17b
import Derived.Deep.DrawnRows
namespace Go.Proofs.Ytodoicilnbfgnaa
open Go.RowKit
attribute [local go_sem ↓] Go.wp_at_zero Go.wp_at_succ

/-- The reference's Spend. -/
def spendL (bud : Int) (es : List (ByteArray × Int)) (step : ByteArray) (cost : Int) : List (ByteArray × Int) × Int :=
  if cost < 0 ∨ step.size = 0 ∨ 16 < step.size then (es, 1) else if bud - total es < cost then (es, 12) else (es ++ [(step, cost)], 0)

theorem spendL_good {bud : Int} {es : List (ByteArray × Int)} {step : ByteArray} {cost : Int} (h : Good bud es) (hf : es.length < 1000) : Good bud (spendL bud es step cost).1 := by
  unfold spendL
  split
  · exact h
  · split
    · exact h
    · rename_i h1 h2
      refine ⟨fun e he => ?_, ?_, h.top, by simp; omega⟩
      · simp at he
        rcases he with he | rfl
        · exact h.ent e he
        · refine ⟨?_, ?_, ?_⟩
          · show (0 : Int) ≤ cost
            omega
          · show 1 ≤ step.size
            omega
          · show step.size ≤ 16
            omega
      · rw [total_app, total_one]
        omega
theorem spendL_len {bud : Int} {es : List (ByteArray × Int)} {step : ByteArray} {cost : Int} : (spendL bud es step cost).1.length ≤ es.length + 1 := by
  unfold spendL
  split
  · simp
  · split
    · simp
    · simp

theorem ref_spend (bud : Int) (v : Value) (es : List (ByteArray × Int)) (step : ByteArray) (cost : Int) (w : World) (h : Sl w 2 v es.length (entCells es)) (hg : Good bud es) :
    Calls Try.prog 20 #[.agg #[.int .i64 bud, v], .string step, .int .i64 cost] w (RefLed w v bud (spendL bud es step cost).1 (spendL bud es step cost).2) := by
  unfold spendL
  split
  · rename_i h1
    exact ref_spend_arg bud v es step cost w h h1
  · split
    · rename_i h1 h2
      exact ref_spend_over bud v es step cost w h hg (by omega) (by omega) (by omega) h2
    · rename_i h1 h2
      exact ref_spend_ok bud v es step cost w h hg (by omega) (by omega) (by omega) (by omega)

def ofTo (bud : Int) (l : List Int) : Nat → List (ByteArray × Int)
  | 0 => []
  | j + 1 => (spendL bud (ofTo bud l j) (stepOf (l.getD (2 * j) 0)) (arnd (l.getD (2 * j + 1) 0) 40 - 1)).1
def ofL (n : Int) (l : List Int) : List (ByteArray × Int) := ofTo (arnd n 201) l (min (l.length / 2) 12)
theorem ofTo_good {bud : Int} (l : List Int) (h0 : 0 ≤ bud) (h1 : bud ≤ 2147483648) (j : Nat) (hj : j ≤ 100) : Good bud (ofTo bud l j) ∧ (ofTo bud l j).length ≤ j := by
  induction j with
  | zero => exact ⟨⟨by simp [ofTo], by simpa [ofTo, total] using h0, h1, by simp [ofTo]⟩, by simp [ofTo]⟩
  | succ j ih =>
    obtain ⟨g, hl⟩ := ih (by omega)
    refine ⟨spendL_good g (by omega), ?_⟩
    have := @spendL_len bud (ofTo bud l j) (stepOf (l.getD (2 * j) 0)) (arnd (l.getD (2 * j + 1) 0) 40 - 1)
    show (spendL _ _ _ _).1.length ≤ _
    omega
theorem ofL_good (n : Int) (l : List Int) : Good (arnd n 201) (ofL n l) ∧ (ofL n l).length ≤ 12 := by
  have h0 := arnd_nn n 201 (by omega)
  have h1 := arnd_lt n 201 (by omega)
  have := ofTo_good l h0 (by omega) (min (l.length / 2) 12) (by omega)
  exact ⟨this.1, by have := this.2; show (ofTo _ _ _).length ≤ _; omega⟩

theorem Ints.at_ {w : World} {c : Nat} {zs : List Int} {A : Option Addr} (h : Ints w (.slice A zs.length c) zs) (hk : 0 < zs.length) : ∃ b off, A = some ⟨b, off, none⟩ ∧ b < w.heap.size ∧ ∀ k, k < zs.length → w.cell? ⟨b, off + k, none⟩ = some (.int .i64 (zs.getD k 0)) := by
  obtain ⟨⟨A', c', e, _, _, _, h4⟩, _⟩ := h
  simp at e
  obtain ⟨rfl, rfl⟩ := e
  obtain ⟨b, off, rfl, hb, hc⟩ := h4 (by omega)
  exact ⟨b, off, rfl, hb, fun k hk => hc k _ (by simp [List.getD, List.getElem?_eq_getElem hk])⟩

/-- A reference ledger in memory comes back. -/
def OfOk (w : World) (bud : Int) (es : List (ByteArray × Int)) (e : Ending) (w' : World) : Prop :=
  ∃ A c, e = .returned (.agg #[.int .i64 bud, .slice A es.length c]) ∧ Sl w' 2 (.slice A es.length c) es.length (entCells es) ∧ Below w.heap.size w w'

/-- What holds at the head of Of's loop. -/
def OfRel (w : World) (bud : Int) (zs : List Int) (k : Nat) (wr : World) : Prop :=
  ∃ v j, k = 2 * j ∧ j ≤ 12 ∧ 2 * j ≤ zs.length ∧ Blk wr w.heap.size 25 #[.int .i64 0, .slice none 0 0] ∧ Blk wr (w.heap.size + 1) 25 #[.int .i64 bud, v] ∧
    Sl wr 2 v (ofTo bud zs j).length (entCells (ofTo bud zs j)) ∧ (∀ i, v.ownBlock = some i → w.heap.size + 2 ≤ i) ∧ Below w.heap.size w wr

theorem of_below {wr w' : World} {o : Obj} (h : Below (wr.alloc o).drew.heap.size (wr.alloc o).drew w') : Below wr.heap.size wr w' :=
  (((Below.refl _ _).alloc (Nat.le_refl _) o).drew).trans (h.mono (by simp))

theorem of_step {w wr w' : World} {bud : Int} {zs : List Int} {k j : Nat} {x0 x1 : Int} {v : Value} {A2 : Option Addr} {c2 : Nat} (hk : k = 2 * j) (hl1 : k + 1 < zs.length) (hl2 : k < 24)
    (hx0 : zs.getD k 0 = x0) (hx1 : zs.getD (k + 1) 0 = x1) (hq0 : Blk wr w.heap.size 25 #[.int .i64 0, .slice none 0 0])
    (q2 : Blk w' (w.heap.size + 1) 25 #[.int .i64 bud, v]) (hb : Below w.heap.size w wr) (hb2 : Below wr.heap.size wr w')
    (hS : Sl w' 2 (.slice A2 (spendL bud (ofTo bud zs j) (stepOf x0) (arnd x1 40 - 1)).1.length c2) (spendL bud (ofTo bud zs j) (stepOf x0) (arnd x1 40 - 1)).1.length (entCells (spendL bud (ofTo bud zs j) (stepOf x0) (arnd x1 40 - 1)).1))
    (hv : ∀ i, v.ownBlock = some i → w.heap.size + 2 ≤ i) (hat : ∀ i, (Value.slice A2 (spendL bud (ofTo bud zs j) (stepOf x0) (arnd x1 40 - 1)).1.length c2).ownBlock = some i → v.ownBlock = some i ∨ ((wr.alloc stepObj).drew.heap.size ≤ i ∧ i < w'.heap.size)) (hsz : w.heap.size + 1 < wr.heap.size) :
    OfRel w bud zs (k + 2) ((w'.setCell ⟨w.heap.size + 1, 0, none⟩ (.int .i64 bud)).setCell ⟨w.heap.size + 1, 1, none⟩ (.slice A2 (spendL bud (ofTo bud zs j) (stepOf x0) (arnd x1 40 - 1)).1.length c2)) := by
  have he : ofTo bud zs (j + 1) = (spendL bud (ofTo bud zs j) (stepOf x0) (arnd x1 40 - 1)).1 := by
    show (spendL _ _ _ _).1 = _
    rw [← hx0, ← hx1, hk]
  rw [← he] at hS hat ⊢
  have hat2 : ∀ i, (Value.slice A2 (ofTo bud zs (j + 1)).length c2).ownBlock = some i → w.heap.size + 2 ≤ i := by
    intro i hi
    rcases hat i hi with h | h
    · exact hv i h
    · simp at h; omega
  have f0 : Fr (fun i => i = w.heap.size + 1) w' ((w'.setCell ⟨w.heap.size + 1, 0, none⟩ (.int .i64 bud)).setCell ⟨w.heap.size + 1, 1, none⟩ (.slice A2 (ofTo bud zs (j + 1)).length c2)) :=
    ((Fr.refl (fun i => i = w.heap.size + 1) w').setCell (p := ⟨w.heap.size + 1, 0, none⟩) (fun _ => rfl) _).setCell (p := ⟨w.heap.size + 1, 1, none⟩) (fun _ => rfl) _
  refine ⟨_, j + 1, by omega, by omega, by omega, ?_, ?_, ?_, hat2, ?_⟩
  · exact (hq0.below hb2 hq0.lt).fr f0 (by omega)
  · have := (q2.set_ 0 (.int .i64 bud)).set_ 1 (.slice A2 (ofTo bud zs (j + 1)).length c2)
    simpa using this
  · refine hS.fr f0 ?_
    rintro i hi rfl
    have := hat2 _ hi
    omega
  · exact (hb.trans (hb2.mono (Nat.le_of_lt (hq0.lt)))).trans (f0.below (by have := hb.size; have := hb2.size; omega) (fun i hi => by omega))

theorem of_end {w wr : World} {bud : Int} {es fs : List (ByteArray × Int)} {A : Option Addr} {c : Nat} (he : fs = es) (hb : Below w.heap.size w wr) (hS : Sl wr 2 (.slice A es.length c) es.length (entCells es))
    (hv : ∀ i, (Value.slice A es.length c).ownBlock = some i → w.heap.size + 2 ≤ i) :
    OfOk w bud fs (.returned (.agg #[.int .i64 bud, .slice A es.length c])) ((wr.setCell ⟨w.heap.size, 0, none⟩ (.int .i64 bud)).setCell ⟨w.heap.size, 1, none⟩ (.slice A es.length c)) := by
  subst he
  have f0 : Fr (fun i => i = w.heap.size) wr ((wr.setCell ⟨w.heap.size, 0, none⟩ (.int .i64 bud)).setCell ⟨w.heap.size, 1, none⟩ (.slice A fs.length c)) :=
    ((Fr.refl (fun i => i = w.heap.size) wr).setCell (p := ⟨w.heap.size, 0, none⟩) (fun _ => rfl) _).setCell (p := ⟨w.heap.size, 1, none⟩) (fun _ => rfl) _
  refine ⟨A, c, rfl, hS.fr f0 ?_, hb.trans (f0.below hb.size (fun i hi => by omega))⟩
  rintro i hi rfl
  have := hv _ hi
  omega

set_option maxHeartbeats 4000000 in
theorem ref_of (n : Int) (v : Value) (zs : List Int) (w : World) (hn : I64 n) (h : Ints w v zs) :
    Calls Try.prog 9 #[.int .i64 n, v] w (OfOk w (arnd n 201) (ofL n zs)) := by
  have H := Lib.hid h
  obtain ⟨⟨A, c, rfl, h1, h2, h3, h4⟩, h5⟩ := h
  clear h3 h4 h5
  have h0 := arnd_nn n 201 (by omega)
  have h0' := arnd_lt n 201 (by omega)
  unfold maxLen at h2
  go_enter Try.func9, Try.ntmps9
  go_wp2_with fail
  refine (around_any n 201 _ hn (by omega) (by omega)).mono ?_
  rintro e w1 ⟨rfl, rfl⟩
  have hofL : Hid (ofL n zs = ofTo (arnd n 201) zs (min (zs.length / 2) 12)) := Lib.hid rfl
  generalize arnd n 201 = bud at *
  go_wp2_with fail
  go_loopw [6] (fun i wr => ∃ k : Nat, i = .int .i64 k ∧ OfRel w bud zs k wr) (fun i _ => 26 - (intOf i).toNat)
  case atStart =>
    refine ⟨0, rfl, .slice none 0 0, 0, rfl, by omega, by omega, ?_, ?_, ?_, ?_, ?_⟩
    · exact (Blk.new _ _ _).alloc _
    · simpa using Blk.new (w.alloc (.cells #[.int .i64 0, .slice none 0 0] 25)) 25 #[.int .i64 bud, .slice none 0 0]
    · exact Sl.of_own (World.ownsRow_nil _ 0 0 _)
    · simp [Value.ownBlock]
    · go_grown
  case round =>
    obtain ⟨k, rfl, v, j, hk, hj, hjl, hq0, hq1, hS, hv2, hb⟩ := hrel
    have Hv2 := Lib.hid hv2
    clear hv2
    by_cases hlt : k + 1 < zs.length ∧ k < 24
    · obtain ⟨hl1, hl2⟩ := hlt
      obtain ⟨b, off, rfl, hbb, hc⟩ := H.out.at_ (by omega)
      have hw0 : wr.cell? ⟨b, off + k, none⟩ = some (.int .i64 (zs.getD k 0)) := (hb.cell (p := ⟨b, off + k, none⟩) hbb).trans (hc k (by omega))
      have hw1 : wr.cell? ⟨b, off + (k + 1), none⟩ = some (.int .i64 (zs.getD (k + 1) 0)) := (hb.cell (p := ⟨b, off + (k + 1), none⟩) hbb).trans (hc (k + 1) (by omega))
      have hI0 : I64 (zs.getD k 0) := by
        rw [List.getD_eq_getElem?_getD, List.getElem?_eq_getElem (by omega)]
        exact H.out.2 _ (List.getElem_mem _)
      have hI1 : I64 (zs.getD (k + 1) 0) := by
        rw [List.getD_eq_getElem?_getD, List.getElem?_eq_getElem (by omega)]
        exact H.out.2 _ (List.getElem_mem _)
      have c0 : wr.cell? ⟨w.heap.size + 1, 0, none⟩ = some (.int .i64 bud) := (hq1.cell 0).trans rfl
      have c1 : wr.cell? ⟨w.heap.size + 1, 1, none⟩ = some v := (hq1.cell 1).trans rfl
      have Hk := Lib.hid hk
      clear hc hk
      generalize hx0 : zs.getD k 0 = x0 at *
      generalize hx1 : zs.getD (k + 1) 0 = x1 at *
      have hX0 := Lib.hid hx0
      have hX1 := Lib.hid hx1
      clear hx0 hx1
      have hg := (ofTo_good zs h0 (by omega) j (by omega)).1
      have hlen := (ofTo_good zs h0 (by omega) j (by omega)).2
      have HS := Lib.hid hS
      obtain ⟨A', c', rfl, -⟩ := hS
      have e0 := World.new_ne wr _ hw0
      have e1 := World.new_ne wr _ hw1
      have e2 := World.new_ne wr _ c0
      have e3 := World.new_ne wr _ c1
      have a0 := arnd_nn x1 40 (by omega)
      have a1 := arnd_lt x1 40 (by omega)
      go_wp2_with fail
      have r1 : IntKind.i64.wrap ((k : Int) + 1) = (k : Int) + 1 := IntWalk.i64_in _ (by omega)
      have r2 : (0 : Int) ≤ (k : Int) + 1 := by omega
      have r3 : ((k : Int) + 1).toNat = k + 1 := by omega
      have r4 : (k : Int) + 1 < (zs.length : Int) := by omega
      have r5 : (k : Int) < (zs.length : Int) := by omega
      have r6 : IntKind.i64.wrap (arnd x1 40 - 1) = arnd x1 40 - 1 := IntWalk.i64_in _ (by omega)
      have HS2 := Lib.hid (HS.out.alloc stepObj)
      have hsz := hq1.lt
      have g1 : (wr.alloc stepObj).cell? ⟨b, off + (k + 1), none⟩ = some (.int .i64 x1) := (World.cell?_alloc_lt wr stepObj _ (by simp; omega)).trans hw1
      have g2 : (wr.alloc stepObj).cell? ⟨w.heap.size + 1, 0, none⟩ = some (.int .i64 bud) := (World.cell?_alloc_lt wr stepObj _ (by simp; omega)).trans c0
      have g3 : (wr.alloc stepObj).cell? ⟨w.heap.size + 1, 1, none⟩ = some (.slice A' (ofTo bud zs j).length c') := (World.cell?_alloc_lt wr stepObj _ (by simp; omega)).trans c1
      go_region_with
        (first
          | (go_at_call 21; refine (step_any x0 _ hI0).mono ?_; rintro e w' ⟨rfl, rfl⟩)
          | (go_at_call 12; refine (around_any x1 40 _ hI1 (by omega) (by omega)).mono ?_; rintro e w' ⟨rfl, rfl⟩)
          | (go_at_call 20; refine (ref_spend bud _ (ofTo bud zs j) _ _ _ (by exact HS2.out) hg).mono ?_; rintro e w' ⟨A2, c2, rfl, hS', hat', hb'⟩; have Hat := Lib.hid hat'; clear hat'; have hb2 : Below wr.heap.size wr w' := of_below hb'; have q2 : Blk w' (w.heap.size + 1) 25 #[.int .i64 bud, .slice A' (ofTo bud zs j).length c'] := hq1.below hb2 hsz; have y0 : w'.cell? ⟨w.heap.size + 1, 0, none⟩ = some (.int .i64 bud) := (q2.cell 0).trans rfl; have y1 : w'.cell? ⟨w.heap.size + 1, 1, none⟩ = some (.slice A' (ofTo bud zs j).length c') := (q2.cell 1).trans rfl; have y2 := q2.frozen 0; have y3 := q2.frozen 1; clear hb'))
      all_goals
        clear r1 r2 r3 r4 r5 r6
        go_wp2
        go_roundw
        case rel => exact ⟨k + 2, by go_num, of_step Hk.out hl1 hl2 hX0.out hX1.out hq0 q2 hb hb2 hS' Hv2.out Hat.out hsz⟩
        case measure => simp [intOf]; omega
    · have hq2 := hq1.lt
      have c0 : wr.cell? ⟨w.heap.size + 1, 0, none⟩ = some (.int .i64 bud) := (hq1.cell 0).trans rfl
      have c1 : wr.cell? ⟨w.heap.size + 1, 1, none⟩ = some v := (hq1.cell 1).trans rfl
      have d0 : wr.cell? ⟨w.heap.size, 0, none⟩ = some (.int .i64 0) := (hq0.cell 0).trans rfl
      have d1 : wr.cell? ⟨w.heap.size, 1, none⟩ = some (.slice none 0 0) := (hq0.cell 1).trans rfl
      have f0 := hq0.frozen 0
      have f1 := hq0.frozen 1
      have HS := Lib.hid hS
      obtain ⟨A', c', rfl, -⟩ := hS
      have Hk := Lib.hid hk
      have Hlt := Lib.hid hlt
      have hk24 : k ≤ 24 := by omega
      clear hk hlt
      have hj2 : j = min (zs.length / 2) 12 := by
        have := Hk.out
        by_cases h24 : k < 24
        · have h3 : ¬ k + 1 < zs.length := fun h => Hlt.out ⟨h, h24⟩
          omega
        · omega
      have Hj2 := Lib.hid hj2
      clear hj2
      have q3 : Blk ((wr.setCell ⟨w.heap.size, 0, none⟩ (.int .i64 bud)).setCell ⟨w.heap.size, 1, none⟩ (.slice A' (ofTo bud zs j).length c')) w.heap.size 25 #[.int .i64 bud, .slice A' (ofTo bud zs j).length c'] := by
        have := (hq0.set_ 0 (.int .i64 bud)).set_ 1 (.slice A' (ofTo bud zs j).length c')
        simpa using this
      have z0 := (q3.cell 0).trans rfl
      have z1 := (q3.cell 1).trans rfl
      by_cases hl : k + 1 < zs.length
      · have hl2 : ¬ k < 24 := fun h => Hlt.out ⟨hl, h⟩
        go_wp2
        refine bodyPost_ret (v := .agg #[.int .i64 bud, .slice A' (ofTo bud zs j).length c']) (by simp [results, Try.results9, go_sem, z0, z1]) rfl ?_
        exact of_end (hofL.out.trans (by rw [← Hj2.out])) hb HS.out Hv2.out
      · go_wp2
        refine bodyPost_ret (v := .agg #[.int .i64 bud, .slice A' (ofTo bud zs j).length c']) (by simp [results, Try.results9, go_sem, z0, z1]) rfl ?_
        exact of_end (hofL.out.trans (by rw [← Hj2.out])) hb HS.out Hv2.out
end Go.Proofs.Ytodoicilnbfgnaa
