/- Contract of intervalmonref17.Spend. -/
import Derived.Test.YtodoicilnbfgnaaRef17
import Derived.Handy
namespace Go.Proofs.Ytodoicilnbfgnaa
open Go.RowKit

/-- A reference ledger comes back: budget, slice value, entries, error. -/
def RefLed (w : World) (v0 : Value) (bud : Int) (es : List (ByteArray × Int)) (err : Int) (e : Ending) (w' : World) : Prop :=
  ∃ A c, e = .returned (.tuple #[.agg #[.int .i64 bud, .slice A es.length c], .int .i64 err]) ∧ Sl w' 2 (.slice A es.length c) es.length (entCells es) ∧ (∀ k, (Value.slice A es.length c).ownBlock = some k → v0.ownBlock = some k ∨ (w.heap.size ≤ k ∧ k < w'.heap.size)) ∧ Below w.heap.size w w'

theorem RefLed.mk_ {w w' : World} {bud : Int} {es : List (ByteArray × Int)} {err : Int} {A : Option Addr} {c : Nat} (h : Sl w 2 (.slice A es.length c) es.length (entCells es)) (hb : Below w.heap.size w w') :
    RefLed w (.slice A es.length c) bud es err (.returned (.tuple #[.agg #[.int .i64 bud, .slice A es.length c], .int .i64 err])) w' := ⟨A, c, rfl, h.below hb, fun _ hk => .inl hk, hb⟩

theorem ref_spend_arg (bud : Int) (v : Value) (es : List (ByteArray × Int)) (step : ByteArray) (cost : Int) (w : World) (h : Sl w 2 v es.length (entCells es)) (ha : cost < 0 ∨ step.size = 0 ∨ 16 < step.size) :
    Calls Try.prog 20 #[.agg #[.int .i64 bud, v], .string step, .int .i64 cost] w (RefLed w v bud es 1) := by
  have hS := Lib.hid h
  obtain ⟨A, c, rfl, -⟩ := h
  by_cases h0 : cost < 0
  · go_enter Try.func20, Try.ntmps20
    go_wp2_with fail
    go_returns
    exact RefLed.mk_ hS.out (by go_grown)
  · by_cases h1 : step.size = 0
    · have h1' : ((step.size : Int) == 0) = true := by simp [h1]
      clear h1
      go_enter Try.func20, Try.ntmps20
      go_wp2_with fail
      go_returns
      exact RefLed.mk_ hS.out (by go_grown)
    · have h1' : ((step.size : Int) == 0) = false := by simp [h1]
      have h2 : 16 < step.size := by omega
      clear h1 ha
      go_enter Try.func20, Try.ntmps20
      go_wp2_with fail
      go_returns
      exact RefLed.mk_ hS.out (by go_grown)

theorem ref_spend_over (bud : Int) (v : Value) (es : List (ByteArray × Int)) (step : ByteArray) (cost : Int) (w : World) (h : Sl w 2 v es.length (entCells es)) (hg : Good bud es)
    (s0 : 1 ≤ step.size) (s1 : step.size ≤ 16) (h0 : 0 ≤ cost) (h1 : bud - total es < cost) :
    Calls Try.prog 20 #[.agg #[.int .i64 bud, v], .string step, .int .i64 cost] w (RefLed w v bud es 12) := by
  have hS := Lib.hid h
  have hn := total_nn es hg.nn
  have hm := hg.sum
  have ht := hg.top
  have hS2 := Lib.hid ((h.alloc (.cells #[.int .i64 bud, v] 25)).alloc (.cells #[.int .i64 0, .slice none 0 0] 25))
  obtain ⟨A, c, rfl, -⟩ := h
  have h1' : ((step.size : Int) == 0) = false := beq_eq_false_iff_ne.2 (by omega)
  go_enter Try.func20, Try.ntmps20
  go_wp2_with fail
  have hwr : IntKind.i64.wrap (bud - total es) = bud - total es := IntWalk.i64_in _ (by omega)
  go_region_held3 (fun w' => w'.cell? ⟨w.heap.size, 0, none⟩ = some (.int .i64 bud) ∧ w'.cell? ⟨w.heap.size, 1, none⟩ = some (.slice A es.length c)) (go_keep)
    (first | (go_at_call 10; refine (ref_spent bud _ es _ (by exact hS2.out) hg).mono ?_; rintro e w' ⟨rfl, rfl⟩))
  clear hwr
  go_wp2_with fail
  go_returns
  exact RefLed.mk_ hS.out (by go_grown)

theorem Try.infoRef : (Try.prog.info? 34).map (fun i => (i.zero, i.size, i.bytes)) = some (some (.agg #[.string ByteArray.empty, .int .i64 0]), 2, 24) := by kernel_rfl

theorem ref_spend_ok (bud : Int) (v : Value) (es : List (ByteArray × Int)) (step : ByteArray) (cost : Int) (w : World) (h : Sl w 2 v es.length (entCells es)) (hg : Good bud es)
    (s0 : 1 ≤ step.size) (s1 : step.size ≤ 16) (h0 : 0 ≤ cost) (h1 : cost ≤ bud - total es) :
    Calls Try.prog 20 #[.agg #[.int .i64 bud, v], .string step, .int .i64 cost] w (RefLed w v bud (es ++ [(step, cost)]) 0) := by
  have hS := Lib.hid h
  have hn := total_nn es hg.nn
  have hm := hg.sum
  have ht := hg.top
  have hS2 := Lib.hid ((h.alloc (.cells #[.int .i64 bud, v] 25)).alloc (.cells #[.int .i64 0, .slice none 0 0] 25))
  obtain ⟨A, c, rfl, -⟩ := h
  have h1' : ((step.size : Int) == 0) = false := beq_eq_false_iff_ne.2 (by omega)
  go_enter Try.func20, Try.ntmps20
  go_wp2_with fail
  have hwr : IntKind.i64.wrap (bud - total es) = bud - total es := IntWalk.i64_in _ (by omega)
  go_region_held3 (fun w' => w'.cell? ⟨w.heap.size, 0, none⟩ = some (.int .i64 bud) ∧ w'.cell? ⟨w.heap.size, 1, none⟩ = some (.slice A es.length c)) (go_keep)
    (first | (go_at_call 10; refine (ref_spent bud _ es _ (by exact hS2.out) hg).mono ?_; rintro e w' ⟨rfl, rfl⟩))
  clear hwr
  refine name_ (P := fun W => Exit.then _ _ Exit.normal _ W) _ ?_
  intro W1 hW1
  have hb1 : Below w.heap.size w W1 := by rw [hW1]; go_grown
  have hq0 : Blk W1 w.heap.size 25 #[.int .i64 bud, .slice A es.length c] := by
    rw [hW1]
    repeat' (first | exact Blk.new _ _ _ | refine Blk.drew ?_ | refine Blk.drewN ?_ _ | refine Blk.alloc ?_ _)
  have hq1 : Blk W1 (w.heap.size + 1) 25 #[.int .i64 0, .slice none 0 0] := by
    rw [hW1]
    repeat' (first | (simpa using Blk.new (w.alloc _) _ _) | refine Blk.drew ?_ | refine Blk.drewN ?_ _ | refine Blk.alloc ?_ _)
  have hS1 := hS.out.below hb1
  clear hW1 hS2
  obtain ⟨i0, hi, hz0, hz1, hz2⟩ := info_parts Try.infoRef
  have Hi := Lib.hid hi
  have Hz0 := Lib.hid hz0
  have Hz1 := Lib.hid hz1
  have Hz2 := Lib.hid hz2
  clear hi hz0 hz1 hz2
  have hf := hg.few
  have c0 : W1.cell? ⟨w.heap.size, 0, none⟩ = some (.int .i64 bud) := (hq0.cell 0).trans rfl
  have c1 : W1.cell? ⟨w.heap.size, 1, none⟩ = some (.slice A es.length c) := (hq0.cell 1).trans rfl
  have hlt := hq1.lt
  go_wp2_with (first
    | (at_builtin; refine wpList_append_sl _ rfl (.tmp 30) (.tmp 32) 23 rfl w.heap.size 34 i0 _ 2 24 Try.underlying23 Hi.out Hz0.out Hz1.out Hz2.out rfl (by omega) (.slice none 0 0) 0 [] rfl (World.ownsRow_nil _ _ _ _) (.slice A es.length c) es.length (entCells es) rfl hS1 (entCells_one es) es.length (entCells es) (by omega) rfl (by simp only [maxLen]; omega) (by omega) (by omega) ?_; intro A1 d1 W2 hown1 hgr1 hat1; have hat1' := Lib.hid hat1; clear hat1)
    | (at_builtin; refine wpList_append_sl _ rfl (.tmp 33) (.tmp 37) 23 rfl w.heap.size 34 i0 _ 2 24 Try.underlying23 Hi.out Hz0.out Hz1.out Hz2.out rfl (by omega) (.slice A1 es.length d1) es.length (entCells es) rfl (hown1.alloc _) _ 1 [.string step, .int .i64 cost] rfl (Sl.lit W2 34 2 1 [.string step, .int .i64 cost] (by simp [maxLen]) rfl) (by simp [Value.oneCell']) (es.length + 1) (entCells (es ++ [(step, cost)])) rfl (by simp [entCells]) (by simp only [maxLen]; omega) (by omega) (by have := hgr1.size; simp; omega) ?_; intro A2 d2 W3 hown2 hgr2 hat2; have hat2' := Lib.hid hat2; clear hat2; have q0 : Blk W3 w.heap.size 25 #[.int .i64 bud, .slice A es.length c] := ((hq0.grown hgr1 (by simp [Value.ownBlock])).alloc _).grown hgr2 (own_ne hown1 (hq0.grown hgr1 (by simp [Value.ownBlock])) (by decide)); have q1 : Blk W3 (w.heap.size + 1) 25 #[.int .i64 0, .slice none 0 0] := ((hq1.grown hgr1 (by simp [Value.ownBlock])).alloc _).grown hgr2 (own_ne hown1 (hq1.grown hgr1 (by simp [Value.ownBlock])) (by decide)); have k0 : W3.cell? ⟨w.heap.size, 0, none⟩ = some (.int .i64 bud) := (q0.cell 0).trans rfl; have k1 : W3.cell? ⟨w.heap.size + 1, 0, none⟩ = some (.int .i64 0) := (q1.cell 0).trans rfl; have k2 : W3.cell? ⟨w.heap.size + 1, 1, none⟩ = some (.slice none 0 0) := (q1.cell 1).trans rfl; have f1 := q1.frozen 0; have f2 := q1.frozen 1))
  have q2 : Blk ((W3.setCell ⟨w.heap.size + 1, 0, none⟩ (.int .i64 bud)).setCell ⟨w.heap.size + 1, 1, none⟩ (.slice A2 (es.length + 1) d2)) (w.heap.size + 1) 25 #[.int .i64 bud, .slice A2 (es.length + 1) d2] := by
    have := (q1.set_ 0 (.int .i64 bud)).set_ 1 (.slice A2 (es.length + 1) d2)
    simpa using this
  have z0 := (q2.cell 0).trans rfl
  have z1 := (q2.cell 1).trans rfl
  refine bodyPost_ret (v := .tuple #[.agg #[.int .i64 bud, .slice A2 (es.length + 1) d2], .int .i64 0]) (by simp [results, Try.results20, go_sem, z0, z1]) rfl ?_
  have g2 : Fr (fun k => w.heap.size ≤ k) W1 W3 := (((Fr.refl _ W1).grown hgr1 (by simp [Value.ownBlock])).alloc _).grown hgr2 (fun k hk _ => by
    rcases hat1'.out k hk with h | h
    · simp [Value.ownBlock] at h
    · have := hb1.size; omega)
  have g3 := (g2.setCell (p := ⟨w.heap.size + 1, 0, none⟩) (fun _ => by simp) (.int .i64 bud)).setCell (p := ⟨w.heap.size + 1, 1, none⟩) (fun _ => by simp) (.slice A2 (es.length + 1) d2)
  refine ⟨A2, d2, by simp, ?_, fun k hk => .inr (by have := hown2.lt k (by simpa using hk); simpa [World.setCell] using this), hb1.trans (g3.below hb1.size (fun i hi => by omega))⟩
  have hs := Sl.of_own hown2
  have g4 : Fr (fun k => k = w.heap.size + 1) W3 _ := ((Fr.refl (fun k => k = w.heap.size + 1) W3).setCell (p := ⟨w.heap.size + 1, 0, none⟩) (fun _ => rfl) (.int .i64 bud)).setCell (p := ⟨w.heap.size + 1, 1, none⟩) (fun _ => rfl) (.slice A2 (es.length + 1) d2)
  have := hs.fr g4 (fun k hk => by rintro rfl; exact own_ne hown2 q1 (by decide) hk)
  simpa using this
end Go.Proofs.Ytodoicilnbfgnaa
