
/- claims.Compare, walked the kit's way: draws and blocks behind the world, and nothing else. -/
import Derived.Test.YtpnngbfmmjjnaaaCu
import Derived.Sort.Grow
import Derived.Lib.Hide
import Derived.WalkKit
import Derived.Laws.EntriesVeiled
namespace Go.Proofs.Ytpnngbfmmjjnaaa
open Go.RowKit Go.Sort
attribute [local go_sem] Oper.semAt_some
set_option linter.unusedVariables false
set_option linter.unusedSimpArgs false

/-- w' is W with draws and blocks behind it. -/
def Gr (W w' : World) : Prop := ∃ q os', w' = grow (W.drewN q) os'
theorem Gr.refl (W : World) : Gr W W := ⟨0, #[], by simp [World.drewN]⟩
theorem Gr.alloc {W w' : World} (h : Gr W w') (o : Obj) : Gr W (w'.alloc o) := by
  obtain ⟨q, os, rfl⟩ := h
  exact ⟨q, os ++ #[o], by rw [alloc_eq_grow, grow_grow]⟩
theorem Gr.drewN {W w' : World} (h : Gr W w') (n : Nat) : Gr W (w'.drewN n) := by
  obtain ⟨q, os, rfl⟩ := h
  exact ⟨q + n, os, by simp [World.drewN, grow, Nat.add_assoc]⟩
theorem setCell_grow (A : World) (os : Array Obj) (p : Addr) (v : Value) (hp : A.heap.size ≤ p.block) : ∃ os', (grow A os).setCell p v = grow A os' := by
  refine ⟨((grow A os).setCell p v).heap.extract A.heap.size, ?_⟩
  have hh : ((grow A os).setCell p v).heap = A.heap ++ ((grow A os).setCell p v).heap.extract A.heap.size := by
    apply Array.ext_getElem?
    intro i
    rw [Array.getElem?_append]
    by_cases hi : i < A.heap.size
    · rw [if_pos hi]
      have := Below.heap_setCell (grow A os) p v i (by omega)
      rw [this]
      simp [grow, Array.getElem?_append, hi]
    · rw [if_neg hi, Array.getElem?_extract]
      have hs : ((grow A os).setCell p v).heap.size = A.heap.size + os.size := by simp [World.setCell, grow]
      by_cases hj : i < A.heap.size + os.size
      · rw [if_pos (by omega)]
        congr 1
        omega
      · rw [if_neg (by omega), Array.getElem?_eq_none (by omega)]
  show ((grow A os).setCell p v) = { A with heap := A.heap ++ _ }
  rw [← hh]
  rfl
theorem Gr.setCell {W w' : World} (h : Gr W w') {p : Addr} (hp : W.heap.size ≤ p.block) (v : Value) : Gr W (w'.setCell p v) := by
  obtain ⟨q, os, rfl⟩ := h
  obtain ⟨os', e⟩ := setCell_grow (W.drewN q) os p v hp
  exact ⟨q, os', e⟩
/-- Two claims boxed behind W. -/
structure Zx (x y : Cl) (W wr : World) : Prop where
  gr : Gr W wr
  sz : W.heap.size + 2 ≤ wr.heap.size
  a : ∀ j u, (clA x)[j]? = some u → wr.cell? ⟨W.heap.size, j, none⟩ = some u
  b : ∀ j u, (clA y)[j]? = some u → wr.cell? ⟨W.heap.size + 1, j, none⟩ = some u
theorem Zx.alloc {x y : Cl} {W wr : World} (h : Zx x y W wr) (o : Obj) : Zx x y W (wr.alloc o) := by
  have := h.sz
  exact ⟨h.gr.alloc o, by simp; omega, fun j u hu => (World.cell?_alloc_lt wr o _ (by show W.heap.size < _; omega)).trans (h.a j u hu), fun j u hu => (World.cell?_alloc_lt wr o _ (by show W.heap.size + 1 < _; omega)).trans (h.b j u hu)⟩
theorem Zx.drewN {x y : Cl} {W wr : World} (h : Zx x y W wr) (n : Nat) : Zx x y W (wr.drewN n) := ⟨h.gr.drewN n, h.sz, h.a, h.b⟩
theorem Zx.setCell {x y : Cl} {W wr : World} (h : Zx x y W wr) {p : Addr} (hp : W.heap.size + 2 ≤ p.block) (v : Value) : Zx x y W (wr.setCell p v) :=
  ⟨h.gr.setCell (by omega) v, by rw [World.size_setCell]; exact h.sz, fun j u hu => (World.cell?_of_block (Below.heap_setCell wr p v _ (by show W.heap.size ≠ _; omega))).trans (h.a j u hu), fun j u hu => (World.cell?_of_block (Below.heap_setCell wr p v _ (by show W.heap.size + 1 ≠ _; omega))).trans (h.b j u hu)⟩
theorem Zx.new (x y : Cl) (W : World) (t u : TypeId) : Zx x y W ((W.alloc (.cells (clA x) t)).alloc (.cells (clA y) u)) := by
  have h1 : Blk (W.alloc (.cells (clA x) t)) W.heap.size t (clA x) := Blk.new W t _
  have h2 : Blk ((W.alloc (.cells (clA x) t)).alloc (.cells (clA y) u)) (W.alloc (.cells (clA x) t)).heap.size u (clA y) := Blk.new _ u _
  rw [World.size_alloc] at h2
  exact ⟨((Gr.refl W).alloc _).alloc _, by simp, fun j z hz => ((h1.alloc _).cell j).trans hz, fun j z hz => (h2.cell j).trans hz⟩
/-- What the keys from the k-th on say. -/
def rstC (x y : Cl) (k : Nat) : Int :=
  match k with
  | 0 => cmpC x y
  | 1 => if x.t < y.t then -1 else if y.t < x.t then 1 else if x.lo < y.lo then -1 else if y.lo < x.lo then 1 else if x.hi < y.hi then -1 else if y.hi < x.hi then 1 else 0
  | 2 => if x.lo < y.lo then -1 else if y.lo < x.lo then 1 else if x.hi < y.hi then -1 else if y.hi < x.hi then 1 else 0
  | 3 => if x.hi < y.hi then -1 else if y.hi < x.hi then 1 else 0
  | _ => 0
theorem isnan_any (a : Int) (W : World) : Calls Try.prog 109 #[.int .i64 a] W fun e w' => e = .returned (.bool false) ∧ w' = W := by
  go_enter Try.func109, Try.ntmps109
  go_wp2
  go_ret
  exact ⟨by simp, rfl⟩
theorem cmpint_any (a b : Int) (W : World) : Calls Try.prog 90 #[.int .i64 a, .int .i64 b] W fun e w' => e = .returned (.int .i64 (cmpI a b)) ∧ w' = W := by
  have hc : cmpI a b = if a < b then -1 else if b < a then 1 else 0 := rfl
  by_cases h1 : a < b
  · rw [if_pos h1] at hc
    rw [hc]
    go_enter Try.func90, Try.ntmps90
    go_wp2_with (go_at_call 109; refine (isnan_any _ _).mono ?_; rintro e w' ⟨rfl, rfl⟩)
    go_ret
    exact ⟨rfl, rfl⟩
  · rw [if_neg h1] at hc
    by_cases h2 : b < a
    · rw [if_pos h2] at hc
      rw [hc]
      go_enter Try.func90, Try.ntmps90
      go_wp2_with (go_at_call 109; refine (isnan_any _ _).mono ?_; rintro e w' ⟨rfl, rfl⟩)
      go_ret
      exact ⟨rfl, rfl⟩
    · rw [if_neg h2] at hc
      rw [hc]
      go_enter Try.func90, Try.ntmps90
      go_wp2_with (go_at_call 109; refine (isnan_any _ _).mono ?_; rintro e w' ⟨rfl, rfl⟩)
      go_ret
      exact ⟨rfl, rfl⟩
theorem key1_any (B : Nat) (z : Int) (W : World) (h : W.cell? ⟨B, 0, none⟩ = some (.int .i64 z)) : Calls Try.prog 86 #[.pointer (some ⟨B, 0, none⟩)] W fun e w' => e = .returned (.int .i64 z) ∧ w' = W := by
  go_enter Try.func86, Try.ntmps86
  go_wp2
  go_ret
  exact ⟨rfl, rfl⟩
theorem key2_any (B : Nat) (z : Int) (W : World) (h : W.cell? ⟨B, 1, none⟩ = some (.int .i64 z)) : Calls Try.prog 87 #[.pointer (some ⟨B, 0, none⟩)] W fun e w' => e = .returned (.int .i64 z) ∧ w' = W := by
  go_enter Try.func87, Try.ntmps87
  go_wp2
  go_ret
  exact ⟨rfl, rfl⟩
theorem key3_any (B : Nat) (z : Int) (W : World) (h : W.cell? ⟨B, 2, none⟩ = some (.int .i64 z)) : Calls Try.prog 88 #[.pointer (some ⟨B, 0, none⟩)] W fun e w' => e = .returned (.int .i64 z) ∧ w' = W := by
  go_enter Try.func88, Try.ntmps88
  go_wp2
  go_ret
  exact ⟨rfl, rfl⟩
theorem key4_any (B : Nat) (z : Int) (W : World) (h : W.cell? ⟨B, 3, none⟩ = some (.int .i64 z)) : Calls Try.prog 89 #[.pointer (some ⟨B, 0, none⟩)] W fun e w' => e = .returned (.int .i64 z) ∧ w' = W := by
  go_enter Try.func89, Try.ntmps89
  go_wp2
  go_ret
  exact ⟨rfl, rfl⟩
set_option maxRecDepth 100000 in
set_option maxHeartbeats 40000000 in
theorem compare_any (x y : Cl) (W : World) : Calls Try.prog 71 #[.agg (clA x), .agg (clA y)] W fun e w' => e = .returned (.int .i64 (cmpC x y)) ∧ Gr W w' := by
  unfold clA
  go_enter Try.func71, Try.ntmps71
  go_wp2
  have hZ := Zx.new x y W 62 62
  go_loopw [15] (fun i wr => ∃ k : Nat, i = .int .i64 (k : Int) ∧ k ≤ 4 ∧ cmpC x y = rstC x y k ∧ Zx x y W wr) (fun i _ => 4 - (intOf i).toNat)
  case atStart =>
    refine ⟨0, rfl, by omega, rfl, ?_⟩
    exact hZ.alloc _
  case round =>
    obtain ⟨k, rfl, hk, hr, hz⟩ := hrel
    match k, hk with
    | 0, _ =>
      have e1 : wr.cell? ⟨W.heap.size, 0, none⟩ = some (.int .i64 x.f) := hz.a 0 _ rfl
      have e2 : wr.cell? ⟨W.heap.size + 1, 0, none⟩ = some (.int .i64 y.f) := hz.b 0 _ rfl
      have hix : (Instr.index 132 (.agg #[.func (.func 86) #[] #[], .func (.func 87) #[] #[], .func (.func 88) #[] #[], .func (.func 89) #[] #[]]) (.int .i64 0)).run Try.prog wr = .ok (.agg #[.func (.func 86) #[] #[]]) wr := by
        simp [Instr.index, asIntOf, run_underlying Try.underlying132, part, run_underlying Try.underlying131, Try.sizeOf131]
      obtain ⟨z, hzz⟩ : ∃ z, cmpI x.f y.f = z := ⟨_, rfl⟩
      have hcz : ∀ W', Calls Try.prog 90 #[.int .i64 x.f, .int .i64 y.f] W' fun e w' => e = .returned (.int .i64 z) ∧ w' = W' := fun W' => by rw [← hzz]; exact cmpint_any _ _ W'
      by_cases h0 : z = 0
      · subst h0
        have hnx : rstC x y 0 = rstC x y (0 + 1) := by
          have := cmpI_0 hzz
          unfold rstC
          simp only [cmpC]
          rw [if_neg (by omega), if_neg (by omega)]
        have hr' := hr.trans hnx
        clear hnx hzz
        go_wp2_with fail
        go_region_with
          (first
            | (go_at_call 86; refine (key1_any _ x.f _ (by first | exact (hz.alloc _).a 0 _ rfl | exact ((hz.alloc _).drewN _).a 0 _ rfl)).mono ?_; rintro e w' ⟨rfl, rfl⟩)
            | (go_at_call 86; refine (key1_any _ y.f _ (by first | exact (hz.alloc _).b 0 _ rfl | exact ((hz.alloc _).drewN _).b 0 _ rfl)).mono ?_; rintro e w' ⟨rfl, rfl⟩)
            | (go_at_call 90; refine (hcz _).mono ?_; rintro e w' ⟨rfl, rfl⟩))
        all_goals
          go_wp2
          go_roundw
          case rel => exact ⟨0 + 1, by go_num, by omega, hr', by first | exact hz.alloc _ | exact (hz.alloc _).drewN _ | exact ((hz.alloc _).drewN _).drewN _⟩
          case measure => simp [intOf]
      · have hcm : cmpC x y = z := by
          rw [hr, ← hzz]
          rw [← hzz] at h0
          unfold cmpI at h0 ⊢
          simp only [rstC, cmpC] <;> ((repeat' split) <;> first | rfl | omega | (exfalso; revert h0; simp [*]))
        clear hr hzz
        rw [hcm]
        go_wp2_with fail
        go_region_with
          (first
            | (go_at_call 86; refine (key1_any _ x.f _ (by first | exact (hz.alloc _).a 0 _ rfl | exact ((hz.alloc _).drewN _).a 0 _ rfl)).mono ?_; rintro e w' ⟨rfl, rfl⟩)
            | (go_at_call 86; refine (key1_any _ y.f _ (by first | exact (hz.alloc _).b 0 _ rfl | exact ((hz.alloc _).drewN _).b 0 _ rfl)).mono ?_; rintro e w' ⟨rfl, rfl⟩)
            | (go_at_call 90; refine (hcz _).mono ?_; rintro e w' ⟨rfl, rfl⟩))
        all_goals
          go_wp2
          go_ret
          exact ⟨by rw [hcm]; rfl, by first | exact (hz.alloc _).gr | exact ((hz.alloc _).drewN _).gr | exact (((hz.alloc _).drewN _).drewN _).gr⟩
    | 1, _ =>
      have e1 : wr.cell? ⟨W.heap.size, 1, none⟩ = some (.int .i64 x.t) := hz.a 1 _ rfl
      have e2 : wr.cell? ⟨W.heap.size + 1, 1, none⟩ = some (.int .i64 y.t) := hz.b 1 _ rfl
      have hix : (Instr.index 132 (.agg #[.func (.func 86) #[] #[], .func (.func 87) #[] #[], .func (.func 88) #[] #[], .func (.func 89) #[] #[]]) (.int .i64 1)).run Try.prog wr = .ok (.agg #[.func (.func 87) #[] #[]]) wr := by
        simp [Instr.index, asIntOf, run_underlying Try.underlying132, part, run_underlying Try.underlying131, Try.sizeOf131]
      obtain ⟨z, hzz⟩ : ∃ z, cmpI x.t y.t = z := ⟨_, rfl⟩
      have hcz : ∀ W', Calls Try.prog 90 #[.int .i64 x.t, .int .i64 y.t] W' fun e w' => e = .returned (.int .i64 z) ∧ w' = W' := fun W' => by rw [← hzz]; exact cmpint_any _ _ W'
      by_cases h0 : z = 0
      · subst h0
        have hnx : rstC x y 1 = rstC x y (1 + 1) := by
          have := cmpI_0 hzz
          unfold rstC
          simp only [cmpC]
          rw [if_neg (by omega), if_neg (by omega)]
        have hr' := hr.trans hnx
        clear hnx hzz
        go_wp2_with fail
        go_region_with
          (first
            | (go_at_call 87; refine (key2_any _ x.t _ (by first | exact (hz.alloc _).a 1 _ rfl | exact ((hz.alloc _).drewN _).a 1 _ rfl)).mono ?_; rintro e w' ⟨rfl, rfl⟩)
            | (go_at_call 87; refine (key2_any _ y.t _ (by first | exact (hz.alloc _).b 1 _ rfl | exact ((hz.alloc _).drewN _).b 1 _ rfl)).mono ?_; rintro e w' ⟨rfl, rfl⟩)
            | (go_at_call 90; refine (hcz _).mono ?_; rintro e w' ⟨rfl, rfl⟩))
        all_goals
          go_wp2
          go_roundw
          case rel => exact ⟨1 + 1, by go_num, by omega, hr', by first | exact hz.alloc _ | exact (hz.alloc _).drewN _ | exact ((hz.alloc _).drewN _).drewN _⟩
          case measure => simp [intOf]
      · have hcm : cmpC x y = z := by
          rw [hr, ← hzz]
          rw [← hzz] at h0
          unfold cmpI at h0 ⊢
          simp only [rstC, cmpC] <;> ((repeat' split) <;> first | rfl | omega | (exfalso; revert h0; simp [*]))
        clear hr hzz
        rw [hcm]
        go_wp2_with fail
        go_region_with
          (first
            | (go_at_call 87; refine (key2_any _ x.t _ (by first | exact (hz.alloc _).a 1 _ rfl | exact ((hz.alloc _).drewN _).a 1 _ rfl)).mono ?_; rintro e w' ⟨rfl, rfl⟩)
            | (go_at_call 87; refine (key2_any _ y.t _ (by first | exact (hz.alloc _).b 1 _ rfl | exact ((hz.alloc _).drewN _).b 1 _ rfl)).mono ?_; rintro e w' ⟨rfl, rfl⟩)
            | (go_at_call 90; refine (hcz _).mono ?_; rintro e w' ⟨rfl, rfl⟩))
        all_goals
          go_wp2
          go_ret
          exact ⟨by rw [hcm]; rfl, by first | exact (hz.alloc _).gr | exact ((hz.alloc _).drewN _).gr | exact (((hz.alloc _).drewN _).drewN _).gr⟩
    | 2, _ =>
      have e1 : wr.cell? ⟨W.heap.size, 2, none⟩ = some (.int .i64 x.lo) := hz.a 2 _ rfl
      have e2 : wr.cell? ⟨W.heap.size + 1, 2, none⟩ = some (.int .i64 y.lo) := hz.b 2 _ rfl
      have hix : (Instr.index 132 (.agg #[.func (.func 86) #[] #[], .func (.func 87) #[] #[], .func (.func 88) #[] #[], .func (.func 89) #[] #[]]) (.int .i64 2)).run Try.prog wr = .ok (.agg #[.func (.func 88) #[] #[]]) wr := by
        simp [Instr.index, asIntOf, run_underlying Try.underlying132, part, run_underlying Try.underlying131, Try.sizeOf131]
      obtain ⟨z, hzz⟩ : ∃ z, cmpI x.lo y.lo = z := ⟨_, rfl⟩
      have hcz : ∀ W', Calls Try.prog 90 #[.int .i64 x.lo, .int .i64 y.lo] W' fun e w' => e = .returned (.int .i64 z) ∧ w' = W' := fun W' => by rw [← hzz]; exact cmpint_any _ _ W'
      by_cases h0 : z = 0
      · subst h0
        have hnx : rstC x y 2 = rstC x y (2 + 1) := by
          have := cmpI_0 hzz
          unfold rstC
          simp only [cmpC]
          rw [if_neg (by omega), if_neg (by omega)]
        have hr' := hr.trans hnx
        clear hnx hzz
        go_wp2_with fail
        go_region_with
          (first
            | (go_at_call 88; refine (key3_any _ x.lo _ (by first | exact (hz.alloc _).a 2 _ rfl | exact ((hz.alloc _).drewN _).a 2 _ rfl)).mono ?_; rintro e w' ⟨rfl, rfl⟩)
            | (go_at_call 88; refine (key3_any _ y.lo _ (by first | exact (hz.alloc _).b 2 _ rfl | exact ((hz.alloc _).drewN _).b 2 _ rfl)).mono ?_; rintro e w' ⟨rfl, rfl⟩)
            | (go_at_call 90; refine (hcz _).mono ?_; rintro e w' ⟨rfl, rfl⟩))
        all_goals
          go_wp2
          go_roundw
          case rel => exact ⟨2 + 1, by go_num, by omega, hr', by first | exact hz.alloc _ | exact (hz.alloc _).drewN _ | exact ((hz.alloc _).drewN _).drewN _⟩
          case measure => simp [intOf]
      · have hcm : cmpC x y = z := by
          rw [hr, ← hzz]
          rw [← hzz] at h0
          unfold cmpI at h0 ⊢
          simp only [rstC, cmpC] <;> ((repeat' split) <;> first | rfl | omega | (exfalso; revert h0; simp [*]))
        clear hr hzz
        rw [hcm]
        go_wp2_with fail
        go_region_with
          (first
            | (go_at_call 88; refine (key3_any _ x.lo _ (by first | exact (hz.alloc _).a 2 _ rfl | exact ((hz.alloc _).drewN _).a 2 _ rfl)).mono ?_; rintro e w' ⟨rfl, rfl⟩)
            | (go_at_call 88; refine (key3_any _ y.lo _ (by first | exact (hz.alloc _).b 2 _ rfl | exact ((hz.alloc _).drewN _).b 2 _ rfl)).mono ?_; rintro e w' ⟨rfl, rfl⟩)
            | (go_at_call 90; refine (hcz _).mono ?_; rintro e w' ⟨rfl, rfl⟩))
        all_goals
          go_wp2
          go_ret
          exact ⟨by rw [hcm]; rfl, by first | exact (hz.alloc _).gr | exact ((hz.alloc _).drewN _).gr | exact (((hz.alloc _).drewN _).drewN _).gr⟩
    | 3, _ =>
      have e1 : wr.cell? ⟨W.heap.size, 3, none⟩ = some (.int .i64 x.hi) := hz.a 3 _ rfl
      have e2 : wr.cell? ⟨W.heap.size + 1, 3, none⟩ = some (.int .i64 y.hi) := hz.b 3 _ rfl
      have hix : (Instr.index 132 (.agg #[.func (.func 86) #[] #[], .func (.func 87) #[] #[], .func (.func 88) #[] #[], .func (.func 89) #[] #[]]) (.int .i64 3)).run Try.prog wr = .ok (.agg #[.func (.func 89) #[] #[]]) wr := by
        simp [Instr.index, asIntOf, run_underlying Try.underlying132, part, run_underlying Try.underlying131, Try.sizeOf131]
      obtain ⟨z, hzz⟩ : ∃ z, cmpI x.hi y.hi = z := ⟨_, rfl⟩
      have hcz : ∀ W', Calls Try.prog 90 #[.int .i64 x.hi, .int .i64 y.hi] W' fun e w' => e = .returned (.int .i64 z) ∧ w' = W' := fun W' => by rw [← hzz]; exact cmpint_any _ _ W'
      by_cases h0 : z = 0
      · subst h0
        have hnx : rstC x y 3 = rstC x y (3 + 1) := by
          have := cmpI_0 hzz
          unfold rstC
          simp only [cmpC]
          rw [if_neg (by omega), if_neg (by omega)]
        have hr' := hr.trans hnx
        clear hnx hzz
        go_wp2_with fail
        go_region_with
          (first
            | (go_at_call 89; refine (key4_any _ x.hi _ (by first | exact (hz.alloc _).a 3 _ rfl | exact ((hz.alloc _).drewN _).a 3 _ rfl)).mono ?_; rintro e w' ⟨rfl, rfl⟩)
            | (go_at_call 89; refine (key4_any _ y.hi _ (by first | exact (hz.alloc _).b 3 _ rfl | exact ((hz.alloc _).drewN _).b 3 _ rfl)).mono ?_; rintro e w' ⟨rfl, rfl⟩)
            | (go_at_call 90; refine (hcz _).mono ?_; rintro e w' ⟨rfl, rfl⟩))
        all_goals
          go_wp2
          go_roundw
          case rel => exact ⟨3 + 1, by go_num, by omega, hr', by first | exact hz.alloc _ | exact (hz.alloc _).drewN _ | exact ((hz.alloc _).drewN _).drewN _⟩
          case measure => simp [intOf]
      · have hcm : cmpC x y = z := by
          rw [hr, ← hzz]
          rw [← hzz] at h0
          unfold cmpI at h0 ⊢
          simp only [rstC, cmpC] <;> ((repeat' split) <;> first | rfl | omega | (exfalso; revert h0; simp [*]))
        clear hr hzz
        rw [hcm]
        go_wp2_with fail
        go_region_with
          (first
            | (go_at_call 89; refine (key4_any _ x.hi _ (by first | exact (hz.alloc _).a 3 _ rfl | exact ((hz.alloc _).drewN _).a 3 _ rfl)).mono ?_; rintro e w' ⟨rfl, rfl⟩)
            | (go_at_call 89; refine (key4_any _ y.hi _ (by first | exact (hz.alloc _).b 3 _ rfl | exact ((hz.alloc _).drewN _).b 3 _ rfl)).mono ?_; rintro e w' ⟨rfl, rfl⟩)
            | (go_at_call 90; refine (hcz _).mono ?_; rintro e w' ⟨rfl, rfl⟩))
        all_goals
          go_wp2
          go_ret
          exact ⟨by rw [hcm]; rfl, by first | exact (hz.alloc _).gr | exact ((hz.alloc _).drewN _).gr | exact (((hz.alloc _).drewN _).drewN _).gr⟩
    | 4, _ =>
      go_wp2
      go_ret
      exact ⟨by rw [hr]; rfl, hz.gr⟩
end Go.Proofs.Ytpnngbfmmjjnaaa
