/- The walk of the law BudgetSpend. -/
import Derived.Test.YtodoicilnbfgnaaBudLed
import Derived.Deep.CutBlock
namespace Go.Proofs.Ytodoicilnbfgnaa
open Go.RowKit
set_option linter.unusedVariables false

/-- What Spend leaves, whatever it is given: the reference's entries and error. -/
def SpendAny (w : World) (b : Nat) (v : Value) (bud : Int) (es : List (ByteArray × Int)) (step : ByteArray) (cost : Int) (e : Ending) (w' : World) : Prop :=
  e = .returned (.int .i64 (spendL bud es step cost).2) ∧ ∃ v', Led w' b v' bud (total (spendL bud es step cost).1) (spendL bud es step cost).1 ∧ (∀ k, v'.ownBlock = some k → v.ownBlock = some k ∨ w.heap.size ≤ k) ∧ Fr (fun k => k = b ∨ v.ownBlock = some k) w w'

theorem spend_any (b : Nat) (v : Value) (bud : Int) (es : List (ByteArray × Int)) (step : ByteArray) (cost : Int) (w : World) (h : Led w b v bud (total es) es) (hg : Good bud es) :
    Calls Try.prog 13 #[.pointer (some ⟨b, 0, none⟩), .string step, .int .i64 cost] w (SpendAny w b v bud es step cost) := by
  have h0 := total_nn es hg.nn
  have h1 := hg.sum
  have h2 := hg.top
  have h3 := hg.few
  unfold SpendAny spendL
  split
  · rename_i hc
    refine (spend_arg b step cost w (by omega)).mono ?_
    rintro e w' ⟨rfl, rfl⟩
    exact ⟨rfl, v, h, fun _ hk => .inl hk, Fr.refl _ _⟩
  · split
    · rename_i hc hd
      refine (spend_over b v bud (total es) es step cost w h (by omega) (by omega) (by omega) hd h0 h2 h1).mono ?_
      rintro e w' ⟨rfl, n, rfl⟩
      exact ⟨rfl, v, h, fun _ hk => .inl hk, (Fr.refl _ _).drewN n⟩
    · rename_i hc hd
      refine (spend_ok b v bud (total es) es step cost w h (by omega) (by omega) (by omega) (by omega) (by omega) h0 h2).mono ?_
      rintro e w' ⟨rfl, v', hL, hat, hf⟩
      exact ⟨rfl, v', by rw [total_app, total_one]; exact hL, hat, hf⟩

/-- At the head of BudgetSpend's loop. -/
structure SpRel (w : World) (os : List Int) (vo : Value) (bud : Int) (es : List (ByteArray × Int)) (wr : World) (vm v : Value) : Prop where
  m : Blk wr w.heap.size 25 #[.int .i64 bud, vm]
  slm : Sl wr 2 vm es.length (entCells es)
  mown : ∀ k, vm.ownBlock = some k → w.heap.size + 2 ≤ k ∧ k < wr.heap.size
  led : Led wr (w.heap.size + 1) v bud (total es) es
  own : ∀ k, v.ownBlock = some k → w.heap.size + 2 ≤ k
  oslice : wr.ownsRow (w.heap.size + 2) 3 1 vo os.length (os.map (Value.int .i64))
  apart : ∀ k, vm.ownBlock = some k → v.ownBlock ≠ some k
  good : Good bud es
  bel : Below w.heap.size w wr
  big : w.heap.size + 2 ≤ wr.heap.size

theorem SpRel.alloc {w : World} {os : List Int} {vo : Value} {bud : Int} {es : List (ByteArray × Int)} {wr : World} {vm v : Value} (h : SpRel w os vo bud es wr vm v) (o : Obj) : SpRel w os vo bud es (wr.alloc o) vm v :=
  have f : Fr (fun _ => False) wr (wr.alloc o) := (Fr.refl _ _).alloc o
  { h with
    m := h.m.alloc o
    slm := h.slm.alloc o
    mown := fun k hk => by have := h.mown k hk; simp; omega
    led := h.led.fr f id (fun _ _ => id)
    oslice := h.oslice.alloc o
    bel := h.bel.alloc h.bel.size o
    big := by have := h.big; simp; omega }

theorem SpRel.drewN {w : World} {os : List Int} {vo : Value} {bud : Int} {es : List (ByteArray × Int)} {wr : World} {vm v : Value} (h : SpRel w os vo bud es wr vm v) (n : Nat) : SpRel w os vo bud es (wr.drewN n) vm v :=
  { h with
    m := h.m
    slm := h.slm
    mown := h.mown
    led := h.led
    oslice := h.oslice
    bel := below_dn h.bel n
    big := h.big }

theorem own_own_ne0 {w : World} {base base' : Nat} {e e' : TypeId} {size size' n n' : Nat} {v v' : Value} {xs xs' : List Value} (h : w.ownsRow base e size v n xs) (h' : w.ownsRow base' e' size' v' n' xs') (hne : e ≠ e') {k : Nat} (hk : v.ownBlock = some k) : v'.ownBlock ≠ some k := by
  rcases h.2 with ⟨rfl, _⟩ | ⟨g, cap, cur, rfl, _, hh, _⟩
  · simp [Value.ownBlock] at hk
  · simp [Value.ownBlock] at hk
    subst hk
    exact own_ne h' (t := e) hh (Ne.symm hne)

theorem SpRel.step {w : World} {os : List Int} {vo : Value} {bud : Int} {es es' : List (ByteArray × Int)} {wr wc wd : World} {vm v v' : Value} {A : Option Addr} {c : Nat} {o : Obj} (h : SpRel w os vo bud es wr vm v) (hb : Below wr.heap.size wr wc)
    (hS : Sl wc 2 (.slice A es'.length c) es'.length (entCells es')) (hat : ∀ k, (Value.slice A es'.length c).ownBlock = some k → vm.ownBlock = some k ∨ (wr.heap.size ≤ k ∧ k < wc.heap.size))
    (hL : Led wd (w.heap.size + 1) v' bud (total es') es') (hat' : ∀ k, v'.ownBlock = some k → v.ownBlock = some k ∨ (wc.alloc o).heap.size ≤ k)
    (hf : Fr (fun k => k = w.heap.size + 1 ∨ v.ownBlock = some k) (wc.alloc o) wd) (hg : Good bud es') :
    SpRel w os vo bud es' ((wd.setCell ⟨w.heap.size, 0, none⟩ (.int .i64 bud)).setCell ⟨w.heap.size, 1, none⟩ (.slice A es'.length c)) (.slice A es'.length c) v' := by
  have hbs := hb.size
  have hbig := h.big
  have he := h.apart
  have hvlt : ∀ k, v.ownBlock = some k → k < wr.heap.size := fun k hk => own_lt h.led.2 hk
  have f1 : Fr (fun _ => False) wr wc := Fr.of_below hb (fun i h1 h2 => by omega)
  have f2 : Fr (fun k => k = w.heap.size + 1 ∨ v.ownBlock = some k) wr wd := (f1.mono (fun _ _ x => x.elim)).trans ((Fr.refl _ wc).alloc o |>.trans hf (fun _ _ x => x)) (fun _ _ x => x)
  have f3 : Fr (fun i => i = w.heap.size) wd ((wd.setCell ⟨w.heap.size, 0, none⟩ (.int .i64 bud)).setCell ⟨w.heap.size, 1, none⟩ (.slice A es'.length c)) :=
    ((Fr.refl (fun i => i = w.heap.size) wd).setCell (p := ⟨w.heap.size, 0, none⟩) (fun _ => rfl) _).setCell (p := ⟨w.heap.size, 1, none⟩) (fun _ => rfl) _
  have fsz := f3.size
  have fsz1 := hf.size
  have fsz2 := f2.size
  simp at fsz1
  have hm : Blk wd w.heap.size 25 #[.int .i64 bud, vm] := h.m.fr f2 (by
    rintro (h1 | h1)
    · omega
    · have := h.own _ h1; omega)
  have hownv : ∀ k, v'.ownBlock = some k → w.heap.size + 2 ≤ k := by
    intro k hk
    rcases hat' k hk with h1 | h1
    · exact h.own k h1
    · simp at h1; omega
  have hmk : ∀ k, (Value.slice A es'.length c).ownBlock = some k → w.heap.size + 2 ≤ k ∧ k < wc.heap.size := by
    intro k hk
    rcases hat k hk with h1 | h1
    · have := h.mown k h1; omega
    · omega
  have hos : wd.ownsRow (w.heap.size + 2) 3 1 vo os.length (os.map (Value.int .i64)) := own_fr h.oslice f2 (fun k hk => by
    rintro (h1 | h1)
    · have := (h.oslice.lt k hk).1; omega
    · exact own_own_ne0 h.led.2 h.oslice (by decide) h1 hk)
  refine { m := ?_, slm := ?_, mown := ?_, led := ?_, own := hownv, oslice := own_fr hos f3 (fun k hk => by have := (h.oslice.lt k hk).1; omega), apart := ?_, good := hg, bel := ?_, big := by omega }
  · have := (hm.set_ 0 (.int .i64 bud)).set_ 1 (.slice A es'.length c)
    simpa using this
  · have s1 : Sl wd 2 (.slice A es'.length c) es'.length (entCells es') := (hS.alloc o).fr hf (fun k hk => by
      rintro (h1 | h1)
      · have := hmk k hk; omega
      · rcases hat k hk with h2 | h2
        · exact he k h2 h1
        · have := hvlt k h1; omega)
    exact s1.fr f3 (fun k hk => by have := hmk k hk; omega)
  · intro k hk
    have := hmk k hk
    omega
  · exact hL.fr f3 (by omega) (fun k hk => by have := hownv k hk; omega)
  · intro k hk2 hk
    rcases hat' k hk with h1 | h1
    · rcases hat k hk2 with h2 | h2
      · exact he k h2 h1
      · have := hvlt k h1; omega
    · have := hmk k hk2
      simp at h1
      omega
  · exact (h.bel.trans (hb.mono h.bel.size)).trans ((((Fr.refl (fun k => w.heap.size ≤ k) wc).alloc o).trans hf (fun i _ hi => by rcases hi with h1 | h1; (· omega); (· have := h.own _ h1; omega)) |>.trans f3 (fun i _ hi => by omega)).below (by have := h.bel.size; omega) (fun i hi => by omega))

theorem own_own_ne {w : World} {base base' : Nat} {e e' : TypeId} {size size' n n' : Nat} {v v' : Value} {xs xs' : List Value} (h : w.ownsRow base e size v n xs) (h' : w.ownsRow base' e' size' v' n' xs') (hne : e ≠ e') {k : Nat} (hk : v.ownBlock = some k) : v'.ownBlock ≠ some k := by
  rcases h.2 with ⟨rfl, _⟩ | ⟨g, cap, cur, rfl, _, hh, _⟩
  · simp [Value.ownBlock] at hk
  · simp [Value.ownBlock] at hk
    subst hk
    exact own_ne h' (t := e) hh (Ne.symm hne)

def SpHead (w : World) (os : List Int) (vo : Value) (bud : Int) (i : Value) (wr : World) : Prop :=
  ∃ (k : Nat) (es : List (ByteArray × Int)) (vm v : Value), i = .int .i64 k ∧ es.length ≤ k ∧ k ≤ 44 ∧ SpRel w os vo bud es wr vm v

theorem sp_start {w w3 W4 : World} {bud : Int} {ts : List Int} {a2 : Int} {A3 A4 : Option Addr} {c3 d4 : Nat} (h0 : 0 ≤ bud) (h1 : bud ≤ 2147483648)
    (hb : Below (w.heap.size + 2) ((w.alloc (.cells #[.int .i64 bud, .slice none 0 0] 25)).alloc (.cells #[.int .i64 bud, .int .i64 0, .slice none 0 0] 64)) w3)
    (h3 : w3.ownsRow (w.heap.size + 2) 3 1 (.slice A3 ts.length c3) ts.length (ts.map (Value.int .i64)))
    (h4 : W4.ownsRow (w.heap.size + 2) 3 1 (.slice A4 (ts.length + 2) d4) (ts.length + 2) ((ts ++ [4, a2]).map (Value.int .i64)))
    (hg : (w3.alloc (.cells #[.int .i64 4, .int .i64 a2] 3)).grownBy W4 (Value.slice A3 ts.length c3).ownBlock) :
    SpRel w (ts ++ [4, a2]) (.slice A4 (ts.length + 2) d4) bud [] W4 (.slice none 0 0) (.slice none 0 0) := by
  have b1 : Blk ((w.alloc (.cells #[.int .i64 bud, .slice none 0 0] 25)).alloc (.cells #[.int .i64 bud, .int .i64 0, .slice none 0 0] 64)) w.heap.size 25 #[.int .i64 bud, .slice none 0 0] := (Blk.new _ _ _).alloc _
  have b2 : Blk ((w.alloc (.cells #[.int .i64 bud, .slice none 0 0] 25)).alloc (.cells #[.int .i64 bud, .int .i64 0, .slice none 0 0] 64)) (w.heap.size + 1) 64 #[.int .i64 bud, .int .i64 0, .slice none 0 0] := by
    simpa using Blk.new (w.alloc (.cells #[.int .i64 bud, .slice none 0 0] 25)) 64 #[.int .i64 bud, .int .i64 0, .slice none 0 0]
  have c1 := (b1.below hb (by omega)).alloc (.cells #[.int .i64 4, .int .i64 a2] 3)
  have c2 := (b2.below hb (by omega)).alloc (.cells #[.int .i64 4, .int .i64 a2] 3)
  have n1 := own_ne h3 (b1.below hb (by omega)) (by decide)
  have n2 := own_ne h3 (b2.below hb (by omega)) (by decide)
  have hbel : Below w.heap.size w w3 := (((Below.refl _ _).alloc (Nat.le_refl _) _).alloc (by simp) _).trans (hb.mono (by omega))
  refine { m := c1.grown hg n1, slm := Sl.of_own (World.ownsRow_nil _ 0 0 _), mown := by simp [Value.ownBlock], led := ⟨c2.grown hg n2, World.ownsRow_nil _ _ _ _⟩, own := by simp [Value.ownBlock], oslice := by simpa using h4, apart := by simp [Value.ownBlock], good := ⟨by simp, by simpa [total_nil] using h0, h1, by simp⟩, bel := ?_, big := ?_ }
  · exact (hbel.alloc hbel.size _).grown hg (by have := hbel.size; simp; omega) (fun k hk => by have := (h3.lt k hk).1; omega)
  · have := hg.size
    have := hb.size
    simp at *
    omega

theorem of_below2 {wr w' : World} {o o' : Obj} (h : Below ((wr.alloc o).alloc o').drew.heap.size ((wr.alloc o).alloc o').drew w') : Below wr.heap.size wr w' :=
  ((((Below.refl _ _).alloc (Nat.le_refl _) o).alloc (by simp) o').drew).trans (h.mono (by simp; omega))

theorem sc2 {w : World} {b b' o o1 o2 : Nat} {u u1 u2 : Value} (h : w.cell? ⟨b, o, none⟩ = some u) (hne : b ≠ b') : ((w.setCell ⟨b', o1, none⟩ u1).setCell ⟨b', o2, none⟩ u2).cell? ⟨b, o, none⟩ = some u := by
  rw [World.cell?_setCell_other _ _ _ _ (by simp), World.cell?_setCell_other _ _ _ _ (by simp)]
  exact h
theorem blk_a {wr w' : World} (hb : Below ((wr.alloc (.cells #[.int .i64 0, .slice none 0 0] 25)).alloc stepObj).drew.heap.size ((wr.alloc (.cells #[.int .i64 0, .slice none 0 0] 25)).alloc stepObj).drew w') :
    Blk w' wr.heap.size 25 #[.int .i64 0, .slice none 0 0] := (((Blk.new wr _ _).alloc stepObj).drew).below hb (by simp; omega)
theorem blk_b {wr w' : World} (hb : Below ((wr.alloc stepObj).alloc (.cells #[.int .i64 0, .slice none 0 0] 25)).drew.heap.size ((wr.alloc stepObj).alloc (.cells #[.int .i64 0, .slice none 0 0] 25)).drew w') :
    Blk w' (wr.heap.size + 1) 25 #[.int .i64 0, .slice none 0 0] := by
  have := (Blk.new (wr.alloc stepObj) 25 #[.int .i64 0, .slice none 0 0]).drew.below hb (by simp)
  simpa using this

/-- Behind 'next, f := Spend(m, Step(own[i]), cost)'. -/
def Cut12 (w wr : World) (bud : Int) (es : List (ByteArray × Int)) (x0 cost : Int) (vm : Value) (s13 s14 : Value) (wx : World) : Prop :=
  ∃ (g : Nat) (A : Option Addr) (c : Nat), s13 = .pointer (some ⟨g, 0, none⟩) ∧ s14 = .int .i64 (spendL bud es (stepOf x0) cost).2 ∧ wr.heap.size ≤ g ∧
    Blk wx g 25 #[.int .i64 bud, .slice A (spendL bud es (stepOf x0) cost).1.length c] ∧
    Sl wx 2 (.slice A (spendL bud es (stepOf x0) cost).1.length c) (spendL bud es (stepOf x0) cost).1.length (entCells (spendL bud es (stepOf x0) cost).1) ∧
    (∀ k, (Value.slice A (spendL bud es (stepOf x0) cost).1.length c).ownBlock = some k → vm.ownBlock = some k ∨ (wr.heap.size ≤ k ∧ k < wx.heap.size)) ∧ Below wr.heap.size wr wx

theorem cut_new {w wr w' : World} {bud : Int} {es : List (ByteArray × Int)} {x0 cost : Int} {vm : Value} {A : Option Addr} {c : Nat} {M : Nat}
    (hS : Sl w' 2 (.slice A (spendL bud es (stepOf x0) cost).1.length c) (spendL bud es (stepOf x0) cost).1.length (entCells (spendL bud es (stepOf x0) cost).1))
    (hat : ∀ k, (Value.slice A (spendL bud es (stepOf x0) cost).1.length c).ownBlock = some k → vm.ownBlock = some k ∨ (M ≤ k ∧ k < w'.heap.size)) (hb : Below wr.heap.size wr w') (hM : wr.heap.size ≤ M := by simp) :
    Cut12 w wr bud es x0 cost vm (.pointer (some ⟨w'.heap.size, 0, none⟩)) (.int .i64 (spendL bud es (stepOf x0) cost).2) (w'.alloc (.cells #[.int .i64 bud, .slice A (spendL bud es (stepOf x0) cost).1.length c] 25)) := by
  refine ⟨_, A, c, rfl, rfl, hb.size, Blk.new _ _ _, hS.alloc _, fun k hk => ?_, hb.alloc hb.size _⟩
  rcases hat k hk with h | h
  · exact .inl h
  · refine .inr ⟨by omega, ?_⟩
    simp
    omega

theorem cut_old {w wr w' : World} {bud : Int} {es : List (ByteArray × Int)} {x0 cost : Int} {vm : Value} {A : Option Addr} {c : Nat} {M g : Nat} (hg : wr.heap.size ≤ g) (hq : Blk w' g 25 #[.int .i64 0, .slice none 0 0])
    (hS : Sl w' 2 (.slice A (spendL bud es (stepOf x0) cost).1.length c) (spendL bud es (stepOf x0) cost).1.length (entCells (spendL bud es (stepOf x0) cost).1))
    (hat : ∀ k, (Value.slice A (spendL bud es (stepOf x0) cost).1.length c).ownBlock = some k → vm.ownBlock = some k ∨ (M ≤ k ∧ k < w'.heap.size)) (hM : g < M) (hv : ∀ k, vm.ownBlock = some k → w.heap.size + 2 ≤ k ∧ k < wr.heap.size) (hb : Below wr.heap.size wr w') :
    Cut12 w wr bud es x0 cost vm (.pointer (some ⟨g, 0, none⟩)) (.int .i64 (spendL bud es (stepOf x0) cost).2) ((w'.setCell ⟨g, 0, none⟩ (.int .i64 bud)).setCell ⟨g, 1, none⟩ (.slice A (spendL bud es (stepOf x0) cost).1.length c)) := by
  have f0 : Fr (fun i => i = g) w' ((w'.setCell ⟨g, 0, none⟩ (.int .i64 bud)).setCell ⟨g, 1, none⟩ (.slice A (spendL bud es (stepOf x0) cost).1.length c)) :=
    ((Fr.refl (fun i => i = g) w').setCell (p := ⟨g, 0, none⟩) (fun _ => rfl) _).setCell (p := ⟨g, 1, none⟩) (fun _ => rfl) _
  have hne : ∀ k, (Value.slice A (spendL bud es (stepOf x0) cost).1.length c).ownBlock = some k → k ≠ g := by
    intro k hk
    rcases hat k hk with h | h
    · have := hv k h; omega
    · omega
  refine ⟨g, A, c, rfl, rfl, hg, ?_, hS.fr f0 hne, fun k hk => ?_, hb.trans (f0.below hb.size (fun i hi => by omega))⟩
  · have := (hq.set_ 0 (.int .i64 bud)).set_ 1 (.slice A (spendL bud es (stepOf x0) cost).1.length c)
    simpa using this
  · rcases hat k hk with h | h
    · exact .inl h
    · refine .inr ⟨by omega, ?_⟩
      have := f0.size
      omega

set_option maxRecDepth 100000 in
set_option maxHeartbeats 4000000 in
theorem walk_BudgetSpend (w : World) (a0 : Int) (w0 : I64 a0) (v1 : Value) (z1 : List Int) (hz1 : Ints w v1 z1) (a2 : Int) (w2 : I64 a2) :
    Calls Try.prog 5 #[.int .i64 a0, v1, .int .i64 a2] w fun e w' => e = .returned (.bool true) ∧ Below w.heap.size w w' := by
  have H1 := Lib.hid hz1
  obtain ⟨⟨A0, c0, rfl, -⟩, hzb⟩ := hz1
  have hb0 := arnd_nn a0 201 (by omega)
  have hb1 := arnd_lt a0 201 (by omega)
  have hI : ∀ z ∈ (z1.take 40 ++ [4, a2]), I64 z := by
    intro z hz
    simp at hz
    rcases hz with hz | rfl | rfl
    · exact hzb z (List.mem_of_mem_take hz)
    · exact ⟨by omega, by omega⟩
    · exact w2
  have HI := Lib.hid hI
  clear hzb hI
  obtain ⟨i0, hi, hz0, hz1, hz2⟩ := info_parts Try.infoInt
  have Hi := Lib.hid hi
  have Hz0 := Lib.hid hz0
  have Hz1 := Lib.hid hz1
  have Hz2 := Lib.hid hz2
  clear hi hz0 hz1 hz2
  go_enter Try.func5, Try.ntmps5
  go_wp2_with fail
  refine (around_any a0 201 _ w0 (by omega) (by omega)).mono ?_
  rintro e w ⟨rfl, rfl⟩
  generalize arnd a0 201 = bud at *
  go_wp2_with fail
  refine (new_ok bud _ hb0 (by omega)).mono ?_
  rintro e w2' ⟨rfl, rfl⟩
  go_wp2_with fail
  refine (ints_any _ z1 40 _ (by exact H1.out.below (by go_grown)) (by omega)).mono ?_
  rintro e w3 ⟨A3, c3, rfl, hown3, hb3⟩
  have htl : (z1.take 40).length ≤ 40 := by rw [List.length_take]; omega
  generalize z1.take 40 = ts at *
  have hb3' : Below (w.heap.size + 2) ((w.alloc (.cells #[.int .i64 bud, .slice none 0 0] 25)).alloc (.cells #[.int .i64 bud, .int .i64 0, .slice none 0 0] 64)) w3 := by simpa using hb3
  have hown3' : w3.ownsRow (w.heap.size + 2) 3 1 (.slice A3 ts.length c3) ts.length (ts.map (Value.int .i64)) := by simpa using hown3
  have hsz3 := hb3'.size
  simp at hsz3
  have HB3 := Lib.hid hb3'
  clear hb3 hown3 hb3'
  go_wp2_with (at_builtin; refine wpList_append_sl _ rfl (.tmp 32) (.tmp 34) 22 rfl (w.heap.size + 2) 3 i0 _ 1 8 Try.underlying22 Hi.out Hz0.out Hz1.out Hz2.out rfl (by omega) (.slice A3 ts.length c3) ts.length (ts.map (Value.int .i64)) rfl (hown3'.alloc _) (.slice (some ⟨w3.heap.size, 0, none⟩) 2 2) 2 [.int .i64 4, .int .i64 a2] rfl (Sl.lit w3 3 1 2 [.int .i64 4, .int .i64 a2] (by simp [maxLen]) rfl) (by simp [Value.oneCell']) (ts.length + 2) ((ts ++ [4, a2]).map (Value.int .i64)) rfl (by simp) (by simp only [maxLen]; omega) (by omega) (by simp; omega) ?_; intro A4 d4 W4 hown4 hgr4 hat4; have hat4' := Lib.hid hat4; clear hat4)
  have hR0 : SpRel w (ts ++ [4, a2]) (.slice A4 (ts.length + 2) d4) bud [] W4 (.slice none 0 0) (.slice none 0 0) := sp_start hb0 (by omega) HB3.out hown3' hown4 hgr4
  have HR0 := Lib.hid hR0
  clear hR0 hown3' hown4 hgr4
  generalize hos : ts ++ [4, a2] = os at *
  have hol : ts.length + 2 = os.length := by rw [← hos]; simp
  have hol2 : os.length ≤ 42 := by omega
  rw [hol] at HR0
  rw [hol]
  clear hos hol htl hat4'
  go_loopw [11] (fun i wr => SpHead w os (.slice A4 os.length d4) bud i wr) (fun i _ => 50 - (intOf i).toNat)
  case atStart => exact ⟨0, [], _, _, rfl, by simp, by omega, HR0.out⟩
  case round =>
    obtain ⟨k, es, vm, v, rfl, hel, hk44, hR⟩ := hrel
    by_cases hlt : k + 1 < os.length
    · obtain ⟨g, cap, hv, hgb, hgl⟩ := hR.oslice.form (by omega)
      simp only [Value.slice.injEq, true_and] at hv
      obtain ⟨rfl, rfl⟩ := hv
      have c0 : wr.cell? ⟨g, k, none⟩ = some (.int .i64 os[k]) := by
        rw [hR.oslice.cellAt k (by omega)]
        simp [List.getElem?_eq_getElem (show k < os.length by omega)]
      have c1 : wr.cell? ⟨g, k + 1, none⟩ = some (.int .i64 os[k + 1]) := by
        rw [hR.oslice.cellAt (k + 1) (by omega)]
        simp [List.getElem?_eq_getElem (show k + 1 < os.length by omega)]
      have hI0 : I64 os[k] := HI.out _ (List.getElem_mem _)
      have hI1 : I64 os[k + 1] := HI.out _ (List.getElem_mem _)
      generalize os[k] = x0 at *
      generalize os[k + 1] = x1 at *
      have hx0 := arnd_nn x1 40 (by omega)
      have hx1 := arnd_lt x1 40 (by omega)
      obtain ⟨Am, cm, rfl⟩ : ∃ A c, vm = .slice A es.length c := by
        obtain ⟨A, c, e, _⟩ := hR.slm
        exact ⟨A, c, e⟩
      have m0 : wr.cell? ⟨w.heap.size, 0, none⟩ = some (.int .i64 bud) := (hR.m.cell 0).trans rfl
      have m1 : wr.cell? ⟨w.heap.size, 1, none⟩ = some (.slice Am es.length cm) := (hR.m.cell 1).trans rfl
      have hbig := hR.big
      have hG := Lib.hid hR.good
      have hm0 := Lib.hid hR.m
      have HS := Lib.hid hR.slm
      have HS2 := Lib.hid (hR.slm.alloc stepObj)
      have HR := Lib.hid hR
      have g0 : (wr.alloc stepObj).cell? ⟨g, k, none⟩ = some (.int .i64 x0) := (World.cell?_alloc_lt wr stepObj _ (by simp; omega)).trans c0
      have g1 : (wr.alloc stepObj).cell? ⟨w.heap.size, 0, none⟩ = some (.int .i64 bud) := (World.cell?_alloc_lt wr stepObj _ (by simp; omega)).trans m0
      have g2 : (wr.alloc stepObj).cell? ⟨w.heap.size, 1, none⟩ = some (.slice Am es.length cm) := (World.cell?_alloc_lt wr stepObj _ (by simp; omega)).trans m1
      clear hR
      have e0 := World.new_ne wr _ c0
      have e1 := World.new_ne wr _ m0
      have r5 : (k : Int) < (os.length : Int) := by omega
      go_upto_if 52 with (fail)
      go_cut [12] (fun s12 wx => ∃ cost : Int, s12 = .int .i64 cost ∧ I64 cost ∧ wr = wx)
      case first =>
        by_cases hk2 : k + 2 < os.length
        · go_wp2_with fail
          refine (around_any x1 40 _ hI1 (by omega) (by omega)).mono ?_
          rintro e wr ⟨rfl, rfl⟩
          go_wp2_with fail
          go_meet
          exact ⟨_, rfl, ⟨by omega, by omega⟩, rfl⟩
        · go_wp2_with fail
          go_meet
          exact ⟨_, rfl, hI1, rfl⟩
      case rest =>
        obtain ⟨cost, rfl, hcost, rfl⟩ := hcut
        clear hx0 hx1 c1 hI1
        go_upto_region 12 with (fail)
        have HS3 := Lib.hid ((HS.out.alloc (.cells #[.int .i64 0, .slice none 0 0] 25)).alloc stepObj)
        have HS4 := Lib.hid ((HS.out.alloc stepObj).alloc (.cells #[.int .i64 0, .slice none 0 0] 25))
        go_cut [13, 14] (fun s13 s14 wx => Cut12 w wr bud es x0 cost (.slice Am es.length cm) s13 s14 wx)
        case first =>
          go_region_held3 (fun w' => w'.cell? ⟨g, k, none⟩ = some (.int .i64 x0) ∧ w'.cell? ⟨w.heap.size, 0, none⟩ = some (.int .i64 bud) ∧ w'.cell? ⟨w.heap.size, 1, none⟩ = some (.slice Am es.length cm))
            (first | exact ⟨sc2 z0 (by omega), sc2 z1 (by omega), sc2 z2 (by omega)⟩ | exact ⟨z0, z1, z2⟩ | exact ⟨c0, m0, m1⟩ | exact ⟨g0, g1, g2⟩ | go_keep)
            (first
              | (go_at_call 21; refine (step_any x0 _ hI0).mono ?_; rintro e w' ⟨rfl, rfl⟩)
              | (go_at_call 20; refine (ref_spend bud _ es _ _ _ (by first | exact HS2.out | exact HS3.out | exact HS4.out) hG.out).mono ?_; rintro e w' ⟨A2, c2, rfl, hS', hat', hb'⟩; have Hat := Lib.hid hat'; have Hb' := Lib.hid hb'; clear hat'; have hb2 : Below wr.heap.size wr w' := (by first | exact of_below hb' | exact of_below2 hb'); have z0 : w'.cell? ⟨g, k, none⟩ = some (.int .i64 x0) := (hb2.cell (p := ⟨g, k, none⟩) hgl).trans c0; have z1 : w'.cell? ⟨w.heap.size, 0, none⟩ = some (.int .i64 bud) := (hb2.cell (p := ⟨w.heap.size, 0, none⟩) (by simp; omega)).trans m0; have z2 : w'.cell? ⟨w.heap.size, 1, none⟩ = some (.slice Am es.length cm) := (hb2.cell (p := ⟨w.heap.size, 1, none⟩) (by simp; omega)).trans m1; have hs2 := hb2.size; (first | (have q13 : Blk w' wr.heap.size 25 #[.int .i64 0, .slice none 0 0] := blk_a hb'; have q0 : w'.cell? ⟨wr.heap.size, 0, none⟩ = some (.int .i64 0) := (q13.cell 0).trans rfl; have q1 : w'.cell? ⟨wr.heap.size, 1, none⟩ = some (.slice none 0 0) := (q13.cell 1).trans rfl; have q2 := q13.frozen 0; have q3 := q13.frozen 1) | (have q13 : Blk w' (wr.heap.size + 1) 25 #[.int .i64 0, .slice none 0 0] := blk_b hb'; have q0 : w'.cell? ⟨wr.heap.size + 1, 0, none⟩ = some (.int .i64 0) := (q13.cell 0).trans rfl; have q1 : w'.cell? ⟨wr.heap.size + 1, 1, none⟩ = some (.slice none 0 0) := (q13.cell 1).trans rfl; have q2 := q13.frozen 0; have q3 := q13.frozen 1) | skip); clear hb'))
          · go_wp2_with fail
            go_meet
            exact cut_new hS' Hat.out hb2
          · go_wp2_with fail
            go_meet
            exact cut_old (by omega) q13 hS' Hat.out (by simp <;> omega) HR.out.mown hb2
          · go_wp2_with fail
            go_meet
            exact cut_old (by omega) q13 hS' Hat.out (by simp <;> omega) HR.out.mown hb2
        case rest =>
          obtain ⟨g3, A3', c3', rfl, rfl, hg3, hq3, hS3', hat3, hbc⟩ := hcut
          have Hat3 := Lib.hid hat3
          clear hat3
          have hszc := hbc.size
          have hLc : Led (wc.alloc stepObj) (w.heap.size + 1) v bud (total es) es := ((HR.out.led.fr (Fr.of_below hbc (S := fun _ => False) (fun i h1 h2 => by omega)) id (fun _ _ => id))).fr ((Fr.refl (fun _ => False) wc).alloc stepObj) id (fun _ _ => id)
          have cc0 : wc.cell? ⟨g, k, none⟩ = some (.int .i64 x0) := (hbc.cell (p := ⟨g, k, none⟩) hgl).trans c0
          have HLc := Lib.hid hLc
          clear hLc
          go_wp2_with fail
          refine (step_any x0 _ hI0).mono ?_
          rintro e w5 ⟨rfl, rfl⟩
          go_wp2_with fail
          refine (spend_any (w.heap.size + 1) v bud es (stepOf x0) cost _ HLc.out hG.out).mono ?_
          rintro e wd ⟨rfl, v', hL', hat', hf'⟩
          have hg3d : Blk wd g3 25 #[.int .i64 bud, .slice A3' (spendL bud es (stepOf x0) cost).1.length c3'] := (hq3.alloc stepObj).fr hf' (by
            rintro (h1 | h1)
            · omega
            · have := own_lt HR.out.led.2 h1; omega)
          have hmd : Blk wd w.heap.size 25 #[.int .i64 bud, .slice Am es.length cm] := (((hm0.out).below hbc (by omega)).alloc stepObj).fr hf' (by
            rintro (h1 | h1)
            · omega
            · have := HR.out.own _ h1; omega)
          have hRe := HR.out.step hbc hS3' Hat3.out hL' hat' hf' (spendL_good hG.out (by omega))
          have HRe := Lib.hid hRe
          have d0 : wd.cell? ⟨g3, 0, none⟩ = some (.int .i64 bud) := (hg3d.cell 0).trans rfl
          have d1 : wd.cell? ⟨g3, 1, none⟩ = some (.slice A3' (spendL bud es (stepOf x0) cost).1.length c3') := (hg3d.cell 1).trans rfl
          have d2 : wd.cell? ⟨w.heap.size, 0, none⟩ = some (.int .i64 bud) := (hmd.cell 0).trans rfl
          have d3 : wd.cell? ⟨w.heap.size, 1, none⟩ = some (.slice Am es.length cm) := (hmd.cell 1).trans rfl
          have d4' := hmd.frozen 0
          have d5' := hmd.frozen 1
          have hlen' := @spendL_len bud es (stepOf x0) cost
          clear hL' hat' hf' hRe hg3d hmd HLc hq3 hS3'
          go_upto_region 16 with (fail)
          refine name_ (P := fun W => Code.wp _ _ _ _ W) _ ?_
          intro we hwe
          generalize (spendL bud es (stepOf x0) cost).1 = es' at *
          generalize (spendL bud es (stepOf x0) cost).2 = err at *
          rw [← hwe] at HRe
          clear hwe d0 d1 d2 d3 d4' d5' Hat3 HR HS HS2 HS3 HS4 hm0 g0 g1 g2 m0 m1 c0 cc0 e0 e1 hbc hszc hg3 hG
          have hG' := HRe.out.good
          have hfew := hG'.few
          have hsum := hG'.sum
          have htop := hG'.top
          have hnn := total_nn es' hG'.nn
          have n0 : we.cell? ⟨w.heap.size, 0, none⟩ = some (.int .i64 bud) := (HRe.out.m.cell 0).trans rfl
          have n1 : we.cell? ⟨w.heap.size, 1, none⟩ = some (.slice A3' es'.length c3') := (HRe.out.m.cell 1).trans rfl
          have hbige := HRe.out.big
          have HG' := Lib.hid hG'
          clear hG'
          go_wp2_with fail
          refine (ref_spent bud _ es' _ HRe.out.slm HG'.out).mono ?_
          rintro e wf ⟨rfl, rfl⟩
          obtain ⟨M, hM⟩ : ∃ M, M = Obj.cells #[.int .i64 bud, .slice A3' es'.length c3'] 25 := ⟨_, rfl⟩
          obtain ⟨E, hE⟩ : ∃ E, E = Obj.cells (entCells es').toArray 48 := ⟨_, rfl⟩
          have HRf := Lib.hid (HRe.out.alloc M)
          have HRg := Lib.hid ((HRe.out.alloc M).alloc E)
          have hE0 : Sl ((we.alloc M).alloc (Obj.cells (entCells es').toArray 48)) 2 (.slice (some ⟨we.heap.size + 1, 0, none⟩) es'.length es'.length) es'.length (entCells es') := by
            have := Sl.lit (we.alloc M) 48 2 es'.length (entCells es') (by simp only [maxLen]; omega) (entCells_len es')
            simpa using this
          have HE := Lib.hid hE0
          clear hE0
          have p0 : (we.alloc M).cell? ⟨w.heap.size, 0, none⟩ = some (.int .i64 bud) := (HRf.out.m.cell 0).trans rfl
          have p1 : (we.alloc M).cell? ⟨w.heap.size, 1, none⟩ = some (.slice A3' es'.length c3') := (HRf.out.m.cell 1).trans rfl
          have q0 : ((we.alloc M).alloc E).cell? ⟨w.heap.size, 0, none⟩ = some (.int .i64 bud) := (HRg.out.m.cell 0).trans rfl
          have q1 : ((we.alloc M).alloc E).cell? ⟨w.heap.size, 1, none⟩ = some (.slice A3' es'.length c3') := (HRg.out.m.cell 1).trans rfl
          subst hM
          subst hE
          go_upto_region 17 with (fail)
          have hwrap : IntKind.i64.wrap (bud - total es') = bud - total es' := IntWalk.i64_in _ (by omega)
          go_region_held3 (fun w' => w'.cell? ⟨w.heap.size, 0, none⟩ = some (.int .i64 bud) ∧ w'.cell? ⟨w.heap.size, 1, none⟩ = some (.slice A3' es'.length c3'))
            (first | exact ⟨p0, p1⟩ | exact ⟨q0, q1⟩)
            (first
              | (go_at_call 17; refine (spent_any _ (total es') _ (by exact HRf.out.led.c1)).mono ?_; rintro e w' ⟨rfl, rfl⟩)
              | (go_at_call 14; refine (Led.left (by exact HRf.out.led) (by omega) (by omega) (by omega)).mono ?_; rintro e w' ⟨rfl, nL, rfl⟩)
              | (go_at_call 18; refine (entries_any (w.heap.size + 1) v' bud (total es') es' _ (by exact HRf.out.led) (by omega)).mono ?_; rintro e w' ⟨rfl, rfl⟩)
              | (go_at_call 22; refine (same_yes _ _ es' _ (by exact HE.out) (by exact HRg.out.slm) (by omega)).mono ?_; rintro e w' ⟨rfl, n7, rfl⟩))
          clear hwrap
          go_wp2_with fail
          go_roundw
          case rel => exact ⟨k + 2, es', _, v', by go_num, by omega, by omega, ((((HRe.out.alloc _).drewN _).alloc _).drewN _)⟩
          case measure => simp [intOf]; omega
    · have hbl := hR.bel
      clear hR
      go_wp2_with fail
      refine (lives_any _).mono ?_
      rintro e w9 ⟨rfl, hl9⟩
      go_wp2_with fail
      go_ret
      exact ⟨rfl, hbl.trans (hl9.mono hbl.size)⟩
end Go.Proofs.Ytodoicilnbfgnaa
