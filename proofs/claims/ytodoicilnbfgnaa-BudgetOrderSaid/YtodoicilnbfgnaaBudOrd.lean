/- The walk of the law BudgetOrder. -/
import Derived.Test.YtodoicilnbfgnaaRef17c
namespace Go.Proofs.Ytodoicilnbfgnaa
open Go.RowKit

theorem below_dn {B : Nat} {a w : World} (h : Below B a w) (n : Nat) : Below B a (w.drewN n) := ⟨h.os, h.tape, h.output, h.size, h.block⟩

theorem total_drop (es : List (ByteArray × Int)) (i : Nat) (h : i < es.length) : total (es.drop i) = es[i].2 + total (es.drop (i + 1)) := by
  rw [List.drop_eq_getElem_cons h]
  simp only [total, List.map_cons, List.sum_cons]
theorem total_drop_le (es : List (ByteArray × Int)) (i : Nat) (h : ∀ e ∈ es, 0 ≤ e.2) : 0 ≤ total (es.drop i) ∧ total (es.drop i) ≤ total es := by
  have h1 := total_nn (es.take i) (fun e he => h e (List.mem_of_mem_take he))
  have h2 := total_nn (es.drop i) (fun e he => h e (List.mem_of_mem_drop he))
  have h3 := total_app (es.take i) (es.drop i)
  rw [List.take_append_drop] at h3
  omega

/-- What holds in BudgetOrder's loop: the first ledger bears the entries from jb on, backwards; the second those from jc on that it took. -/
structure OrdRel (w1 : World) (es : List (ByteArray × Int)) (v : Value) (bud cb : Int) (jb jc : Nat) (refused : Bool) (wr : World) (vb vc : Value) (eb ec : List (ByteArray × Int)) (sc : Int) : Prop where
  m : Blk wr w1.heap.size 25 #[.int .i64 bud, v]
  vlt : 0 < es.length → ∀ k, v.ownBlock = some k → k < w1.heap.size
  sl : Sl wr 2 v es.length (entCells es)
  lb : Led wr (w1.heap.size + 2) vb bud (total (es.drop jb)) eb
  lc : Led wr (w1.heap.size + 3) vc cb sc ec
  nb : eb.length + jb ≤ es.length
  nc : ec.length + jc ≤ es.length
  ob : ∀ k, vb.ownBlock = some k → w1.heap.size + 4 ≤ k
  oc : ∀ k, vc.ownBlock = some k → w1.heap.size + 4 ≤ k
  apart : ∀ k, vb.ownBlock = some k → vc.ownBlock ≠ some k
  sc0 : 0 ≤ sc
  sc1 : sc ≤ cb
  yes : refused = true → 0 < total es
  no : refused = false → sc = total (es.drop jc)
  bel : Below w1.heap.size w1 wr
  big : w1.heap.size + 4 ≤ wr.heap.size

section
variable {w1 : World} {es : List (ByteArray × Int)} {v : Value} {bud cb : Int} {refused : Bool} {wr wy : World} {vb vc : Value} {eb ec : List (ByteArray × Int)} {sc : Int}
theorem OrdRel.alloc {jb jc : Nat} (h : OrdRel w1 es v bud cb jb jc refused wr vb vc eb ec sc) (o : Obj) : OrdRel w1 es v bud cb jb jc refused (wr.alloc o) vb vc eb ec sc :=
  have f : Fr (fun _ => False) wr (wr.alloc o) := (Fr.refl _ _).alloc o
  { h with
    m := h.m.fr f id
    sl := h.sl.alloc o
    lb := h.lb.fr f id (fun _ _ => id)
    lc := h.lc.fr f id (fun _ _ => id)
    bel := h.bel.alloc h.bel.size o
    big := by have := h.big; simp; omega }
theorem OrdRel.drewN {jb jc : Nat} (h : OrdRel w1 es v bud cb jb jc refused wr vb vc eb ec sc) (n : Nat) : OrdRel w1 es v bud cb jb jc refused (wr.drewN n) vb vc eb ec sc :=
  { h with
    m := h.m.drewN n
    sl := h.sl
    lb := h.lb
    lc := h.lc
    bel := ⟨h.bel.os, h.bel.tape, h.bel.output, h.bel.size, h.bel.block⟩
    big := h.big }

theorem OrdRel.spendB {j : Nat} (h : OrdRel w1 es v bud cb (j + 1) (j + 1) refused wr vb vc eb ec sc) (hj : j < es.length) {vb' : Value}
    (hL : Led wy (w1.heap.size + 2) vb' bud (total (es.drop (j + 1)) + es[j].2) (eb ++ [(es[j].1, es[j].2)])) (hat : ∀ k, vb'.ownBlock = some k → vb.ownBlock = some k ∨ wr.heap.size ≤ k)
    (hf : Fr (fun k => k = w1.heap.size + 2 ∨ vb.ownBlock = some k) wr wy) : OrdRel w1 es v bud cb j (j + 1) refused wy vb' vc (eb ++ [(es[j].1, es[j].2)]) ec sc := {
  m := h.m.fr hf (by rintro (h1 | h1); (· omega); (· have := h.ob _ h1; omega))
  vlt := h.vlt
  sl := h.sl.fr2 hf (fun hn k _ hk => by have := h.vlt hn k hk; rintro (h1 | h1); (· omega); (· have := h.ob _ h1; omega))
  lb := by rw [total_drop es j hj, Int.add_comm]; exact hL
  lc := h.lc.fr hf (by rintro (h1 | h1); (· omega); (· have := h.ob _ h1; omega)) (fun k hk => by rintro (h1 | h1); (· have := h.oc _ hk; omega); (· exact h.apart k h1 hk))
  nb := by have := h.nb; simp; omega
  nc := h.nc
  ob := fun k hk => by
    rcases hat k hk with h1 | h1
    · exact h.ob k h1
    · have := h.big; omega
  oc := h.oc
  apart := fun k hk hc => by
    rcases hat k hk with h1 | h1
    · exact h.apart k h1 hc
    · have := own_lt h.lc.2 hc; omega
  sc0 := h.sc0
  sc1 := h.sc1
  yes := h.yes
  no := h.no
  bel := h.bel.trans (hf.below h.bel.size (fun i hi => by rintro (h1 | h1); (· omega); (· have := h.ob _ h1; omega)))
  big := by have := h.big; have := hf.size; omega }

theorem OrdRel.spendC {j : Nat} (h : OrdRel w1 es v bud cb j (j + 1) refused wr vb vc eb ec sc) (hj : j < es.length) {vc' : Value} (hc0 : 0 ≤ es[j].2) (hc1 : es[j].2 ≤ cb - sc)
    (hL : Led wy (w1.heap.size + 3) vc' cb (sc + es[j].2) (ec ++ [(es[j].1, es[j].2)])) (hat : ∀ k, vc'.ownBlock = some k → vc.ownBlock = some k ∨ wr.heap.size ≤ k)
    (hf : Fr (fun k => k = w1.heap.size + 3 ∨ vc.ownBlock = some k) wr wy) : OrdRel w1 es v bud cb j j refused wy vb vc' eb (ec ++ [(es[j].1, es[j].2)]) (sc + es[j].2) := {
  m := h.m.fr hf (by rintro (h1 | h1); (· omega); (· have := h.oc _ h1; omega))
  vlt := h.vlt
  sl := h.sl.fr2 hf (fun hn k _ hk => by have := h.vlt hn k hk; rintro (h1 | h1); (· omega); (· have := h.oc _ h1; omega))
  lb := h.lb.fr hf (by rintro (h1 | h1); (· omega); (· have := h.oc _ h1; omega)) (fun k hk => by rintro (h1 | h1); (· have := h.ob _ hk; omega); (· exact h.apart k hk h1))
  lc := hL
  nb := h.nb
  nc := by have := h.nc; simp; omega
  ob := h.ob
  oc := fun k hk => by
    rcases hat k hk with h1 | h1
    · exact h.oc k h1
    · have := h.big; omega
  apart := fun k hk hc => by
    rcases hat k hc with h1 | h1
    · exact h.apart k hk h1
    · have := own_lt h.lb.2 hk; omega
  sc0 := by have := h.sc0; omega
  sc1 := by omega
  yes := h.yes
  no := fun hr => by rw [total_drop es j hj, h.no hr]; omega
  bel := h.bel.trans (hf.below h.bel.size (fun i hi => by rintro (h1 | h1); (· omega); (· have := h.oc _ h1; omega)))
  big := by have := h.big; have := hf.size; omega }

theorem OrdRel.refuse {j : Nat} (h : OrdRel w1 es v bud cb j (j + 1) refused wr vb vc eb ec sc) (hn : ∀ e ∈ es, 0 ≤ e.2) (hj : j < es.length) (hc1 : cb - sc < es[j].2) : OrdRel w1 es v bud cb j j true wr vb vc eb ec sc :=
  { h with
    nc := by have := h.nc; omega
    yes := fun _ => by
      have h1 := total_drop es j hj
      have h2 := total_drop_le es (j + 1) hn
      have h3 := total_drop_le es j hn
      have := h.sc1
      omega
    no := fun hr => by cases hr }
end

/-- The loop's head. -/
def OrdHead (w1 : World) (es : List (ByteArray × Int)) (v : Value) (bud : Int) (r i : Value) (wr : World) : Prop :=
  ∃ (j : Nat) (b : Bool) (cb : Int) (vb vc : Value) (eb ec : List (ByteArray × Int)) (sc : Int), r = .bool b ∧ i = .int .i64 ((j : Int) - 1) ∧ OrdRel w1 es v bud cb j j b wr vb vc eb ec sc ∧ 0 ≤ cb ∧ cb ≤ 2147483648 ∧ (0 < total es → cb < total es)

theorem ord_start {w1 : World} {es : List (ByteArray × Int)} {A : Option Addr} {c : Nat} {bud cb : Int} (hS : Sl w1 2 (.slice A es.length c) es.length (entCells es)) (hcb : 0 ≤ cb) :
    OrdRel w1 es (.slice A es.length c) bud cb es.length es.length false ((((w1.alloc (.cells #[.int .i64 bud, .slice A es.length c] 25)).alloc (.cells #[.int .i64 bud, .slice A es.length c] 25)).alloc (.cells #[.int .i64 bud, .int .i64 0, .slice none 0 0] 64)).alloc (.cells #[.int .i64 cb, .int .i64 0, .slice none 0 0] 64))
      (.slice none 0 0) (.slice none 0 0) [] [] 0 := {
  m := (((Blk.new _ _ _).alloc _).alloc _).alloc _
  vlt := fun hn k hk => hS.own_lt hn hk
  sl := (((hS.alloc _).alloc _).alloc _).alloc _
  lb := ⟨by simpa [total_nil, Nat.add_assoc] using (Blk.new ((w1.alloc _).alloc _) 64 #[.int .i64 bud, .int .i64 0, .slice none 0 0]).alloc _, World.ownsRow_nil _ _ _ _⟩
  lc := ⟨by simpa [Nat.add_assoc] using Blk.new (((w1.alloc _).alloc _).alloc _) 64 _, World.ownsRow_nil _ _ _ _⟩
  nb := by simp
  nc := by simp
  ob := by simp [Value.ownBlock]
  oc := by simp [Value.ownBlock]
  apart := by simp [Value.ownBlock]
  sc0 := Int.le_refl _
  sc1 := hcb
  yes := by simp
  no := by simp [total]
  bel := ((((Below.refl _ _).alloc (Nat.le_refl _) _).alloc (by simp) _).alloc (by simp; omega) _).alloc (by simp; omega) _
  big := by simp }

set_option maxHeartbeats 2000000 in
theorem walk_BudgetOrder (w : World) (a0 : Int) (w0 : I64 a0) (v1 : Value) (z1 : List Int) (hz1 : Ints w v1 z1) (a2 : Int) (w2 : I64 a2) :
    Calls Try.prog 3 #[.int .i64 a0, v1, .int .i64 a2] w fun e w' => e = .returned (.bool true) ∧ Below w.heap.size w w' := by
  have H1 := Lib.hid hz1
  obtain ⟨⟨A0, c0, rfl, -⟩, -⟩ := hz1
  have hgood := ofL_good a0 z1
  have hb0 := arnd_nn a0 201 (by omega)
  have hb1 := arnd_lt a0 201 (by omega)
  have hx0 := arnd_nn a2 20 (by omega)
  have hx1 := arnd_lt a2 20 (by omega)
  go_enter Try.func3, Try.ntmps3
  go_wp2_with fail
  refine (ref_of a0 _ z1 _ w0 H1.out).mono ?_
  rintro e w1 ⟨A, c, rfl, hS, hbel⟩
  generalize ofL a0 z1 = es at *
  generalize arnd a0 201 = bud at *
  obtain ⟨hg, hlen⟩ := hgood
  have hsum := hg.sum
  have hnn := total_nn es hg.nn
  go_wp2_with fail
  refine (ref_spent bud _ es _ (hS.alloc _) hg).mono ?_
  rintro e w2' ⟨rfl, rfl⟩
  go_wp2_with fail
  refine (new_ok bud _ (by omega) (by omega)).mono ?_
  rintro e w3 ⟨rfl, rfl⟩
  go_wp2_with fail
  refine (around_any a2 20 _ w2 (by omega) (by omega)).mono ?_
  rintro e w4 ⟨rfl, rfl⟩
  generalize arnd a2 20 = x at *
  go_wp2_with fail
  all_goals
    refine (new_ok _ _ (by omega) (by omega)).mono ?_
    rintro e w5 ⟨rfl, rfl⟩
    go_wp2_with fail
    go_loopw [13, 14] (fun r i wr => OrdHead w1 es (.slice A es.length c) bud r i wr) (fun _ i _ => (intOf i + 1).toNat)
    case atStart =>
      refine ⟨es.length, false, _, (.slice none 0 0), (.slice none 0 0), [], [], 0, rfl, rfl, ord_start hS (by omega), by omega, by omega, by omega⟩
    case round =>
      obtain ⟨j, b, cb, vb, vc, eb, ec, sc, rfl, hk, hR, hcb0, hcb1, hcb2⟩ := hrel
      rcases j with _ | j
      · obtain rfl : u14 = .int .i64 (-1) := by simpa using hk
        clear hk
        have hLb := hR.lb
        have hm := hR.m
        rw [List.drop_zero] at hLb
        have hbl := hbel.trans (hR.bel.mono hbel.size)
        have hsz := hR.big
        have hb : decide (0 < total es) = b := by
          rcases b with _ | _
          · have h1 := hR.no rfl
            have h2 := hR.sc1
            rw [List.drop_zero] at h1
            simp
            omega
          · simp
            exact hR.yes rfl
        have cm : wr.cell? ⟨w1.heap.size, 0, none⟩ = some (.int .i64 bud) := (hm.cell 0).trans rfl
        have HR := Lib.hid hR
        have HLb := Lib.hid hLb
        clear hR hLb hm
        have hwrap : IntKind.i64.wrap (bud - total es) = bud - total es := IntWalk.i64_in _ (by omega)
        go_wp2_with fail
        go_region_held3 (fun w' => w'.cell? ⟨w1.heap.size, 0, none⟩ = some (.int .i64 bud)) (first | exact cm | (exact (hl.cell (by simp; omega)).trans cm))
          (first
            | (go_at_call 14; refine (Led.left (by exact HLb.out) (by omega) (by omega) (by omega)).mono ?_; rintro e w' ⟨rfl, n, rfl⟩)
            | (go_at_call 15; refine (lives_any _).mono ?_; rintro e w' ⟨rfl, hl⟩))
        go_wp2_with fail
        go_ret
        exact ⟨rfl, (below_dn hbl (1 + n)).trans (hl.mono hbl.size)⟩
      · obtain rfl : u14 = .int .i64 (j : Int) := by rw [hk]; congr 1; omega
        clear hk
        have hnb := hR.nb
        have hnc := hR.nc
        have hj : j < es.length := by omega
        have hbl := hbel.trans (hR.bel.mono hbel.size)
        have hsz := hR.big
        have hent := hg.ent es[j] (List.getElem_mem hj)
        have htd := total_drop es j hj
        have ht1 := total_drop_le es j hg.nn
        have ht2 := total_drop_le es (j + 1) hg.nn
        obtain ⟨b7, off, rfl, hb7, hc⟩ : ∃ b7 off, A = some ⟨b7, off, none⟩ ∧ b7 < wr.heap.size ∧ ∀ i u, (entCells es)[i]? = some u → wr.cell? ⟨b7, off + i, none⟩ = some u := by
          obtain ⟨A', c', e, _, _, _, h4⟩ := hR.sl
          simp at e
          obtain ⟨rfl, rfl⟩ := e
          exact h4 (by omega)
        have e0 := hc _ _ (entCells_at es j hj).1
        have e1 := hc _ _ (entCells_at es j hj).2
        rw [← Nat.add_assoc] at e1
        have m1 : wr.cell? ⟨w1.heap.size, 1, none⟩ = some (.slice (some ⟨b7, off, none⟩) es.length c) := (hR.m.cell 1).trans rfl
        have HR := Lib.hid hR
        have HG := Lib.hid hg
        clear hc hR hg
        obtain ⟨st, hst⟩ : ∃ st, st = es[j].1 := ⟨_, rfl⟩
        obtain ⟨co, hco⟩ : ∃ co, co = es[j].2 := ⟨_, rfl⟩
        have Hst := Lib.hid hst
        have Hco := Lib.hid hco
        rw [← hst, ← hco] at hent
        rw [← hst] at e0
        rw [← hco] at e1 htd
        have Htd := Lib.hid htd
        have hle1 : co ≤ bud - total (List.drop (j + 1) es) := by omega
        clear hst hco htd
        go_wp2_with fail
        refine (spend_ok (w1.heap.size + 2) vb bud (total (es.drop (j + 1))) eb st co _ (HR.out.alloc _).lb (by omega) (by omega) (by omega) (by omega) hle1 (by omega) (by omega)).mono ?_
        rintro e w5 ⟨rfl, vb', hL5, hat5, hf5⟩
        have hR5 : OrdRel w1 es (.slice (some ⟨b7, off, none⟩) es.length c) bud cb j (j + 1) b w5 vb' vc (eb ++ [(es[j].1, es[j].2)]) ec sc := by
          rw [Hst.out, Hco.out] at hL5
          exact (HR.out.alloc _).spendB hj hL5 hat5 hf5
        have x5 : Blk w5 wr.heap.size 34 #[.string st, .int .i64 co] := (Blk.new wr _ _).fr hf5 (by
          rintro (h1 | h1)
          · omega
          · have := own_lt HR.out.lb.2 h1; omega)
        have x0 : w5.cell? ⟨wr.heap.size, 0, none⟩ = some (.string st) := (x5.cell 0).trans rfl
        have x1 : w5.cell? ⟨wr.heap.size, 1, none⟩ = some (.int .i64 co) := (x5.cell 1).trans rfl
        have HR5 := Lib.hid hR5
        clear hL5 hat5 hf5 hR5 x5
        have hsc0 := HR.out.sc0
        have hsc1 := HR.out.sc1
        by_cases hco2 : co ≤ cb - sc
        · go_wp2_with fail
          refine (spend_ok (w1.heap.size + 3) vc cb sc ec st co _ HR5.out.lc (by omega) (by omega) (by omega) (by omega) hco2 (by omega) (by omega)).mono ?_
          rintro e w6 ⟨rfl, vc', hL6, hat6, hf6⟩
          have hR6 : OrdRel w1 es (.slice (some ⟨b7, off, none⟩) es.length c) bud cb j j b w6 vb' vc' (eb ++ [(es[j].1, es[j].2)]) (ec ++ [(es[j].1, es[j].2)]) (sc + es[j].2) := by
            rw [Hst.out, Hco.out] at hL6
            exact HR5.out.spendC hj (by rw [← Hco.out]; omega) (by rw [← Hco.out]; omega) hL6 hat6 hf6
          have HR6 := Lib.hid hR6
          clear hL6 hat6 hf6 hR6
          go_wp2_with fail
          go_roundw
          case rel => exact ⟨j, b, cb, vb', vc', _, _, _, rfl, rfl, HR6.out, hcb0, hcb1, hcb2⟩
          case measure => simp [intOf]
        · go_wp2_with fail
          refine (spend_over (w1.heap.size + 3) vc cb sc ec st co _ HR5.out.lc (by omega) (by omega) (by omega) (by omega) (by omega) (by omega) (by omega)).mono ?_
          rintro e w6 ⟨rfl, n6, rfl⟩
          have hR6 := (HR5.out.refuse HG.out.nn hj (by rw [← Hco.out]; omega)).drewN n6
          have HR6 := Lib.hid hR6
          clear hR6
          go_wp2_with fail
          go_roundw
          case rel => exact ⟨j, true, cb, vb', vc, _, _, _, rfl, rfl, HR6.out, hcb0, hcb1, hcb2⟩
          case measure => simp [intOf]
end Go.Proofs.Ytodoicilnbfgnaa
