/- Contracts of Ints, ledger and same. -/
import Derived.Test.YtodoicilnbfgnaaRef17c
namespace Go.Proofs.Ytodoicilnbfgnaa
open Go.RowKit

theorem below_dn {B : Nat} {a w : World} (h : Below B a w) (n : Nat) : Below B a (w.drewN n) := ⟨h.os, h.tape, h.output, h.size, h.block⟩

theorem Sl.take {w : World} {size n c : Nat} {A : Option Addr} {xs : List Value} (h : Sl w size (.slice A n c) n xs) (k : Nat) (hk : k ≤ n) : Sl w size (.slice A k c) k (xs.take (k * size)) := by
  obtain ⟨A', c', e, h1, h2, h3, h4⟩ := h
  simp at e
  obtain ⟨rfl, rfl⟩ := e
  refine ⟨A, c, rfl, by omega, h2, ?_, fun hn => ?_⟩
  · rw [List.length_take, h3, Nat.min_eq_left (Nat.mul_le_mul_right _ hk)]
  · obtain ⟨b, off, rfl, hb, hc⟩ := h4 (by omega)
    refine ⟨b, off, rfl, hb, fun j u hu => hc j u ?_⟩
    rw [List.getElem?_take] at hu
    split at hu
    · exact hu
    · cases hu

theorem Try.infoInt : (Try.prog.info? 3).map (fun i => (i.zero, i.size, i.bytes)) = some (some (.int .i64 0), 1, 8) := by kernel_rfl

/-- A slice of ints of the call's own comes back. -/
def IntsOk (w : World) (zs : List Int) (e : Ending) (w' : World) : Prop :=
  ∃ A c, e = .returned (.slice A zs.length c) ∧ w'.ownsRow w.heap.size 3 1 (.slice A zs.length c) zs.length (zs.map (Value.int .i64)) ∧ Below w.heap.size w w'

theorem ints_any (v : Value) (zs : List Int) (most : Nat) (w : World) (h : Ints w v zs) (hm : most ≤ 1000000) :
    Calls Try.prog 19 #[v, .int .i64 (most : Int)] w (IntsOk w (zs.take most)) := by
  have H := Lib.hid h
  obtain ⟨⟨A, c, rfl, h1, h2, -⟩, -⟩ := h
  unfold maxLen at h2
  obtain ⟨i0, hi, hz0, hz1, hz2⟩ := info_parts Try.infoInt
  have Hi := Lib.hid hi
  have Hz0 := Lib.hid hz0
  have Hz1 := Lib.hid hz1
  have Hz2 := Lib.hid hz2
  clear hi hz0 hz1 hz2
  by_cases hle : zs.length ≤ most
  · have e : zs.take most = zs := List.take_of_length_le hle
    have E := Lib.hid e
    clear e
    go_enter Try.func19, Try.ntmps19
    go_wp2_with (at_builtin; refine wpList_append_sl _ rfl (.tmp 6) (.tmp 12) 22 rfl w.heap.size 3 i0 _ 1 8 Try.underlying22 Hi.out Hz0.out Hz1.out Hz2.out rfl (by omega) (.slice none 0 0) 0 [] rfl (World.ownsRow_nil _ _ _ _) (.slice A zs.length c) zs.length (zs.map (Value.int .i64)) rfl H.out.1 (ints_oneCell _ _) zs.length (zs.map (Value.int .i64)) (by omega) rfl (by simp only [maxLen]; omega) (by omega) (Nat.le_refl _) ?_; intro A1 d1 W2 hown1 hgr1 hat1; have hat1' := Lib.hid hat1; clear hat1)
    go_ret
    rw [E.out]
    exact ⟨A1, d1, rfl, hown1, (Below.refl _ _).grown hgr1 (Nat.le_refl _) (by simp [Value.ownBlock])⟩
  · have hlen : (zs.take most).length = most := by rw [List.length_take]; omega
    have hS := H.out.1.take most (by omega)
    rw [Nat.mul_one, ← List.map_take] at hS
    have HS := Lib.hid hS
    have Hl := Lib.hid hlen
    clear hS hlen
    go_enter Try.func19, Try.ntmps19
    go_wp2_with (at_builtin; refine wpList_append_sl _ rfl (.tmp 6) (.tmp 12) 22 rfl w.heap.size 3 i0 _ 1 8 Try.underlying22 Hi.out Hz0.out Hz1.out Hz2.out rfl (by omega) (.slice none 0 0) 0 [] rfl (World.ownsRow_nil _ _ _ _) (.slice A most c) most ((zs.take most).map (Value.int .i64)) rfl HS.out (ints_oneCell _ _) most ((zs.take most).map (Value.int .i64)) (by omega) rfl (by simp only [maxLen]; omega) (by omega) (Nat.le_refl _) ?_; intro A1 d1 W2 hown1 hgr1 hat1; have hat1' := Lib.hid hat1; clear hat1)
    go_ret
    refine ⟨A1, d1, ?_, ?_, (Below.refl _ _).grown hgr1 (Nat.le_refl _) (by simp [Value.ownBlock])⟩
    · rw [Hl.out]; rfl
    · rw [Hl.out]; exact hown1

theorem same_yes (va vb : Value) (es : List (ByteArray × Int)) (w : World) (ha : Sl w 2 va es.length (entCells es)) (hb : Sl w 2 vb es.length (entCells es)) (hl : es.length ≤ 1000) :
    Calls Try.prog 22 #[va, vb] w fun e w' => e = .returned (.bool true) ∧ ∃ n, w' = w.drewN n := by
  obtain ⟨A, c, rfl, -, -, -, ha4⟩ := ha
  obtain ⟨B, d, rfl, -, -, -, hb4⟩ := hb
  have Ha := Lib.hid ha4
  have Hb := Lib.hid hb4
  clear ha4 hb4
  go_enter Try.func22, Try.ntmps22
  go_wp2
  go_loopw [5] (fun i wr => ∃ (k n : Nat), k ≤ es.length ∧ i = .int .i64 k ∧ wr = w.drewN n) (fun i _ => es.length - (intOf i).toNat)
  case atStart => exact ⟨0, 0, Nat.zero_le _, rfl, rfl⟩
  case round =>
    obtain ⟨k, n, hk, rfl, rfl⟩ := hrel
    by_cases hlt : k < es.length
    · obtain ⟨b1, o1, rfl, hb1, hc1⟩ := Ha.out (by omega)
      obtain ⟨b2, o2, rfl, hb2, hc2⟩ := Hb.out (by omega)
      have e0 := hc1 _ _ (entCells_at es k hlt).1
      have e1 := hc1 _ _ (entCells_at es k hlt).2
      have f0 := hc2 _ _ (entCells_at es k hlt).1
      have f1 := hc2 _ _ (entCells_at es k hlt).2
      rw [← Nat.add_assoc] at e1 f1
      clear hc1 hc2
      generalize es[k].1 = st at *
      generalize es[k].2 = co at *
      have r5 : (k : Int) < (es.length : Int) := by omega
      go_wp2
      go_quiet (fail)
      go_wp2
      go_roundw
      case rel => exact ⟨k + 1, n + nq, by omega, by go_num, by first | rfl | simp⟩
      case measure => simp [intOf]; omega
    · go_wp2
      go_ret
      exact ⟨rfl, n, rfl⟩

/-- The ledger that 'ledger' returns. -/
def LedgerOk (w : World) (bud : Int) (es : List (ByteArray × Int)) (e : Ending) (w' : World) : Prop :=
  e = .returned (.pointer (some ⟨w.heap.size + 1, 0, none⟩)) ∧ ∃ v, Led w' (w.heap.size + 1) v bud (total es) es ∧ (∀ k, v.ownBlock = some k → w.heap.size + 2 ≤ k) ∧ Below w.heap.size w w'

/-- At the head of ledger's loop. -/
structure LedRel (w : World) (bud : Int) (es : List (ByteArray × Int)) (A : Option Addr) (c : Nat) (k : Nat) (wr : World) (v : Value) : Prop where
  box : Blk wr w.heap.size 25 #[.int .i64 bud, .slice A es.length c]
  led : Led wr (w.heap.size + 1) v bud (total (es.take k)) (es.take k)
  own : ∀ i, v.ownBlock = some i → w.heap.size + 2 ≤ i
  bel : Below w.heap.size w wr
  big : w.heap.size + 2 ≤ wr.heap.size

theorem LedRel.step {w : World} {bud : Int} {es : List (ByteArray × Int)} {A : Option Addr} {c k : Nat} {wr wy : World} {v v' : Value} (h : LedRel w bud es A c k wr v) (hk : k < es.length)
    (hL : Led wy (w.heap.size + 1) v' bud (total (es.take k) + es[k].2) (es.take k ++ [(es[k].1, es[k].2)])) (hat : ∀ i, v'.ownBlock = some i → v.ownBlock = some i ∨ wr.heap.size ≤ i)
    (hf : Fr (fun i => i = w.heap.size + 1 ∨ v.ownBlock = some i) wr wy) : LedRel w bud es A c (k + 1) wy v' := {
  box := h.box.fr hf (by rintro (h1 | h1); (· omega); (· have := h.own _ h1; omega))
  led := by rw [total_snoc es k hk, List.take_succ_eq_append_getElem hk]; exact hL
  own := fun i hi => by
    rcases hat i hi with h1 | h1
    · exact h.own i h1
    · have := h.big; omega
  bel := h.bel.trans (hf.below h.bel.size (fun i hi => by rintro (h1 | h1); (· omega); (· have := h.own _ h1; omega)))
  big := by have := h.big; have := hf.size; omega }

theorem ledger_any (bud : Int) (A : Option Addr) (c : Nat) (es : List (ByteArray × Int)) (w : World) (h : Sl w 2 (.slice A es.length c) es.length (entCells es)) (hg : Good bud es) (hb0 : 0 ≤ bud) :
    Calls Try.prog 23 #[.agg #[.int .i64 bud, .slice A es.length c]] w (LedgerOk w bud es) := by
  have hS := Lib.hid h
  have htop := hg.top
  have hfew := hg.few
  go_enter Try.func23, Try.ntmps23
  go_wp2_with fail
  refine (new_ok bud _ hb0 htop).mono ?_
  rintro e w1 ⟨rfl, rfl⟩
  go_wp2_with fail
  go_loopw [5] (fun i wr => ∃ (k : Nat) (v : Value), k ≤ es.length ∧ i = .int .i64 k ∧ LedRel w bud es A c k wr v) (fun i _ => es.length - (intOf i).toNat)
  case atStart =>
    refine ⟨0, .slice none 0 0, Nat.zero_le _, rfl, ?_⟩
    exact { box := (Blk.new _ _ _).alloc _, led := ⟨by simpa [total_nil] using Blk.new (w.alloc _) 64 #[.int .i64 bud, .int .i64 0, .slice none 0 0], World.ownsRow_nil _ _ _ _⟩, own := by simp [Value.ownBlock], bel := by go_grown, big := by simp }
  case round =>
    obtain ⟨k, v, hk, rfl, hR⟩ := hrel
    have m1 : wr.cell? ⟨w.heap.size, 1, none⟩ = some (.slice A es.length c) := (hR.box.cell 1).trans rfl
    by_cases hlt : k < es.length
    · have hs := hg.sum
      have htk := total_take es k hg.nn
      have htk1 := total_take es (k + 1) hg.nn
      have hsn := total_snoc es k hlt
      have hent := hg.ent es[k] (List.getElem_mem hlt)
      obtain ⟨b7, off, rfl, hb7, hc⟩ : ∃ b7 off, A = some ⟨b7, off, none⟩ ∧ b7 < w.heap.size ∧ ∀ i u, (entCells es)[i]? = some u → w.cell? ⟨b7, off + i, none⟩ = some u := by
        obtain ⟨A', c', e, _, _, _, h4⟩ := hS.out
        simp at e
        obtain ⟨rfl, rfl⟩ := e
        exact h4 (by omega)
      have e0 := (hR.bel.cell (p := ⟨b7, off + k * 2, none⟩) hb7).trans (hc _ _ (entCells_at es k hlt).1)
      have e1 := (hR.bel.cell (p := ⟨b7, off + (k * 2 + 1), none⟩) hb7).trans (hc _ _ (entCells_at es k hlt).2)
      rw [← Nat.add_assoc] at e1
      obtain ⟨st, hst⟩ : ∃ st, st = es[k].1 := ⟨_, rfl⟩
      obtain ⟨co, hco⟩ : ∃ co, co = es[k].2 := ⟨_, rfl⟩
      have Hst := Lib.hid hst
      have Hco := Lib.hid hco
      rw [← hst, ← hco] at hent
      rw [← hst] at e0
      rw [← hco] at e1 hsn
      have HR := Lib.hid hR
      have hle : co ≤ bud - total (es.take k) := by omega
      have hsz := hR.big
      have hln : (es.take k).length ≤ 1000 := by rw [List.length_take]; omega
      clear hst hco hsn hc hR hg
      have r5 : (k : Int) < (es.length : Int) := by omega
      go_wp2_with fail
      go_region_held3 (fun w' => w'.cell? ⟨w.heap.size, 1, none⟩ = some (.slice (some ⟨b7, off, none⟩) es.length c) ∧ w'.cell? ⟨b7, off + k * 2, none⟩ = some (.string st) ∧ w'.cell? ⟨b7, off + k * 2 + 1, none⟩ = some (.int .i64 co))
        (first | exact ⟨m1, e0, e1⟩ | exact ⟨y0, y1, y2⟩)
        (first
          | (go_at_call 13; refine (spend_ok (w.heap.size + 1) v bud (total (es.take k)) (es.take k) st co _ (by exact HR.out.led) (by omega) (by omega) (by omega) (by omega) hle (by omega) (by omega)).mono ?_; rintro e w' ⟨rfl, v', hL', hat', hf'⟩; have hR' : LedRel w bud es (some ⟨b7, off, none⟩) c (k + 1) w' v' := (HR.out.step hlt (by rw [← Hst.out, ← Hco.out]; exact hL') hat' ⟨hf'.os, hf'.tape, hf'.output, hf'.size, hf'.block⟩); have HR' := Lib.hid hR'; have y0 : w'.cell? ⟨w.heap.size, 1, none⟩ = some (.slice (some ⟨b7, off, none⟩) es.length c) := (hR'.box.cell 1).trans rfl; have y1 : w'.cell? ⟨b7, off + k * 2, none⟩ = some (.string st) := (hf'.cell (p := ⟨b7, off + k * 2, none⟩) (by simp; omega) (by rintro (h1 | h1); (· simp at h1; omega); (· have := HR.out.own _ h1; simp at this; omega))).trans e0; have y2 : w'.cell? ⟨b7, off + k * 2 + 1, none⟩ = some (.int .i64 co) := (hf'.cell (p := ⟨b7, off + k * 2 + 1, none⟩) (by simp; omega) (by rintro (h1 | h1); (· simp at h1; omega); (· have := HR.out.own _ h1; simp at this; omega))).trans e1; clear hL' hat' hf' hR'))
      go_wp2_with fail
      go_roundw
      case rel => exact ⟨k + 1, v', by omega, by go_num, HR'.out⟩
      case measure => simp [intOf]; omega
    · have hk2 : k = es.length := by omega
      have hR2 : LedRel w bud es A c es.length wr v := hk2 ▸ hR
      clear hR hk2
      have HR := Lib.hid hR2
      clear hR2
      go_wp2
      go_ret
      refine ⟨rfl, v, ?_, HR.out.own, HR.out.bel⟩
      have := HR.out.led
      rw [List.take_length] at this
      exact this
end Go.Proofs.Ytodoicilnbfgnaa
