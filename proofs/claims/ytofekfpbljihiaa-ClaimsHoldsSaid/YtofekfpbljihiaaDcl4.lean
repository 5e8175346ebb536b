/- The reference's New, Same, Valid at label sets. -/
import Derived.Test.YtofekfpbljihiaaDcl3
namespace Go.Proofs.Ytofekfpbljihiaa
open Go.RowKit
set_option linter.unusedVariables false

theorem below_dn {B : Nat} {a w : World} (h : Below B a w) (n : Nat) : Below B a (w.drewN n) := ⟨h.os, h.tape, h.output, h.size, h.block⟩

theorem Try.infoLab : (Try.prog.info? 108).map (fun i => (i.zero, i.size, i.bytes)) = some (some (.agg #[.string ByteArray.empty, .string ByteArray.empty]), 2, 32) := by kernel_rfl

theorem labCells_snoc (l : List (ByteArray × ByteArray)) (k : Nat) (h : k < l.length) : labCells (l.take k) ++ [.string l[k].1, .string l[k].2] = labCells (l.take (k + 1)) := by
  rw [List.take_succ_eq_append_getElem h]
  simp only [labCells, List.flatMap_append, List.flatMap_cons, List.flatMap_nil, List.append_nil]

/-- A slice of labels of the call's own. -/
def LabOwn (w : World) (wr : World) (v : Value) (l : List (ByteArray × ByteArray)) (k : Nat) : Prop := wr.ownsRow w.heap.size 108 2 v k (labCells (l.take k))

def NewOk (w : World) (l : List (ByteArray × ByteArray)) (e : Ending) (w' : World) : Prop :=
  ∃ A c, e = .returned (.tuple #[.slice A l.length c, .int .i64 0]) ∧ Sl w' 2 (.slice A l.length c) l.length (labCells l) ∧ Below w.heap.size w w'

/-- At the head of New's inner loop. -/
def NewIn (w : World) (l : List (ByteArray × ByteArray)) (k : Nat) (out : Value) (nx j : Value) (wr : World) : Prop :=
  ∃ (m : Nat) (N : Option Addr) (dn : Nat), m ≤ k ∧ j = .int .i64 m ∧ nx = .slice N m dn ∧ wr.ownsRow w.heap.size 108 2 (.slice N m dn) m (labCells (l.take m)) ∧ wr.ownsRow w.heap.size 108 2 out k (labCells (l.take k)) ∧
    (∀ i, (Value.slice N m dn).ownBlock = some i → out.ownBlock ≠ some i) ∧ Below w.heap.size w wr

theorem own_cap {w : World} {base : Nat} {e : TypeId} {size n d : Nat} {A : Option Addr} {xs : List Value} (h : w.ownsRow base e size (.slice A n d) n xs) : n ≤ d ∧ d ≤ maxLen := by
  rcases h.2 with ⟨hv, rfl⟩ | ⟨g, cap, cur, hv, _, _, h1, h2, _⟩
  · simp at hv
    obtain ⟨_, rfl⟩ := hv
    exact ⟨Nat.le_refl _, Nat.zero_le _⟩
  · simp at hv
    obtain ⟨_, rfl⟩ := hv
    exact ⟨h1, h2⟩
theorem sl_zero (w : World) (size : Nat) (A : Option Addr) (c : Nat) (h : c ≤ maxLen) : Sl w size (.slice A 0 c) 0 [] := ⟨A, c, rfl, Nat.zero_le _, h, by simp, fun h => absurd h (by omega)⟩

theorem new_bel {w wr W4 W5 : World} {l : List (ByteArray × ByteArray)} {m nq : Nat} {N A4 : Option Addr} {dn d4 : Nat} {o : Obj} (hb : Below w.heap.size w wr)
    (hnx : wr.ownsRow w.heap.size 108 2 (.slice N m dn) m (labCells (l.take m))) (h4 : W4.ownsRow w.heap.size 108 2 (.slice A4 (m + 1) d4) (m + 1) (labCells (l.take (m + 1))))
    (hg : ((wr.drewN nq).alloc o).grownBy W4 (Value.slice N m dn).ownBlock) (hg5 : W4.grownBy W5 (Value.slice A4 (m + 1) d4).ownBlock) : Below w.heap.size w W5 := by
  have hs := hb.size
  have hb4 : Below w.heap.size w W4 := ((below_dn hb nq).alloc hs o).grown hg (by simp; omega) (fun i hi => (hnx.lt i hi).1)
  exact hb4.grown hg5 hb4.size (fun i hi => (h4.lt i hi).1)

theorem new_in_step {w wr W4 : World} {l : List (ByteArray × ByteArray)} {k m nq : Nat} {out : Value} {N A4 : Option Addr} {dn d4 : Nat} {o : Obj} (hm : m + 1 ≤ k)
    (hnx : wr.ownsRow w.heap.size 108 2 (.slice N m dn) m (labCells (l.take m))) (hout : wr.ownsRow w.heap.size 108 2 out k (labCells (l.take k)))
    (hap : ∀ i, (Value.slice N m dn).ownBlock = some i → out.ownBlock ≠ some i) (hb : Below w.heap.size w wr)
    (h4 : W4.ownsRow w.heap.size 108 2 (.slice A4 (m + 1) d4) (m + 1) (labCells (l.take (m + 1)))) (hg : ((wr.drewN nq).alloc o).grownBy W4 (Value.slice N m dn).ownBlock)
    (hat : ∀ i, (Value.slice A4 (m + 1) d4).ownBlock = some i → (Value.slice N m dn).ownBlock = some i ∨ i = ((wr.drewN nq).alloc o).heap.size) :
    NewIn w l k out (.slice A4 (m + 1) d4) (.int .i64 ((m : Int) + 1)) W4 := by
  have hs := hb.size
  refine ⟨m + 1, A4, d4, hm, by simp, rfl, h4, ?_, ?_, ?_⟩
  · refine World.ownsRow.kept (w := (wr.drewN nq).alloc o) (World.ownsRow.alloc (w := wr.drewN nq) hout o) hg ?_
    cases ho : out.ownBlock with
    | none => exact .inl rfl
    | some i => exact .inr (fun e => hap i e.symm ho)
  · intro i hi hoi
    rcases hat i hi with h | h
    · exact hap i h hoi
    · have := (hout.lt i hoi).2
      simp at h
      omega
  · exact ((below_dn hb nq).alloc hs o).grown hg (by simp; omega) (fun i hi => (hnx.lt i hi).1)

set_option maxRecDepth 100000 in
set_option maxHeartbeats 2000000 in
theorem ref_new (v : Value) (l : List (ByteArray × ByteArray)) (w : World) (hS : Sl w 2 v l.length (labCells l)) (hl : LabSet l) : Calls Try.prog 94 #[v] w (NewOk w l) := by
  obtain ⟨A, c, rfl, -, -, -, h4⟩ := hS
  have hf := hl.few
  have H4 := Lib.hid h4
  have HL := Lib.hid hl
  clear h4 hl
  obtain ⟨i0, hi, hz0, hz1, hz2⟩ := info_parts Try.infoLab
  have Hi := Lib.hid hi
  have Hz0 := Lib.hid hz0
  have Hz1 := Lib.hid hz1
  have Hz2 := Lib.hid hz2
  clear hi hz0 hz1 hz2
  go_enter Try.func94, Try.ntmps94
  go_wp2
  go_loopw [4, 5] (fun o i wr => ∃ (k : Nat) (B : Option Addr) (d : Nat), k ≤ l.length ∧ i = .int .i64 k ∧ o = .slice B k d ∧ LabOwn w wr (.slice B k d) l k ∧ Below w.heap.size w wr) (fun _ i _ => l.length - (intOf i).toNat)
  case atStart => exact ⟨0, none, 0, Nat.zero_le _, rfl, rfl, World.ownsRow_nil _ _ _ _, Below.refl _ _⟩
  case round =>
    obtain ⟨k, B, d, hk, rfl, rfl, hown, hb⟩ := hrel
    by_cases hlt : k < l.length
    · obtain ⟨b, off, rfl, hbb, hc⟩ := H4.out (by omega)
      have w0 := hc _ _ (labCells_at l k hlt).1
      have w1 := hc _ _ (labCells_at l k hlt).2
      rw [← Nat.add_assoc] at w1
      have c0 := (hb.cell (p := ⟨b, off + k * 2, none⟩) hbb).trans w0
      have c1 := (hb.cell (p := ⟨b, off + k * 2 + 1, none⟩) hbb).trans w1
      have hn := HL.out.name k hlt
      have hv := HL.out.value k hlt
      have hne := HL.out.full k hlt
      have hns := nameB_size hn
      have hvs := valueB_size hv
      have Hup : Hid (∀ i, (h : i < k) → Op.bytesLess l[i].1.toList l[k].1.toList = true) := Lib.hid (fun i h => HL.out.up i k h hlt)
      have Hsn := Lib.hid (labCells_snoc l k hlt)
      generalize hnm : l[k].1 = nm at *
      generalize hvl : l[k].2 = vl at *
      have hne2 : vl.toList.isEmpty = false := by simpa using hne
      have hsz := hb.size
      clear hc hnm hvl
      go_wp2_with fail
      refine (ref_name_any nm _ (by omega)).mono ?_
      rintro e wx ⟨rfl, rfl⟩
      rw [hn]
      go_wp2_with fail
      refine (ref_value_any vl _ (by omega)).mono ?_
      rintro e wx ⟨rfl, rfl⟩
      rw [hv]
      go_wp2_with fail
      obtain ⟨wo, rfl⟩ : ∃ wo : World, wo = wr := ⟨_, rfl⟩
      have Hown := Lib.hid hown
      clear hown
      go_loopw [6, 7] (fun nx j wr => NewIn w l k (.slice B k d) nx j wr) (fun _ j _ => k - (intOf j).toNat)
      case atStart => exact ⟨0, none, 0, Nat.zero_le _, rfl, rfl, World.ownsRow_nil _ _ _ _, Hown.out, by simp [Value.ownBlock], hb⟩
      case round =>
        obtain ⟨m, N, dn, hm, rfl, rfl, hnx, hout, hap, hbi⟩ := hrel
        have ci0 := (hbi.cell (p := ⟨b, off + k * 2, none⟩) hbb).trans w0
        have ci1 := (hbi.cell (p := ⟨b, off + k * 2 + 1, none⟩) hbb).trans w1
        have hszi := hbi.size
        by_cases hmk : m < k
        · obtain ⟨g, cap, hv2, hgb, hgl⟩ := hout.form (by omega)
          simp only [Value.slice.injEq, true_and] at hv2
          obtain ⟨rfl, rfl⟩ := hv2
          have hml : m < (l.take k).length := by rw [List.length_take]; omega
          have y0 : wr.cell? ⟨g, m * 2, none⟩ = some (.string l[m].1) := by
            rw [hout.cellAt (m * 2) (by omega), (labCells_at (l.take k) m hml).1]
            simp
          have y1 : wr.cell? ⟨g, m * 2 + 1, none⟩ = some (.string l[m].2) := by
            rw [hout.cellAt (m * 2 + 1) (by omega), (labCells_at (l.take k) m hml).2]
            simp
          have y2 := Hup.out m hmk
          have hsn := labCells_snoc l m (by omega)
          have Hsnm := Lib.hid hsn
          have Hnx := Lib.hid hnx
          have Hout := Lib.hid hout
          have Hap := Lib.hid hap
          clear hsn hnx hout hap
          generalize l[m].1 = pn at *
          generalize l[m].2 = pv at *
          have r5 : (m : Int) < (k : Int) := by omega
          have r6 : (k : Int) < (l.length : Int) := by omega
          go_wp2
          go_quiet (fail)
          go_wp2_with (at_builtin; refine wpList_append_sl _ rfl (.tmp 56) (.tmp 61) 23 rfl w.heap.size 108 i0 _ 2 32 Try.underlying23 Hi.out Hz0.out Hz1.out Hz2.out rfl (by omega) (.slice N m dn) m (labCells (l.take m)) rfl (World.ownsRow.alloc (w := wr.drewN nq) Hnx.out _) (.slice (some ⟨wr.heap.size, 0, none⟩) 1 1) 1 [.string pn, .string pv] rfl (Sl.lit (wr.drewN nq) 108 2 1 [.string pn, .string pv] (by simp [maxLen]) rfl) (by simp [Value.oneCell']) (m + 1) (labCells (l.take (m + 1))) rfl Hsnm.out (by simp only [maxLen]; omega) (by omega) (by simp; omega) ?_; intro A4 d4 W4 hown4 hgr4 hat4; have hat4' := Lib.hid hat4; clear hat4)
          exact ⟨new_in_step (by omega) Hnx.out Hout.out Hap.out hbi hown4 hgr4 hat4'.out, by simp [intOf]; omega⟩
        · obtain rfl : m = k := by omega
          have r1 : decide ((m : Int) < (m : Int)) = false := decide_eq_false (by omega)
          have Hnx := Lib.hid hnx
          have Hout := Lib.hid hout
          have Hap := Lib.hid hap
          clear hnx hout hap hm hmk
          go_upto_region 13 with (fail)
          go_quiet (fail)
          go_upto_region 16 with (fail)
          go_quiet (fail)
          have hdl : m ≤ d ∧ d ≤ maxLen := own_cap Hout.out
          obtain ⟨hdl1, hdl2⟩ := hdl
          have Hdl2 := Lib.hid hdl2
          clear hdl2
          by_cases hdm : d = m
          · subst hdm
            go_wp2_with (first
              | (at_builtin; refine wpList_append_sl _ rfl (.tmp 82) (.tmp 87) 23 rfl w.heap.size 108 i0 _ 2 32 Try.underlying23 Hi.out Hz0.out Hz1.out Hz2.out rfl (by omega) (.slice N d dn) d (labCells (l.take d)) rfl (World.ownsRow.alloc (w := wr.drewN _) Hnx.out _) (.slice (some ⟨wr.heap.size, 0, none⟩) 1 1) 1 [.string nm, .string vl] rfl (Sl.lit (wr.drewN _) 108 2 1 [.string nm, .string vl] (by simp [maxLen]) rfl) (by simp [Value.oneCell']) (d + 1) (labCells (l.take (d + 1))) rfl Hsn.out (by simp only [maxLen]; omega) (by omega) (by simp; omega) ?_; intro A4 d4 W4 hown4 hgr4 hat4; have hat4' := Lib.hid hat4; clear hat4; have hsz4 := hgr4.size)
              | (at_builtin; refine wpList_append_sl _ rfl (.tmp 89) (.tmp 92) 23 rfl w.heap.size 108 i0 _ 2 32 Try.underlying23 Hi.out Hz0.out Hz1.out Hz2.out rfl (by omega) (.slice A4 (d + 1) d4) (d + 1) (labCells (l.take (d + 1))) rfl hown4 (.slice _ 0 _) 0 [] rfl (sl_zero _ _ _ _ (by first | exact Nat.zero_le _ | exact Nat.le_trans (Nat.sub_le _ _) Hdl2.out)) (by simp) (d + 1) (labCells (l.take (d + 1))) (by omega) (by simp) (by simp only [maxLen]; omega) (by omega) (by simp at hsz4; omega) ?_; intro A5 d5 W5 hown5 hgr5 hat5; have hat5' := Lib.hid hat5; clear hat5))
            exact ⟨⟨d + 1, A5, d5, by omega, by go_num, rfl, hown5, new_bel hbi Hnx.out hown4 hgr4 hgr5⟩, by simp [intOf]; omega⟩
          · go_wp2_with (first
              | (at_builtin; refine wpList_append_sl _ rfl (.tmp 82) (.tmp 87) 23 rfl w.heap.size 108 i0 _ 2 32 Try.underlying23 Hi.out Hz0.out Hz1.out Hz2.out rfl (by omega) (.slice N m dn) m (labCells (l.take m)) rfl (World.ownsRow.alloc (w := wr.drewN _) Hnx.out _) (.slice (some ⟨wr.heap.size, 0, none⟩) 1 1) 1 [.string nm, .string vl] rfl (Sl.lit (wr.drewN _) 108 2 1 [.string nm, .string vl] (by simp [maxLen]) rfl) (by simp [Value.oneCell']) (m + 1) (labCells (l.take (m + 1))) rfl Hsn.out (by simp only [maxLen]; omega) (by omega) (by simp; omega) ?_; intro A4 d4 W4 hown4 hgr4 hat4; have hat4' := Lib.hid hat4; clear hat4; have hsz4 := hgr4.size)
              | (at_builtin; refine wpList_append_sl _ rfl (.tmp 89) (.tmp 92) 23 rfl w.heap.size 108 i0 _ 2 32 Try.underlying23 Hi.out Hz0.out Hz1.out Hz2.out rfl (by omega) (.slice A4 (m + 1) d4) (m + 1) (labCells (l.take (m + 1))) rfl hown4 (.slice _ 0 _) 0 [] rfl (sl_zero _ _ _ _ (by first | exact Nat.zero_le _ | exact Nat.le_trans (Nat.sub_le _ _) Hdl2.out)) (by simp) (m + 1) (labCells (l.take (m + 1))) (by omega) (by simp) (by simp only [maxLen]; omega) (by omega) (by simp at hsz4; omega) ?_; intro A5 d5 W5 hown5 hgr5 hat5; have hat5' := Lib.hid hat5; clear hat5))
            exact ⟨⟨m + 1, A5, d5, by omega, by go_num, rfl, hown5, new_bel hbi Hnx.out hown4 hgr4 hgr5⟩, by simp [intOf]; omega⟩
    · go_wp2
      go_ret2
      have hkl : k = l.length := by omega
      subst hkl
      refine ⟨B, d, rfl, ?_, hb⟩
      have := Sl.of_own hown
      rwa [List.take_length] at this

theorem ref_same_lab (va vb : Value) (l : List (ByteArray × ByteArray)) (w : World) (ha : Sl w 2 va l.length (labCells l)) (hb : Sl w 2 vb l.length (labCells l)) (hl : l.length ≤ 1000) :
    Calls Try.prog 95 #[va, vb] w fun e w' => e = .returned (.bool true) ∧ ∃ n, w' = w.drewN n := by
  obtain ⟨A, c, rfl, -, -, -, ha4⟩ := ha
  obtain ⟨B, d, rfl, -, -, -, hb4⟩ := hb
  have Ha := Lib.hid ha4
  have Hb := Lib.hid hb4
  clear ha4 hb4
  go_enter Try.func95, Try.ntmps95
  go_wp2
  go_loopw [5] (fun i wr => ∃ (k n : Nat), k ≤ l.length ∧ i = .int .i64 k ∧ wr = w.drewN n) (fun i _ => l.length - (intOf i).toNat)
  case atStart => exact ⟨0, 0, Nat.zero_le _, rfl, rfl⟩
  case round =>
    obtain ⟨k, n, hk, rfl, rfl⟩ := hrel
    by_cases hlt : k < l.length
    · obtain ⟨b1, o1, rfl, hb1, hc1⟩ := Ha.out (by omega)
      obtain ⟨b2, o2, rfl, hb2, hc2⟩ := Hb.out (by omega)
      have e0 := hc1 _ _ (labCells_at l k hlt).1
      have e1 := hc1 _ _ (labCells_at l k hlt).2
      have f0 := hc2 _ _ (labCells_at l k hlt).1
      have f1 := hc2 _ _ (labCells_at l k hlt).2
      rw [← Nat.add_assoc] at e1 f1
      clear hc1 hc2
      generalize l[k].1 = st at *
      generalize l[k].2 = co at *
      have r5 : (k : Int) < (l.length : Int) := by omega
      go_wp2
      go_quiet (fail)
      go_wp2
      go_roundw
      case rel => exact ⟨k + 1, n + nq, by omega, by go_num, by first | rfl | simp⟩
      case measure => simp [intOf]; omega
    · go_wp2
      go_ret
      exact ⟨rfl, n, rfl⟩

theorem ref_labels_valid (v : Value) (l : List (ByteArray × ByteArray)) (w : World) (hS : Sl w 2 v l.length (labCells l)) (hl : LabSet l) : Calls Try.prog 83 #[v] w (Ans w (.bool true)) := by
  go_enter Try.func83, Try.ntmps83
  go_wp2_with fail
  refine (ref_new v l w hS hl).mono ?_
  rintro e w1 ⟨A, c, rfl, hS1, hb1⟩
  go_wp2_with fail
  refine (ref_same_lab _ _ l _ hS1 (hS.below hb1) (by have := hl.few; omega)).mono ?_
  rintro e w2 ⟨rfl, n, rfl⟩
  go_wp2_with fail
  go_ret
  exact ⟨rfl, below_dn hb1 n⟩
end Go.Proofs.Ytofekfpbljihiaa
