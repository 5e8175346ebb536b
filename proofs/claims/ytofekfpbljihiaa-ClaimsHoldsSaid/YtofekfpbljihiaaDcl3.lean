/- labels.Valid at label sets. -/
import Derived.Test.YtofekfpbljihiaaDcl2
namespace Go.Proofs.Ytofekfpbljihiaa
open Go.RowKit
set_option linter.unusedVariables false

def labCells (l : List (ByteArray × ByteArray)) : List Value := l.flatMap fun e => [.string e.1, .string e.2]
theorem labCells_len (l : List (ByteArray × ByteArray)) : (labCells l).length = l.length * 2 := by
  induction l with
  | nil => rfl
  | cons e r ih => simp [labCells] at ih ⊢; omega
theorem labCells_one (l : List (ByteArray × ByteArray)) : ∀ u ∈ labCells l, u.oneCell' = true := by
  intro u hu
  simp only [labCells, List.mem_flatMap] at hu
  obtain ⟨e, _, he⟩ := hu
  simp at he
  rcases he with rfl | rfl <;> rfl
theorem labCells_at (l : List (ByteArray × ByteArray)) (k : Nat) (h : k < l.length) : (labCells l)[k * 2]? = some (.string l[k].1) ∧ (labCells l)[k * 2 + 1]? = some (.string l[k].2) := by
  induction l generalizing k with
  | nil => simp at h
  | cons e r ih =>
    cases k with
    | zero => simp [labCells]
    | succ k =>
      have := ih k (by simpa using h)
      have e1 : (k + 1) * 2 = k * 2 + 2 := by omega
      rw [e1]
      simpa [labCells] using this

/-- A label set: names and values that are allowed, the names increasing. -/
structure LabSet (l : List (ByteArray × ByteArray)) : Prop where
  few : l.length ≤ 8
  name : ∀ i, (h : i < l.length) → nameB l[i].1 = true
  value : ∀ i, (h : i < l.length) → valueB l[i].2 = true
  full : ∀ i, (h : i < l.length) → l[i].2.toList ≠ []
  up : ∀ i j, (hij : i < j) → (h : j < l.length) → Op.bytesLess l[i].1.toList l[j].1.toList = true

theorem nameB_size {s : ByteArray} (h : nameB s = true) : 1 ≤ s.size ∧ s.size ≤ 16 := by
  unfold nameB at h
  rw [decide_eq_true_iff] at h
  exact ⟨h.1, h.2.1⟩
theorem valueB_size {s : ByteArray} (h : valueB s = true) : s.size ≤ 16 := by
  unfold valueB at h
  rw [decide_eq_true_iff] at h
  exact h.1

set_option maxHeartbeats 1000000 in
theorem labels_valid (v : Value) (l : List (ByteArray × ByteArray)) (w : World) (hS : Sl w 2 v l.length (labCells l)) (hl : LabSet l) : Calls Try.prog 81 #[v] w (Ans w (.bool true)) := by
  obtain ⟨A, c, rfl, -, -, -, h4⟩ := hS
  have hf := hl.few
  have H4 := Lib.hid h4
  have HL := Lib.hid hl
  clear h4 hl
  go_enter Try.func81, Try.ntmps81
  go_wp2
  go_loopw [10] (fun i wr => ∃ k : Nat, k ≤ l.length ∧ i = .int .i64 k ∧ Below w.heap.size w wr) (fun i _ => l.length - (intOf i).toNat)
  case atStart => exact ⟨0, Nat.zero_le _, rfl, Below.refl _ _⟩
  case round =>
    obtain ⟨k, hk, rfl, hb⟩ := hrel
    by_cases hlt : k < l.length
    · obtain ⟨b, off, rfl, hbb, hc⟩ := H4.out (by omega)
      have c0 := (hb.cell (p := ⟨b, off + k * 2, none⟩) hbb).trans (hc _ _ (labCells_at l k hlt).1)
      have c1 := (hb.cell (p := ⟨b, off + (k * 2 + 1), none⟩) hbb).trans (hc _ _ (labCells_at l k hlt).2)
      rw [← Nat.add_assoc] at c1
      have hn := HL.out.name k hlt
      have hv := HL.out.value k hlt
      have hne := HL.out.full k hlt
      have hns := nameB_size hn
      have hvs := valueB_size hv
      have hcp : ∀ (h0 : 0 < k), w.cell? ⟨b, off + (k - 1) * 2, none⟩ = some (.string l[k - 1].1) := fun h0 => hc _ _ (labCells_at l (k - 1) (by omega)).1
      have hup : ∀ (h0 : 0 < k), Op.bytesLess l[k - 1].1.toList l[k].1.toList = true := fun h0 => by
        exact HL.out.up (k - 1) k (by omega) hlt
      have Hcp := Lib.hid hcp
      have Hup := Lib.hid hup
      clear hc hcp hup
      generalize hnm : l[k].1 = nm at *
      generalize hvl : l[k].2 = vl at *
      have hne2 : vl.toList.isEmpty = false := by simpa using hne
      have hsz := hb.size
      clear hnm hvl
      go_wp2_with fail
      refine (name_any nm _ (by omega)).mono ?_
      rintro e w1 ⟨rfl, hb1⟩
      rw [hn]
      have x1 : Blk w1 wr.heap.size 108 #[.string nm, .string vl] := (Blk.new wr _ _).below hb1 (by simp)
      have x10 : w1.cell? ⟨wr.heap.size, 0, none⟩ = some (.string nm) := (x1.cell 0).trans rfl
      have x11 : w1.cell? ⟨wr.heap.size, 1, none⟩ = some (.string vl) := (x1.cell 1).trans rfl
      go_wp2_with fail
      refine (value_any vl _ (by omega)).mono ?_
      rintro e w2 ⟨rfl, hb2⟩
      rw [hv]
      have x2 : Blk w2 wr.heap.size 108 #[.string nm, .string vl] := x1.below hb2 x1.lt
      have x20 : w2.cell? ⟨wr.heap.size, 0, none⟩ = some (.string nm) := (x2.cell 0).trans rfl
      have hbw : Below w.heap.size w w2 := ((hb.alloc hsz _).trans (hb1.mono (by simp; omega))).trans (hb2.mono (by have := hb1.size; simp at this; omega))
      clear hb1 hb2 x1 x10 x11 x2
      by_cases hk0 : k = 0
      · subst hk0
        go_wp2
        go_quiet (fail)
        go_wp2
        go_roundw
        case rel => exact ⟨1, by omega, by go_num, ⟨hbw.os, hbw.tape, hbw.output, hbw.size, hbw.block⟩⟩
        case measure => simp [intOf]; omega
      · have y0 := (hbw.cell (p := ⟨b, off + (k - 1) * 2, none⟩) hbb).trans (Hcp.out (by omega))
        have y1 := Hup.out (by omega)
        generalize l[k - 1].1 = pn at *
        have r1 : IntKind.i64.wrap ((k : Int) - 1) = (k : Int) - 1 := IntWalk.i64_in _ (by omega)
        have r2 : (0 : Int) ≤ (k : Int) - 1 := by omega
        have r3 : ((k : Int) - 1).toNat = k - 1 := by omega
        have r4 : (k : Int) - 1 < (l.length : Int) := by omega
        have r6 : decide ((0 : Int) < (k : Int)) = true := decide_eq_true (by omega)
        have r7 : 0 < k := by omega
        go_upto_region 8 with (fail)
        go_quiet (fail)
        clear r1 r2 r3 r4
        go_wp2
        go_roundw
        case rel => exact ⟨k + 1, by omega, by go_num, ⟨hbw.os, hbw.tape, hbw.output, hbw.size, hbw.block⟩⟩
        case measure => simp [intOf]; omega
    · go_wp2
      go_ret
      exact ⟨rfl, hb⟩
end Go.Proofs.Ytofekfpbljihiaa
