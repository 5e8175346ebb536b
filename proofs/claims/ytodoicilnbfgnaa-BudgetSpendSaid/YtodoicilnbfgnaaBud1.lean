/- Contracts of the small functions of package budget. -/
import Derived.Test.YtodoicilnbfgnaaProg
import Derived.Test.YtodoicilnbfgnaaMem
import Derived.Maps.AppendAt
import Derived.WalkKit
import Derived.Lib.Hide
import Derived.Deep.QuietTactic
import Derived.BigQuiet
import Derived.Outline
import Derived.StillTailTactics
namespace Go.Proofs.Ytodoicilnbfgnaa
open Go.RowKit

theorem new_ok (n : Int) (w : World) (h0 : 0 ≤ n) (h1 : n ≤ 2147483648) :
    Calls Try.prog 11 #[.int .i64 n] w fun e w' => e = .returned (.tuple #[.pointer (some ⟨w.heap.size, 0, none⟩), .int .i64 0]) ∧
      w' = w.alloc (.cells #[.int .i64 n, .int .i64 0, .slice none 0 0] 64) := by
  go_enter Try.func11, Try.ntmps11
  go_wp2
  go_ret2
  exact ⟨rfl, rfl⟩

theorem new_bad (n : Int) (w : World) (h : n < 0 ∨ 2147483648 < n) :
    Calls Try.prog 11 #[.int .i64 n] w fun e w' => e = .returned (.tuple #[.pointer none, .int .i64 1]) ∧ w' = w := by
  rcases h with h | h
  · go_enter Try.func11, Try.ntmps11
    go_wp2
    go_ret2
    exact ⟨rfl, rfl⟩
  · have h' : ¬ n < 0 := by omega
    go_enter Try.func11, Try.ntmps11
    go_wp2
    go_ret2
    exact ⟨rfl, rfl⟩

theorem left_any (b : Nat) (n s : Int) (w : World) (hn : w.cell? ⟨b, 0, none⟩ = some (.int .i64 n)) (hs : w.cell? ⟨b, 1, none⟩ = some (.int .i64 s)) (h0 : 0 ≤ s) (h1 : s ≤ n) (h2 : n ≤ 2147483648) :
    Calls Try.prog 14 #[.pointer (some ⟨b, 0, none⟩)] w fun e w' => e = .returned (.int .i64 (n - s)) ∧ ∃ k, w' = w.drewN k := by
  go_enter Try.func14, Try.ntmps14
  go_wp2
  go_quiet (fail)
  go_wp2
  go_ret
  exact ⟨rfl, _, rfl⟩

theorem spent_any (b : Nat) (s : Int) (w : World) (hs : w.cell? ⟨b, 1, none⟩ = some (.int .i64 s)) :
    Calls Try.prog 17 #[.pointer (some ⟨b, 0, none⟩)] w fun e w' => e = .returned (.int .i64 s) ∧ w' = w := by
  go_enter Try.func17, Try.ntmps17
  go_wp2
  go_ret
  exact ⟨rfl, rfl⟩

def entCells (es : List (ByteArray × Int)) : List Value := es.flatMap fun e => [.string e.1, .int .i64 e.2]
theorem entCells_len (es : List (ByteArray × Int)) : (entCells es).length = es.length * 2 := by
  induction es with
  | nil => rfl
  | cons e r ih => simp [entCells] at ih ⊢; omega
theorem entCells_app (es fs : List (ByteArray × Int)) : entCells (es ++ fs) = entCells es ++ entCells fs := by simp [entCells]
theorem entCells_one (es : List (ByteArray × Int)) : ∀ u ∈ entCells es, u.oneCell' = true := by
  intro u hu
  simp only [entCells, List.mem_flatMap] at hu
  obtain ⟨e, _, he⟩ := hu
  simp at he
  rcases he with rfl | rfl <;> rfl

theorem Try.infoEntry : (Try.prog.info? 48).map (fun i => (i.zero, i.size, i.bytes)) = some (some (.agg #[.string ByteArray.empty, .int .i64 0]), 2, 24) := by kernel_rfl

/-- A ledger: its block, the value of its slice, budget, sum, entries. -/
def Led (w : World) (b : Nat) (v : Value) (bud sp : Int) (es : List (ByteArray × Int)) : Prop :=
  Blk w b 64 #[.int .i64 bud, .int .i64 sp, v] ∧ w.ownsRow 0 48 2 v es.length (entCells es)

theorem Led.fr {S : Nat → Prop} {w w' : World} {b : Nat} {v : Value} {bud sp : Int} {es : List (ByteArray × Int)} (h : Led w b v bud sp es) (hf : Fr S w w') (h1 : ¬ S b) (h2 : ∀ k, v.ownBlock = some k → ¬ S k) : Led w' b v bud sp es :=
  ⟨h.1.fr hf h1, own_fr h.2 hf h2⟩

theorem entries_any (b : Nat) (v : Value) (bud sp : Int) (es : List (ByteArray × Int)) (w : World) (h : Led w b v bud sp es) (hl : es.length ≤ 1000000) :
    Calls Try.prog 18 #[.pointer (some ⟨b, 0, none⟩)] w fun e w' => e = .returned (.slice (some ⟨w.heap.size, 0, none⟩) es.length es.length) ∧
      w' = w.alloc (.cells (entCells es).toArray 48) := by
  obtain ⟨hB, hO⟩ := h
  have c2 := hB.cell 2
  simp at c2
  obtain ⟨i0, hi, hz0, hz1, hz2⟩ := info_parts Try.infoEntry
  have hmk := make_row 40 48 i0 _ Try.underlying40 hi hz0 es.length (by rw [hz2]; omega) (by omega) w
  rw [hz1] at hmk
  have hcp := fun ty => copy_whole w 40 40 ty 48 Try.underlying40 2 (by rw [hi]; simp [hz1]) 0 v es.length (entCells es) hO (madeCells #[.string ByteArray.empty, .int .i64 0] (es.length * 2)) (by rw [size_madeCells]) (entCells_one es)
  obtain ⟨A, c, rfl⟩ : ∃ A c, v = .slice A es.length c := by
    rcases hO.2 with ⟨hv, hn⟩ | ⟨g, cap, cur, hv, _⟩
    · exact ⟨none, 0, by rw [hn]; exact hv⟩
    · exact ⟨_, cap, hv⟩
  have hk := hB.lt
  have c2' : (w.alloc (.cells (madeCells #[.string ByteArray.empty, .int .i64 0] (es.length * 2)) 48)).cell? ⟨b, 2, none⟩ = some (.slice A es.length c) := by
    have := (hB.alloc (.cells (madeCells #[.string ByteArray.empty, .int .i64 0] (es.length * 2)) 48)).cell 2
    simpa using this
  go_enter Try.func18, Try.ntmps18
  go_wp2
  go_ret
  exact ⟨rfl, rfl⟩
end Go.Proofs.Ytodoicilnbfgnaa
