/- Spend of package budget, and the example of the section (lives). -/
import Derived.Test.YtodoicilnbfgnaaBud1
namespace Go.Proofs.Ytodoicilnbfgnaa
open Go.RowKit

/-- What an accepted Spend leaves. -/
def SpendOk (w : World) (b : Nat) (v : Value) (bud sp : Int) (es : List (ByteArray × Int)) (step : ByteArray) (cost : Int) (e : Ending) (w' : World) : Prop :=
  e = .returned (.int .i64 0) ∧ ∃ v', Led w' b v' bud (sp + cost) (es ++ [(step, cost)]) ∧ (∀ k, v'.ownBlock = some k → v.ownBlock = some k ∨ w.heap.size ≤ k) ∧ Fr (fun k => k = b ∨ v.ownBlock = some k) w w'

theorem spend_end {b : Nat} {v : Value} {bud sp : Int} {es : List (ByteArray × Int)} {step : ByteArray} {cost : Int} {w w1 : World} {g cap : Nat} {n : Nat}
    (HB : Blk w b 64 #[.int .i64 bud, .int .i64 sp, v]) (HO : w.ownsRow 0 48 2 v es.length (entCells es))
    (hgr1 : ((w.drewN n).alloc (.cells #[.string step, .int .i64 cost] 48)).grownBy w1 v.ownBlock)
    (hown1 : w1.ownsRow 0 48 2 (.slice (some ⟨g, 0, none⟩) (es.length + 1) cap) (es.length + 1) (entCells es ++ [.string step, .int .i64 cost]))
    (hat1 : v.ownBlock = some g ∨ g = w.heap.size + 1) :
    SpendOk w b v bud sp es step cost (.returned (.int .i64 0)) ((w1.setCell ⟨b, 2, none⟩ (.slice (some ⟨g, 0, none⟩) (es.length + 1) cap)).setCell ⟨b, 1, none⟩ (.int .i64 (sp + cost))) := by
  generalize hv1 : Value.slice (some ⟨g, 0, none⟩) (es.length + 1) cap = v1 at *
  have hne := own_ne HO HB (by decide)
  have hB1 : Blk w1 b 64 #[.int .i64 bud, .int .i64 sp, v] := Blk.grown (Blk.alloc (w := w.drewN n) HB _) hgr1 hne
  have hne1 := own_ne hown1 hB1 (by decide)
  have f1 : Fr (fun k => k = b ∨ v.ownBlock = some k) w w1 := (((Fr.refl _ w).drewN n).alloc _).grown hgr1 (fun k hk _ => .inr hk)
  have f2 := f1.setCell (p := ⟨b, 2, none⟩) (fun _ => .inl rfl) v1
  have f3 := f2.setCell (p := ⟨b, 1, none⟩) (fun _ => .inl rfl) (.int .i64 (sp + cost))
  refine ⟨rfl, v1, ⟨?_, ?_⟩, ?_, f3⟩
  · have := (hB1.set_ 2 v1).set_ 1 (.int .i64 (sp + cost))
    simpa using this
  · have g1 : Fr (fun k => k = b) w1 ((w1.setCell ⟨b, 2, none⟩ v1).setCell ⟨b, 1, none⟩ (.int .i64 (sp + cost))) := ((Fr.refl (fun k => k = b) w1).setCell (p := ⟨b, 2, none⟩) (fun _ => rfl) v1).setCell (p := ⟨b, 1, none⟩) (fun _ => rfl) _
    have := own_fr hown1 g1 (fun k hk => by rintro rfl; exact hne1 hk)
    simpa [entCells_app, entCells] using this
  · intro k hk
    rcases hat1 with e | e
    · exact .inl (by rw [← hv1] at hk; rw [e]; exact hk)
    · right
      rw [← hv1] at hk
      simp [Value.ownBlock] at hk
      omega

theorem spend_ok (b : Nat) (v : Value) (bud sp : Int) (es : List (ByteArray × Int)) (step : ByteArray) (cost : Int) (w : World) (h : Led w b v bud sp es) (hl : es.length ≤ 1000000)
    (s0 : 1 ≤ step.size) (s1 : step.size ≤ 16) (h0 : 0 ≤ cost) (h1 : cost ≤ bud - sp) (h2 : 0 ≤ sp) (h3 : bud ≤ 2147483648) :
    Calls Try.prog 13 #[.pointer (some ⟨b, 0, none⟩), .string step, .int .i64 cost] w (SpendOk w b v bud sp es step cost) := by
  obtain ⟨hB, hO⟩ := h
  have HB := Lib.hid hB
  have HO := Lib.hid hO
  have c0 : w.cell? ⟨b, 0, none⟩ = some (.int .i64 bud) := by have := hB.cell 0; simpa using this
  have c1 : w.cell? ⟨b, 1, none⟩ = some (.int .i64 sp) := by have := hB.cell 1; simpa using this
  have c2 : w.cell? ⟨b, 2, none⟩ = some v := by have := hB.cell 2; simpa using this
  have hk := hB.lt
  have hne := own_ne hO hB (by decide)
  clear hB hO
  obtain ⟨i0, hi, hz0, hz1, hz2⟩ := info_parts Try.infoEntry
  have Hi := Lib.hid hi
  have Hz0 := Lib.hid hz0
  have Hz1 := Lib.hid hz1
  have Hz2 := Lib.hid hz2
  clear hi hz0 hz1 hz2
  go_enter Try.func13, Try.ntmps13
  go_wp2_with (first
    | (go_at_call 14; refine (left_any b bud sp _ c0 c1 (by omega) (by omega) (by omega)).mono ?_; rintro e w' ⟨rfl, n, rfl⟩)
    | (at_builtin; refine wpList_append_lies _ rfl (.tmp 27) (.tmp 31) 40 rfl 0 48 i0 _ 2 24 Try.underlying40 Hi.out Hz0.out Hz1.out Hz2.out rfl (by omega) v es.length (entCells es) rfl (World.ownsRow.alloc (w := w.drewN n) HO.out _) ⟨w.heap.size, 0, none⟩ 1 1 [.string step, .int .i64 cost] rfl rfl (World.news_of_block (heap_alloc_new (w.drewN n) _)) (by simp [Value.oneCell']) (by omega) (by simp only [maxLen]; omega) (by omega) (Nat.zero_le _) (w.heap.size + 1) (by simp) ?_; intro g cap w1 hown1 hgr1 hat1 hlt1; have hB1 : Blk w1 b 64 #[.int .i64 bud, .int .i64 sp, v] := Blk.grown (Blk.alloc (w := w.drewN n) HB.out _) hgr1 hne; have c1' : w1.cell? ⟨b, 1, none⟩ = some (.int .i64 sp) := (hB1.cell 1).trans rfl; have c2' : w1.cell? ⟨b, 2, none⟩ = some v := (hB1.cell 2).trans rfl; have f1' := hB1.frozen 1; have f2' := hB1.frozen 2))
  go_ret
  exact spend_end HB.out HO.out hgr1 hown1 hat1

theorem spend_arg (b : Nat) (step : ByteArray) (cost : Int) (w : World) (h : cost < 0 ∨ step.size < 1 ∨ 16 < step.size) :
    Calls Try.prog 13 #[.pointer (some ⟨b, 0, none⟩), .string step, .int .i64 cost] w fun e w' => e = .returned (.int .i64 1) ∧ w = w' := by
  by_cases h0 : cost < 0
  · go_enter Try.func13, Try.ntmps13
    go_wp2_with fail
    go_ret
    exact ⟨rfl, rfl⟩
  · by_cases h1 : step.size < 1
    · go_enter Try.func13, Try.ntmps13
      go_wp2_with fail
      go_ret
      exact ⟨rfl, rfl⟩
    · have h2 : 16 < step.size := by omega
      clear h
      go_enter Try.func13, Try.ntmps13
      go_wp2_with fail
      go_ret
      exact ⟨rfl, rfl⟩

theorem spend_over (b : Nat) (v : Value) (bud sp : Int) (es : List (ByteArray × Int)) (step : ByteArray) (cost : Int) (w : World) (h : Led w b v bud sp es)
    (s0 : 1 ≤ step.size) (s1 : step.size ≤ 16) (h0 : 0 ≤ cost) (h1 : bud - sp < cost) (h2 : 0 ≤ sp) (h3 : bud ≤ 2147483648) (h4 : sp ≤ bud) :
    Calls Try.prog 13 #[.pointer (some ⟨b, 0, none⟩), .string step, .int .i64 cost] w fun e w' => e = .returned (.int .i64 12) ∧ ∃ n, w' = w.drewN n := by
  obtain ⟨hB, hO⟩ := h
  have c0 : w.cell? ⟨b, 0, none⟩ = some (.int .i64 bud) := by have := hB.cell 0; simpa using this
  have c1 : w.cell? ⟨b, 1, none⟩ = some (.int .i64 sp) := by have := hB.cell 1; simpa using this
  clear hB hO
  go_enter Try.func13, Try.ntmps13
  go_wp2_with (go_at_call 14; refine (left_any b bud sp _ c0 c1 (by omega) (by omega) (by omega)).mono ?_; rintro e w' ⟨rfl, n, rfl⟩)
  go_ret
  exact ⟨rfl, n, rfl⟩

theorem Led.c0 {w : World} {b : Nat} {v : Value} {bud sp : Int} {es : List (ByteArray × Int)} (h : Led w b v bud sp es) : w.cell? ⟨b, 0, none⟩ = some (.int .i64 bud) := (h.1.cell 0).trans rfl
theorem Led.c1 {w : World} {b : Nat} {v : Value} {bud sp : Int} {es : List (ByteArray × Int)} (h : Led w b v bud sp es) : w.cell? ⟨b, 1, none⟩ = some (.int .i64 sp) := (h.1.cell 1).trans rfl
theorem Led.left {w : World} {b : Nat} {v : Value} {bud sp : Int} {es : List (ByteArray × Int)} (h : Led w b v bud sp es) (h0 : 0 ≤ sp) (h1 : sp ≤ bud) (h2 : bud ≤ 2147483648) :
    Calls Try.prog 14 #[.pointer (some ⟨b, 0, none⟩)] w fun e w' => e = .returned (.int .i64 (bud - sp)) ∧ ∃ k, w' = w.drewN k := left_any b bud sp w h.c0 h.c1 h0 h1 h2

def LivesOk (w : World) (e : Ending) (w' : World) : Prop := e = .returned (.bool true) ∧ Below w.heap.size w w'

theorem lives_any (w : World) : Calls Try.prog 15 #[] w (LivesOk w) := by
  go_enter Try.func15, Try.ntmps15
  go_wp2_with fail
  refine (new_ok 10 _ (by omega) (by omega)).mono ?_
  rintro e w1 ⟨rfl, rfl⟩
  have hL0 : Led (w.alloc (.cells #[.int .i64 10, .int .i64 0, .slice none 0 0] 64)) w.heap.size (.slice none 0 0) 10 0 [] := ⟨Blk.new _ _ _, World.ownsRow_nil _ _ _ _⟩
  have hf0 : Below w.heap.size w (w.alloc (.cells #[.int .i64 10, .int .i64 0, .slice none 0 0] 64)) := (Below.refl _ _).alloc (Nat.le_refl _) _
  go_wp2_with fail
  refine (spend_ok w.heap.size _ 10 0 [] _ 7 _ hL0 (by simp) (by decide) (by decide) (by omega) (by omega) (by omega) (by omega)).mono ?_
  rintro e w2 ⟨rfl, v2, hL2, hat2, hf2⟩
  have hb2 : Below w.heap.size w w2 := hf0.trans (hf2.below (by simp) (by intro i hi; simp [Value.ownBlock]; omega))
  go_wp2_with fail
  refine (spend_over w.heap.size _ 10 7 _ _ 4 _ hL2 (by decide) (by decide) (by omega) (by omega) (by omega) (by omega) (by omega)).mono ?_
  rintro e w3 ⟨rfl, n, rfl⟩
  go_wp2_with fail
  refine (spend_ok w.heap.size _ 10 7 _ _ 3 (w2.drewN n) hL2 (by simp) (by decide) (by decide) (by omega) (by omega) (by omega) (by omega)).mono ?_
  rintro e w4 ⟨rfl, v4, hL4, hat4, hf4⟩
  have hb4 : Below w.heap.size w w4 := (show Below w.heap.size w (w2.drewN n) from ⟨hb2.os, hb2.tape, hb2.output, hb2.size, hb2.block⟩).trans (hf4.below hb2.size (by
    intro i hi
    simp
    refine ⟨by omega, fun hk => ?_⟩
    rcases hat2 i hk with h | h
    · simp [Value.ownBlock] at h
    · simp at h; omega))
  go_wp2_with fail
  refine (hL4.left (by omega) (by omega) (by omega)).mono ?_
  rintro e w5 ⟨rfl, n5, rfl⟩
  go_wp2_with fail
  refine (entries_any w.heap.size _ _ _ _ (w4.drewN n5) hL4 (by simp)).mono ?_
  rintro e w6 ⟨rfl, rfl⟩
  go_wp2_with fail
  go_ret
  exact ⟨rfl, (show Below w.heap.size w (w4.drewN n5) from ⟨hb4.os, hb4.tape, hb4.output, hb4.size, hb4.block⟩).alloc hb4.size _⟩
end Go.Proofs.Ytodoicilnbfgnaa
