/- Claims: the values inside the range. -/
import Derived.Test.YtofekfpbljihiaaCf
namespace Go.Proofs.Ytofekfpbljihiaa
open Go.RowKit
set_option linter.unusedVariables false

def insN (d : Dc) (a x : Int) : Int := if a + d.down + x < d.lo then max (a + d.down) (min d.lo (a + d.up)) else max (min (min (a + d.down + x) d.hi) (a + d.up)) (a + d.down)
def insV (d : Dc) (zs : List Int) : Nat → Int
  | 0 => walkV d zs 0
  | n + 1 => insN d (insV d zs n) (pick zs (n + 1) (d.up - d.down + 1))
theorem insN_bd (d : Dc) (a x : Int) (h : d.down ≤ d.up) : a + d.down ≤ insN d a x ∧ insN d a x ≤ a + d.up := by
  unfold insN
  split <;> omega
theorem insV_bd (d : Dc) (zs : List Int) (h : DcT d) : ∀ n : Nat, -9 - 3 * (n : Int) ≤ insV d zs n ∧ insV d zs n ≤ 16 + 4 * (n : Int)
  | 0 => walkV_bd d zs h 0
  | n + 1 => by
    have ih := insV_bd d zs h n
    obtain ⟨h1, h2, h3⟩ := h
    have := insN_bd d (insV d zs n) (pick zs (n + 1) (d.up - d.down + 1)) (by omega)
    simp only [insV]
    omega
def insL (d : Dc) (zs : List Int) (n : Nat) : List Int := (List.range n).map (insV d zs)
theorem insL_len (d : Dc) (zs : List Int) (n : Nat) : (insL d zs n).length = n := by simp [insL]
theorem mix_start (d : Dc) (zs : List Int) (n : Nat) : walkL d zs n = mixL (insV d zs) (walkV d zs) n 1 := by
  apply List.map_congr_left
  intro i hi
  by_cases h : i < 1
  · obtain rfl : i = 0 := by omega
    simp [insV]
  · rw [if_neg h]
theorem mix_end (d : Dc) (zs : List Int) (n : Nat) : mixL (insV d zs) (walkV d zs) n n = insL d zs n := by
  apply List.map_congr_left
  intro i hi
  rw [if_pos (List.mem_range.1 hi)]
set_option maxRecDepth 10000 in
theorem inside_s (nm : ByteArray) (A : Option Addr) (ln c : Nat) (d : Dc) (v : Value) (zs : List Int) (w : World) (h : DcT d) (hv : Ints w v zs) :
    Con Try.prog 33 #[.agg (dcCells nm (.slice A ln c) d), v] w (RetRows rI 3 w (insL d zs (d.last - d.first + 1).toNat)) := by
  obtain ⟨A1, c1, rfl, e1, e2⟩ := hv.form
  have hw := insV_bd d zs h
  have hT := h
  obtain ⟨h1, h2, h3⟩ := h
  obtain ⟨sp, hsp⟩ : ∃ sp : Nat, (d.last - d.first + 1).toNat = sp := ⟨_, rfl⟩
  rw [hsp]
  refine enter tabOk mixed Try.func33 rfl Try.ntmps33 Try.results33 [.a (dcS nm (.v (.slice A ln c)) d), .s 0 1 zs.length c1] (fun _ => A1) [⟨0, false, 3, 1, c1, .rows Int rI zs⟩] 1 rfl rfl (.ro (hp0 _ _ _) _ rfl rfl rfl (ro_ints hv rfl _)) ?_
  ((conv => whnf); (repeat (refine And.intro ?_ ?_; (focus ((first | omega | (intro hg; simp only [Bool.or_eq_false_iff, Bool.or_eq_true, Bool.and_eq_true, Bool.and_eq_false_iff, Bool.not_eq_true, Bool.not_eq_false, Bool.not_eq_true', Bool.not_eq_false', decide_eq_false_iff_not, decide_eq_true_eq] at hg; first | omega | (refine And.intro ?_ ?_ <;> omega) | (refine And.intro ?_ (And.intro ?_ ?_) <;> first | omega | (show _ < _; omega) | exact Nat.le_of_ble_eq_true rfl)) | (refine And.intro ?_ ?_ <;> omega) | (refine And.intro ?_ (And.intro ?_ ?_) <;> first | omega | (show _ < _; omega) | exact Nat.le_of_ble_eq_true rfl)); done)); (conv => whnf))))
  refine EvCall.rows (R := rI) (ty := 3) (xs := walkL d zs sp) Try.call26 (fun ρ W hp => by rw [← hsp]; exact walk_s nm A ln c d _ zs W hT (hp.ints (n := 0) rfl e1 e2 hv.2)) (fun cap hc1 hc2 => ?_)
  rw [walkL_len] at hc1 ⊢
  rw [mix_start]
  ((conv => whnf); (repeat (refine And.intro ?_ ?_; (focus ((first | omega | (intro hg; simp only [Bool.or_eq_false_iff, Bool.or_eq_true, Bool.and_eq_true, Bool.and_eq_false_iff, Bool.not_eq_true, Bool.not_eq_false, Bool.not_eq_true', Bool.not_eq_false', decide_eq_false_iff_not, decide_eq_true_eq] at hg; first | omega | (refine And.intro ?_ ?_ <;> omega) | (refine And.intro ?_ (And.intro ?_ ?_) <;> first | omega | (show _ < _; omega) | exact Nat.le_of_ble_eq_true rfl)) | (refine And.intro ?_ ?_ <;> omega) | (refine And.intro ?_ (And.intro ?_ ?_) <;> first | omega | (show _ < _; omega) | exact Nat.le_of_ble_eq_true rfl)); done)); (conv => whnf))))
  refine EvLoop.inv (α := Nat) (fun i => i + 1 ≤ sp) (fun i => sp - i) (fun i => [(6, [], .v (.int .i64 ((i + 1 : Nat) : Int))), (5, [], .s 2 1 sp cap), (2, [], .p 1 0), (1, [], .s 0 1 zs.length c1)])
    (fun i => [⟨2, true, 3, 1, cap, .rows Int rI (mixL (insV d zs) (walkV d zs) sp (i + 1))⟩, ⟨1, true, 27, 12, 1, .cs (dcS nm (.v (.slice A ln c)) d)⟩, ⟨0, false, 3, 1, c1, .rows Int rI zs⟩]) 3 0 (by omega) (Sub.of [] [] rfl ?_) ?_
  · (repeat' (refine And.intro ?_ ?_)) <;> first | rfl | trivial | omega
  intro i hi
  have hwp := hw i
  have a1 := pick_nn zs (i + 1) (d.up - d.down + 1) (by omega)
  have b1 := pick_lt zs (i + 1) (d.up - d.down + 1) (by omega)
  have hll := mixL_len (insV d zs) (walkV d zs) sp (i + 1)
  have hget : (mixL (insV d zs) (walkV d zs) sp (i + 1)).getD (Int.toNat (((i + 1 : Nat) : Int) - 1)) rI.d = insV d zs i := by
    rw [show Int.toNat (((i + 1 : Nat) : Int) - 1) = i by omega, mixL_get _ _ _ _ _ _ (by omega), if_pos (by omega)]
  ((conv => whnf); (repeat (refine And.intro ?_ ?_; (focus ((first | omega | (intro hg; simp only [Bool.or_eq_false_iff, Bool.or_eq_true, Bool.and_eq_true, Bool.and_eq_false_iff, Bool.not_eq_true, Bool.not_eq_false, Bool.not_eq_true', Bool.not_eq_false', decide_eq_false_iff_not, decide_eq_true_eq] at hg; first | omega | (refine And.intro ?_ ?_ <;> omega) | (refine And.intro ?_ (And.intro ?_ ?_) <;> first | omega | (show _ < _; omega) | exact Nat.le_of_ble_eq_true rfl)) | (refine And.intro ?_ ?_ <;> omega) | (refine And.intro ?_ (And.intro ?_ ?_) <;> first | omega | (show _ < _; omega) | exact Nat.le_of_ble_eq_true rfl)); done)); (conv => whnf))))
  refine EvIf.split (fun g1 => ?_) (fun g1 => ?_)
  · simp only [decide_eq_true_eq] at g1
    ((conv => whnf); (repeat (refine And.intro ?_ ?_; (focus ((first | omega | (intro hg; simp only [Bool.or_eq_false_iff, Bool.or_eq_true, Bool.and_eq_true, Bool.and_eq_false_iff, Bool.not_eq_true, Bool.not_eq_false, Bool.not_eq_true', Bool.not_eq_false', decide_eq_false_iff_not, decide_eq_true_eq] at hg; first | omega | (refine And.intro ?_ ?_ <;> omega) | (refine And.intro ?_ (And.intro ?_ ?_) <;> first | omega | (show _ < _; omega) | exact Nat.le_of_ble_eq_true rfl)) | (refine And.intro ?_ ?_ <;> omega) | (refine And.intro ?_ (And.intro ?_ ?_) <;> first | omega | (show _ < _; omega) | exact Nat.le_of_ble_eq_true rfl)); done)); (conv => whnf))))
    (refine EvDraw.one (.q 0 (.q 1 (.q 2 (.q 3 (.q 4 (.q 5 (.q 6 (.q 7 (.q 8 (.q 9 (.q 10 (.q 11 (.q 12 (.q 13 (.q 14 (.q 15 (.n 16 false (.q 17 (.q 18 (.z))) (.e)))))))))))))))))) (by kernel_rfl) ?_)
    ((conv => whnf); (repeat (refine And.intro ?_ ?_; (focus ((first | omega | (intro hg; simp only [Bool.or_eq_false_iff, Bool.or_eq_true, Bool.and_eq_true, Bool.and_eq_false_iff, Bool.not_eq_true, Bool.not_eq_false, Bool.not_eq_true', Bool.not_eq_false', decide_eq_false_iff_not, decide_eq_true_eq] at hg; first | omega | (refine And.intro ?_ ?_ <;> omega) | (refine And.intro ?_ (And.intro ?_ ?_) <;> first | omega | (show _ < _; omega) | exact Nat.le_of_ble_eq_true rfl)) | (refine And.intro ?_ ?_ <;> omega) | (refine And.intro ?_ (And.intro ?_ ?_) <;> first | omega | (show _ < _; omega) | exact Nat.le_of_ble_eq_true rfl)); done)); (conv => whnf))))
    refine EvCall.plain Try.call51 (.v (.int .i64 (pick zs (i + 1) (d.up - d.down + 1)))) rfl (fun ρ W hp => pick_s _ zs ((i + 1 : Nat) : Int) _ W (hp.ints (n := 0) rfl e1 e2 hv.2) (by omega) (by omega) (by omega)) ?_
    ((conv => whnf); (repeat (refine And.intro ?_ ?_; (focus ((first | omega | (intro hg; simp only [Bool.or_eq_false_iff, Bool.or_eq_true, Bool.and_eq_true, Bool.and_eq_false_iff, Bool.not_eq_true, Bool.not_eq_false, Bool.not_eq_true', Bool.not_eq_false', decide_eq_false_iff_not, decide_eq_true_eq] at hg; first | omega | (refine And.intro ?_ ?_ <;> omega) | (refine And.intro ?_ (And.intro ?_ ?_) <;> first | omega | (show _ < _; omega) | exact Nat.le_of_ble_eq_true rfl)) | (refine And.intro ?_ ?_ <;> omega) | (refine And.intro ?_ (And.intro ?_ ?_) <;> first | omega | (show _ < _; omega) | exact Nat.le_of_ble_eq_true rfl)); done)); (conv => whnf))))
    obtain ⟨x, hx⟩ : ∃ x, pick zs (i + 1) (d.up - d.down + 1) = x := ⟨_, rfl⟩
    have hin : insV d zs (i + 1) = insN d (insV d zs i) x := by rw [← hx]; rfl
    rw [hx] at a1 b1 ⊢
    obtain ⟨R1, hR1⟩ : ∃ R1, (mixL (insV d zs) (walkV d zs) sp (i + 1)).set (i + 1) (max (min (min (insV d zs i + d.down + x) d.hi) (insV d zs i + d.up)) (insV d zs i + d.down)) = R1 := ⟨_, rfl⟩
    refine EvDraw.meet (.q 0 (.q 1 (.q 2 (.q 3 (.q 4 (.q 5 (.q 6 (.q 7 (.q 8 (.q 9 (.q 10 (.q 11 (.q 12 (.q 13 (.q 14 (.q 15 (.q 16 (.q 17 (.q 18 (.q 19 (.q 20 (.q 21 (.q 22 (.q 23 (.n 24 true (.z) (.e)))))))))))))))))))))))))) (by kernel_rfl) (α := Unit) (fun _ => True)
      (fun _ => [(7, [], .v (.int .i64 (insV d zs i + d.down + x))), (6, [], .v (.int .i64 (((i + 1 : Nat) : Int)))), (5, [], .s 2 1 sp cap), (2, [], .p 1 0), (1, [], .s 0 1 zs.length c1)])
      (fun _ => [⟨2, true, 3, 1, cap, .rows Int rI (R1)⟩, ⟨1, true, 27, 12, 1, .cs (dcS nm (.v (.slice A ln c)) d)⟩, ⟨0, false, 3, 1, c1, .rows Int rI (zs)⟩]) 3 ?_ ?_
    · ((conv => whnf); (repeat (refine And.intro ?_ ?_; (focus ((first | omega | (intro hg; simp only [Bool.or_eq_false_iff, Bool.or_eq_true, Bool.and_eq_true, Bool.and_eq_false_iff, Bool.not_eq_true, Bool.not_eq_false, Bool.not_eq_true', Bool.not_eq_false', decide_eq_false_iff_not, decide_eq_true_eq] at hg; first | omega | (refine And.intro ?_ ?_ <;> omega) | (refine And.intro ?_ (And.intro ?_ ?_) <;> first | omega | (show _ < _; omega) | exact Nat.le_of_ble_eq_true rfl)) | (refine And.intro ?_ ?_ <;> omega) | (refine And.intro ?_ (And.intro ?_ ?_) <;> first | omega | (show _ < _; omega) | exact Nat.le_of_ble_eq_true rfl)); done)); (conv => whnf))))
      refine Exists.intro () (And.intro trivial (Sub.of [] [] rfl ?_))
      (repeat' (refine And.intro ?_ ?_)) <;> first | rfl | trivial | omega | (rw [← hR1]; simp only [hget]; rfl)
    intro _ _
    have hR1l : R1.length = sp := by rw [← hR1, List.length_set, hll]
    have hget2 : R1.getD (Int.toNat (((i + 1 : Nat) : Int) - 1)) rI.d = insV d zs i := by
      rw [← hR1, ← hget, List.getD_eq_getElem?_getD, List.getElem?_set_ne (by omega), ← List.getD_eq_getElem?_getD]
    ((conv => whnf); (repeat (refine And.intro ?_ ?_; (focus ((first | omega | (intro hg; simp only [Bool.or_eq_false_iff, Bool.or_eq_true, Bool.and_eq_true, Bool.and_eq_false_iff, Bool.not_eq_true, Bool.not_eq_false, Bool.not_eq_true', Bool.not_eq_false', decide_eq_false_iff_not, decide_eq_true_eq] at hg; first | omega | (refine And.intro ?_ ?_ <;> omega) | (refine And.intro ?_ (And.intro ?_ ?_) <;> first | omega | (show _ < _; omega) | exact Nat.le_of_ble_eq_true rfl)) | (refine And.intro ?_ ?_ <;> omega) | (refine And.intro ?_ (And.intro ?_ ?_) <;> first | omega | (show _ < _; omega) | exact Nat.le_of_ble_eq_true rfl)); done)); (conv => whnf))))
    refine EvIf.split (fun g2 => ?_) (fun g2 => ?_)
    · simp only [decide_eq_true_eq] at g2
      ((conv => whnf); (repeat (refine And.intro ?_ ?_; (focus ((first | omega | (intro hg; simp only [Bool.or_eq_false_iff, Bool.or_eq_true, Bool.and_eq_true, Bool.and_eq_false_iff, Bool.not_eq_true, Bool.not_eq_false, Bool.not_eq_true', Bool.not_eq_false', decide_eq_false_iff_not, decide_eq_true_eq] at hg; first | omega | (refine And.intro ?_ ?_ <;> omega) | (refine And.intro ?_ (And.intro ?_ ?_) <;> first | omega | (show _ < _; omega) | exact Nat.le_of_ble_eq_true rfl)) | (refine And.intro ?_ ?_ <;> omega) | (refine And.intro ?_ (And.intro ?_ ?_) <;> first | omega | (show _ < _; omega) | exact Nat.le_of_ble_eq_true rfl)); done)); (conv => whnf))))
      have hfin : R1.set (i + 1) (max (insV d zs i + d.down) (min d.lo (insV d zs i + d.up))) = mixL (insV d zs) (walkV d zs) sp (i + 2) := by
        rw [← mixL_set _ _ _ _ (by omega : i + 1 < sp), hin, ← hR1, List.set_set, insN, if_pos (by omega)]
      (refine EvDraw.one (.q 0 (.q 1 (.q 2 (.q 3 (.q 4 (.q 5 (.q 6 (.q 7 (.q 8 (.q 9 (.q 10 (.q 11 (.q 12 (.q 13 (.q 14 (.q 15 (.q 16 (.q 17 (.q 18 (.q 19 (.q 20 (.q 21 (.q 22 (.n 23 true (.z) (.e))))))))))))))))))))))))) (by kernel_rfl) ?_)
      ((conv => whnf); (repeat (refine And.intro ?_ ?_; (focus ((first | omega | (intro hg; simp only [Bool.or_eq_false_iff, Bool.or_eq_true, Bool.and_eq_true, Bool.and_eq_false_iff, Bool.not_eq_true, Bool.not_eq_false, Bool.not_eq_true', Bool.not_eq_false', decide_eq_false_iff_not, decide_eq_true_eq] at hg; first | omega | (refine And.intro ?_ ?_ <;> omega) | (refine And.intro ?_ (And.intro ?_ ?_) <;> first | omega | (show _ < _; omega) | exact Nat.le_of_ble_eq_true rfl)) | (refine And.intro ?_ ?_ <;> omega) | (refine And.intro ?_ (And.intro ?_ ?_) <;> first | omega | (show _ < _; omega) | exact Nat.le_of_ble_eq_true rfl)); done)); (conv => whnf))))
      refine LoopI.back (i + 1) (by omega) (by omega) (Sub.of [] [] rfl ?_)
      (repeat' (refine And.intro ?_ ?_)) <;> first | rfl | trivial | omega | (rw [← hfin]; simp only [hget2]; rfl)
    · simp only [decide_eq_false_iff_not] at g2
      have hfin : R1 = mixL (insV d zs) (walkV d zs) sp (i + 2) := by
        rw [← mixL_set _ _ _ _ (by omega : i + 1 < sp), hin, ← hR1, insN, if_neg (by omega)]
      rw [hfin]
      ((conv => whnf); (repeat (refine And.intro ?_ ?_; (focus ((first | omega | (intro hg; simp only [Bool.or_eq_false_iff, Bool.or_eq_true, Bool.and_eq_true, Bool.and_eq_false_iff, Bool.not_eq_true, Bool.not_eq_false, Bool.not_eq_true', Bool.not_eq_false', decide_eq_false_iff_not, decide_eq_true_eq] at hg; first | omega | (refine And.intro ?_ ?_ <;> omega) | (refine And.intro ?_ (And.intro ?_ ?_) <;> first | omega | (show _ < _; omega) | exact Nat.le_of_ble_eq_true rfl)) | (refine And.intro ?_ ?_ <;> omega) | (refine And.intro ?_ (And.intro ?_ ?_) <;> first | omega | (show _ < _; omega) | exact Nat.le_of_ble_eq_true rfl)); done)); (conv => whnf))))
      refine LoopI.back (i + 1) (by omega) (by omega) (Sub.of [] [] rfl ?_)
      (repeat' (refine And.intro ?_ ?_)) <;> first | rfl | trivial | omega
  · simp only [decide_eq_false_iff_not] at g1
    obtain rfl : sp = i + 1 := by omega
    rw [← mix_end]
    ((conv => whnf); (repeat (refine And.intro ?_ ?_; (focus ((first | omega | (intro hg; simp only [Bool.or_eq_false_iff, Bool.or_eq_true, Bool.and_eq_true, Bool.and_eq_false_iff, Bool.not_eq_true, Bool.not_eq_false, Bool.not_eq_true', Bool.not_eq_false', decide_eq_false_iff_not, decide_eq_true_eq] at hg; first | omega | (refine And.intro ?_ ?_ <;> omega) | (refine And.intro ?_ (And.intro ?_ ?_) <;> first | omega | (show _ < _; omega) | exact Nat.le_of_ble_eq_true rfl)) | (refine And.intro ?_ ?_ <;> omega) | (refine And.intro ?_ (And.intro ?_ ?_) <;> first | omega | (show _ < _; omega) | exact Nat.le_of_ble_eq_true rfl)); done)); (conv => whnf))))
    exact EvRet.rows (R := rI) hll.symm (by rw [hll]; exact hc1) rfl rfl
end Go.Proofs.Ytofekfpbljihiaa
