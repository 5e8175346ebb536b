/- Claims: the values that the reference walks. -/
import Derived.Test.YtofekfpbljihiaaCe
namespace Go.Proofs.Ytofekfpbljihiaa
open Go.RowKit
set_option linter.unusedVariables false

/-- A declaration such as the reference makes. -/
def DcT (d : Dc) : Prop := (-9 ≤ d.lo ∧ d.lo ≤ 0 ∧ d.lo ≤ d.hi ∧ d.hi ≤ d.lo + 16) ∧ (-3 ≤ d.down ∧ d.down ≤ 1 ∧ d.down ≤ d.up ∧ d.up ≤ d.down + 3) ∧ (0 ≤ d.first ∧ d.first ≤ 6 ∧ d.first ≤ d.last ∧ d.last ≤ d.first + 13)
theorem declOf_T (zs : List Int) : DcT (declOf zs) := by
  have a0 := pick_nn zs 0 10 (by omega)
  have b0 := pick_lt zs 0 10 (by omega)
  have a1 := pick_nn zs 1 5 (by omega)
  have b1 := pick_lt zs 1 5 (by omega)
  have a2 := pick_nn zs 2 7 (by omega)
  have b2 := pick_lt zs 2 7 (by omega)
  have a5 := pick_nn zs 5 17 (by omega)
  have b5 := pick_lt zs 5 17 (by omega)
  have a6 := pick_nn zs 6 4 (by omega)
  have b6 := pick_lt zs 6 4 (by omega)
  have a7 := pick_nn zs 7 14 (by omega)
  have b7 := pick_lt zs 7 14 (by omega)
  simp only [DcT, declOf]
  omega
def walkV (d : Dc) (zs : List Int) : Nat → Int
  | 0 => d.lo + pick zs 0 (d.hi - d.lo + 1)
  | n + 1 => walkV d zs n + d.down + pick zs (n + 1) (d.up - d.down + 1)
theorem walkV_bd (d : Dc) (zs : List Int) (h : DcT d) : ∀ n : Nat, -9 - 3 * (n : Int) ≤ walkV d zs n ∧ walkV d zs n ≤ 16 + 4 * (n : Int)
  | 0 => by
    obtain ⟨h1, h2, h3⟩ := h
    have a0 := pick_nn zs 0 (d.hi - d.lo + 1) (by omega)
    have b0 := pick_lt zs 0 (d.hi - d.lo + 1) (by omega)
    simp only [walkV]
    omega
  | n + 1 => by
    have ih := walkV_bd d zs h n
    obtain ⟨h1, h2, h3⟩ := h
    have a0 := pick_nn zs (n + 1) (d.up - d.down + 1) (by omega)
    have b0 := pick_lt zs (n + 1) (d.up - d.down + 1) (by omega)
    simp only [walkV]
    omega
def walkL (d : Dc) (zs : List Int) (n : Nat) : List Int := (List.range n).map (walkV d zs)
theorem walkL_len (d : Dc) (zs : List Int) (n : Nat) : (walkL d zs n).length = n := by simp [walkL]
theorem walkL_succ (d : Dc) (zs : List Int) (n : Nat) : walkL d zs (n + 1) = walkL d zs n ++ [walkV d zs n] := by simp [walkL, List.range_succ]
set_option maxRecDepth 10000 in
theorem walk_s (nm : ByteArray) (A : Option Addr) (ln c : Nat) (d : Dc) (v : Value) (zs : List Int) (w : World) (h : DcT d) (hv : Ints w v zs) :
    Con Try.prog 26 #[.agg (dcCells nm (.slice A ln c) d), v] w (RetRows rI 3 w (walkL d zs (d.last - d.first + 1).toNat)) := by
  obtain ⟨A1, c1, rfl, e1, e2⟩ := hv.form
  have hw := walkV_bd d zs h
  obtain ⟨h1, h2, h3⟩ := h
  have hw0 := hw 0
  have a0 := pick_nn zs 0 (d.hi - d.lo + 1) (by omega)
  have b0 := pick_lt zs 0 (d.hi - d.lo + 1) (by omega)
  refine enter tabOk mixed Try.func26 rfl Try.ntmps26 Try.results26 [.a (dcS nm (.v (.slice A ln c)) d), .s 0 1 zs.length c1] (fun _ => A1) [⟨0, false, 3, 1, c1, .rows Int rI zs⟩] 1 rfl rfl (.ro (hp0 _ _ _) _ rfl rfl rfl (ro_ints hv rfl _)) ?_
  ((conv => whnf); (repeat (refine And.intro ?_ ?_; (focus ((first | omega | (intro hg; simp only [Bool.or_eq_false_iff, Bool.or_eq_true, Bool.and_eq_true, Bool.and_eq_false_iff, Bool.not_eq_true, Bool.not_eq_false, Bool.not_eq_true', Bool.not_eq_false', decide_eq_false_iff_not, decide_eq_true_eq] at hg; first | omega | (refine And.intro ?_ ?_ <;> omega) | (refine And.intro ?_ (And.intro ?_ ?_) <;> first | omega | (show _ < _; omega) | exact Nat.le_of_ble_eq_true rfl)) | (refine And.intro ?_ ?_ <;> omega) | (refine And.intro ?_ (And.intro ?_ ?_) <;> first | omega | (show _ < _; omega) | exact Nat.le_of_ble_eq_true rfl)); done)); (conv => whnf))))
  (refine EvDraw.one (.q 0 (.q 1 (.q 2 (.q 3 (.q 4 (.q 5 (.q 6 (.q 7 (.q 8 (.n 9 false (.q 10 (.q 11 (.z))) (.e))))))))))) (by kernel_rfl) ?_)
  ((conv => whnf); (repeat (refine And.intro ?_ ?_; (focus ((first | omega | (intro hg; simp only [Bool.or_eq_false_iff, Bool.or_eq_true, Bool.and_eq_true, Bool.and_eq_false_iff, Bool.not_eq_true, Bool.not_eq_false, Bool.not_eq_true', Bool.not_eq_false', decide_eq_false_iff_not, decide_eq_true_eq] at hg; first | omega | (refine And.intro ?_ ?_ <;> omega) | (refine And.intro ?_ (And.intro ?_ ?_) <;> first | omega | (show _ < _; omega) | exact Nat.le_of_ble_eq_true rfl)) | (refine And.intro ?_ ?_ <;> omega) | (refine And.intro ?_ (And.intro ?_ ?_) <;> first | omega | (show _ < _; omega) | exact Nat.le_of_ble_eq_true rfl)); done)); (conv => whnf))))
  refine EvCall.plain Try.call51 (.v (.int .i64 (pick zs 0 (d.hi - d.lo + 1)))) rfl (fun ρ W hp => pick_s _ zs 0 _ W (hp.ints (n := 0) rfl e1 e2 hv.2) (by omega) (by omega) (by omega)) ?_
  ((conv => whnf); (repeat (refine And.intro ?_ ?_; (focus ((first | omega | (intro hg; simp only [Bool.or_eq_false_iff, Bool.or_eq_true, Bool.and_eq_true, Bool.and_eq_false_iff, Bool.not_eq_true, Bool.not_eq_false, Bool.not_eq_true', Bool.not_eq_false', decide_eq_false_iff_not, decide_eq_true_eq] at hg; first | omega | (refine And.intro ?_ ?_ <;> omega) | (refine And.intro ?_ (And.intro ?_ ?_) <;> first | omega | (show _ < _; omega) | exact Nat.le_of_ble_eq_true rfl)) | (refine And.intro ?_ ?_ <;> omega) | (refine And.intro ?_ (And.intro ?_ ?_) <;> first | omega | (show _ < _; omega) | exact Nat.le_of_ble_eq_true rfl)); done)); (conv => whnf))))
  refine EvLoop.inv (α := Nat × Nat) (fun p => d.first + p.1 ≤ d.last ∧ p.1 + 1 ≤ p.2 ∧ p.2 ≤ 9223372036854775807) (fun p => (d.last - d.first - p.1).toNat) (fun p => [(7, [], .v (.int .i64 (d.first + p.1))), (6, [], .s 2 1 (p.1 + 1) p.2), (5, [], .v (.int .i64 (walkV d zs p.1))), (2, [], .p 1 0), (1, [], .s 0 1 zs.length c1)])
    (fun p => [⟨2, true, 3, 1, p.2, .rows Int rI (walkL d zs (p.1 + 1))⟩, ⟨1, true, 27, 12, 1, .cs (dcS nm (.v (.slice A ln c)) d)⟩, ⟨0, false, 3, 1, c1, .rows Int rI zs⟩]) 3 (0, 1) ⟨by simp; omega, by simp, by decide⟩ (Sub.of [] [] rfl ?_) ?_
  · (repeat' (refine And.intro ?_ ?_)) <;> first | rfl | trivial | omega | (show _ = _ ; simp) | (intro ρ; rfl)
  intro p ⟨q1, q2, q3⟩
  have hwp := hw p.1
  have a1 := pick_nn zs (p.1 + 1) (d.up - d.down + 1) (by omega)
  have b1 := pick_lt zs (p.1 + 1) (d.up - d.down + 1) (by omega)
  have hll := walkL_len d zs (p.1 + 1)
  ((conv => whnf); (repeat (refine And.intro ?_ ?_; (focus ((first | omega | (intro hg; simp only [Bool.or_eq_false_iff, Bool.or_eq_true, Bool.and_eq_true, Bool.and_eq_false_iff, Bool.not_eq_true, Bool.not_eq_false, Bool.not_eq_true', Bool.not_eq_false', decide_eq_false_iff_not, decide_eq_true_eq] at hg; first | omega | (refine And.intro ?_ ?_ <;> omega) | (refine And.intro ?_ (And.intro ?_ ?_) <;> first | omega | (show _ < _; omega) | exact Nat.le_of_ble_eq_true rfl)) | (refine And.intro ?_ ?_ <;> omega) | (refine And.intro ?_ (And.intro ?_ ?_) <;> first | omega | (show _ < _; omega) | exact Nat.le_of_ble_eq_true rfl)); done)); (conv => whnf))))
  refine EvIf.split (fun g1 => ?_) (fun g1 => ?_)
  · simp only [decide_eq_true_eq] at g1
    ((conv => whnf); (repeat (refine And.intro ?_ ?_; (focus ((first | omega | (intro hg; simp only [Bool.or_eq_false_iff, Bool.or_eq_true, Bool.and_eq_true, Bool.and_eq_false_iff, Bool.not_eq_true, Bool.not_eq_false, Bool.not_eq_true', Bool.not_eq_false', decide_eq_false_iff_not, decide_eq_true_eq] at hg; first | omega | (refine And.intro ?_ ?_ <;> omega) | (refine And.intro ?_ (And.intro ?_ ?_) <;> first | omega | (show _ < _; omega) | exact Nat.le_of_ble_eq_true rfl)) | (refine And.intro ?_ ?_ <;> omega) | (refine And.intro ?_ (And.intro ?_ ?_) <;> first | omega | (show _ < _; omega) | exact Nat.le_of_ble_eq_true rfl)); done)); (conv => whnf))))
    (refine EvDraw.one (.q 0 (.q 1 (.q 2 (.q 3 (.q 4 (.q 5 (.q 6 (.q 7 (.q 8 (.q 9 (.q 10 (.q 11 (.q 12 (.q 13 (.q 14 (.q 15 (.n 16 false (.q 17 (.q 18 (.z))) (.e)))))))))))))))))) (by kernel_rfl) ?_)
    ((conv => whnf); (repeat (refine And.intro ?_ ?_; (focus ((first | omega | (intro hg; simp only [Bool.or_eq_false_iff, Bool.or_eq_true, Bool.and_eq_true, Bool.and_eq_false_iff, Bool.not_eq_true, Bool.not_eq_false, Bool.not_eq_true', Bool.not_eq_false', decide_eq_false_iff_not, decide_eq_true_eq] at hg; first | omega | (refine And.intro ?_ ?_ <;> omega) | (refine And.intro ?_ (And.intro ?_ ?_) <;> first | omega | (show _ < _; omega) | exact Nat.le_of_ble_eq_true rfl)) | (refine And.intro ?_ ?_ <;> omega) | (refine And.intro ?_ (And.intro ?_ ?_) <;> first | omega | (show _ < _; omega) | exact Nat.le_of_ble_eq_true rfl)); done)); (conv => whnf))))
    have hpk : ∀ ρ W, Hp w ρ _ 3 W → Con Try.prog 51 (denL ρ [.s 0 1 zs.length c1, .v (.int .i64 (d.first + p.1 - d.first + 1)), .v (.int .i64 (d.up - d.down + 1))]).toArray W (Ret W (den ρ (.v (.int .i64 (pick zs (p.1 + 1) (d.up - d.down + 1)))))) := fun ρ W (hp : Hp w ρ [⟨2, true, 3, 1, p.2, .rows Int rI (walkL d zs (p.1 + 1))⟩, ⟨1, true, 27, 12, 1, .cs (dcS nm (.v (.slice A ln c)) d)⟩, ⟨0, false, 3, 1, c1, .rows Int rI zs⟩] 3 W) => by
      have := pick_s _ zs (d.first + p.1 - d.first + 1) (d.up - d.down + 1) W (hp.ints (n := 0) rfl e1 e2 hv.2) (by omega) (by omega) (by omega)
      rw [show (d.first + (p.1 : Int) - d.first + 1).toNat = p.1 + 1 by omega] at this
      exact this
    refine EvCall.plain Try.call51 (.v (.int .i64 (pick zs (p.1 + 1) (d.up - d.down + 1)))) rfl hpk ?_
    ((conv => whnf); (repeat (refine And.intro ?_ ?_; (focus ((first | omega | (intro hg; simp only [Bool.or_eq_false_iff, Bool.or_eq_true, Bool.and_eq_true, Bool.and_eq_false_iff, Bool.not_eq_true, Bool.not_eq_false, Bool.not_eq_true', Bool.not_eq_false', decide_eq_false_iff_not, decide_eq_true_eq] at hg; first | omega | (refine And.intro ?_ ?_ <;> omega) | (refine And.intro ?_ (And.intro ?_ ?_) <;> first | omega | (show _ < _; omega) | exact Nat.le_of_ble_eq_true rfl)) | (refine And.intro ?_ ?_ <;> omega) | (refine And.intro ?_ (And.intro ?_ ?_) <;> first | omega | (show _ < _; omega) | exact Nat.le_of_ble_eq_true rfl)); done)); (conv => whnf))))
    refine EvBi.append (R := rI) tyok22 rfl tyok3 rfl (by decide) rfl rfl hll.symm (by rw [hll]; exact q2) [walkV d zs (p.1 + 1)] (fun ρ W hp => hp.lit (R := rI) (ys := [walkV d zs (p.1 + 1)]) rfl (by decide) (by simp) (by omega) rfl) (by rw [hll]; show (_ + 1) * 8 ≤ _; omega) (by rw [hll]; show _ + 1 ≤ _; omega) (fun cap' hq1 hq2 => ?_)
    rw [← walkL_succ, hll] at *
    ((conv => whnf); (repeat (refine And.intro ?_ ?_; (focus ((first | omega | (intro hg; simp only [Bool.or_eq_false_iff, Bool.or_eq_true, Bool.and_eq_true, Bool.and_eq_false_iff, Bool.not_eq_true, Bool.not_eq_false, Bool.not_eq_true', Bool.not_eq_false', decide_eq_false_iff_not, decide_eq_true_eq] at hg; first | omega | (refine And.intro ?_ ?_ <;> omega) | (refine And.intro ?_ (And.intro ?_ ?_) <;> first | omega | (show _ < _; omega) | exact Nat.le_of_ble_eq_true rfl)) | (refine And.intro ?_ ?_ <;> omega) | (refine And.intro ?_ (And.intro ?_ ?_) <;> first | omega | (show _ < _; omega) | exact Nat.le_of_ble_eq_true rfl)); done)); (conv => whnf))))
    refine LoopI.back (p.1 + 1, cap') ⟨by show d.first + ((p.1 + 1 : Nat) : Int) ≤ d.last; omega, hq1, hq2⟩ (by show (d.last - d.first - ((p.1 + 1 : Nat) : Int)).toNat < (d.last - d.first - (p.1 : Int)).toNat; omega) (Sub.of [(2, 4)] [] rfl ?_)
    (repeat' (refine And.intro ?_ ?_)) <;> first | rfl | trivial | omega
  · simp only [decide_eq_false_iff_not] at g1
    have hsp : (d.last - d.first + 1).toNat = p.1 + 1 := by omega
    rw [hsp]
    ((conv => whnf); (repeat (refine And.intro ?_ ?_; (focus ((first | omega | (intro hg; simp only [Bool.or_eq_false_iff, Bool.or_eq_true, Bool.and_eq_true, Bool.and_eq_false_iff, Bool.not_eq_true, Bool.not_eq_false, Bool.not_eq_true', Bool.not_eq_false', decide_eq_false_iff_not, decide_eq_true_eq] at hg; first | omega | (refine And.intro ?_ ?_ <;> omega) | (refine And.intro ?_ (And.intro ?_ ?_) <;> first | omega | (show _ < _; omega) | exact Nat.le_of_ble_eq_true rfl)) | (refine And.intro ?_ ?_ <;> omega) | (refine And.intro ?_ (And.intro ?_ ?_) <;> first | omega | (show _ < _; omega) | exact Nat.le_of_ble_eq_true rfl)); done)); (conv => whnf))))
    exact EvRet.rows (R := rI) hll.symm (by rw [hll]; exact q2) rfl rfl
end Go.Proofs.Ytofekfpbljihiaa
