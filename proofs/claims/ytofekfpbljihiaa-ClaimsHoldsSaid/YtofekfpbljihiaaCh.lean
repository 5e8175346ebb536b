/- Claims: the claims that the reference makes. -/
import Derived.Test.YtofekfpbljihiaaCg
namespace Go.Proofs.Ytofekfpbljihiaa
open Go.RowKit
set_option linter.unusedVariables false

/-- One of the wild claims. -/
def wildC (d : Dc) (zs : List Int) (i : Int) : Cl :=
  ⟨d.first + arnd (zs.getD i.toNat 0) (d.last - d.first + 1), d.first + min (d.last - d.first + 1 - 1) (arnd (zs.getD i.toNat 0) (d.last - d.first + 1) + arnd (zs.getD (i + 1).toNat 0) 4),
    d.lo - 2 + arnd (zs.getD (i + 2).toNat 0) (d.hi - d.lo + 4), d.lo - 2 + arnd (zs.getD (i + 2).toNat 0) (d.hi - d.lo + 4) + arnd (zs.getD (i + 3).toNat 0) 9⟩
def wildL (d : Dc) (zs : List Int) (k : Nat) : List Cl := (List.range k).map fun j : Nat => wildC d zs (4 * (j : Int))
def wildN (zs : List Int) (m : Nat) : Nat := min (zs.length / 4) m
theorem wildL_len (d : Dc) (zs : List Int) (k : Nat) : (wildL d zs k).length = k := by simp [wildL]
theorem wildL_succ (d : Dc) (zs : List Int) (k : Nat) : wildL d zs (k + 1) = wildL d zs k ++ [wildC d zs (4 * (k : Int))] := by simp [wildL, List.range_succ]
set_option maxRecDepth 10000 in
theorem wild_s (nm : ByteArray) (A : Option Addr) (ln c : Nat) (d : Dc) (v : Value) (zs : List Int) (m : Nat) (w : World) (h : DcT d) (hv : Ints w v zs) (hm : m ≤ 100) :
    Con Try.prog 29 #[.agg (dcCells nm (.slice A ln c) d), v, .int .i64 (m : Int)] w (RetRows rC 32 w (wildL d zs (wildN zs m))) := by
  obtain ⟨A1, c1, rfl, e1, e2⟩ := hv.form
  obtain ⟨h1, h2, h3⟩ := h
  refine enter tabOk mixed Try.func29 rfl Try.ntmps29 Try.results29 [.a (dcS nm (.v (.slice A ln c)) d), .s 0 1 zs.length c1, .v (.int .i64 (m : Int))] (fun _ => A1) [⟨0, false, 3, 1, c1, .rows Int rI (zs)⟩] 1 rfl rfl (.ro (hp0 _ _ _) _ rfl rfl rfl (ro_ints hv rfl _)) ?_
  ((conv => whnf); (repeat (refine And.intro ?_ ?_; (focus ((first | omega | (intro hg; simp only [Bool.or_eq_false_iff, Bool.or_eq_true, Bool.and_eq_true, Bool.and_eq_false_iff, Bool.not_eq_true, Bool.not_eq_false, Bool.not_eq_true', Bool.not_eq_false', decide_eq_false_iff_not, decide_eq_true_eq] at hg; first | omega | (refine And.intro ?_ ?_ <;> omega) | (refine And.intro ?_ (And.intro ?_ ?_) <;> first | omega | (show _ < _; omega) | exact Nat.le_of_ble_eq_true rfl)) | (refine And.intro ?_ ?_ <;> omega) | (refine And.intro ?_ (And.intro ?_ ?_) <;> first | omega | (show _ < _; omega) | exact Nat.le_of_ble_eq_true rfl)); done)); (conv => whnf))))
  refine EvLoop.inv (α := Nat × Nat) (fun p => p.1 ≤ wildN zs m ∧ p.1 ≤ p.2 ∧ p.2 ≤ 9223372036854775807) (fun p => wildN zs m - p.1)
    (fun p => [(9, [], .v (.int .i64 (4 * (p.1 : Int)))), (7, [], .s 2 4 p.1 p.2), (8, [], .v (.int .i64 (d.last - d.first + 1))), (3, [], .p 1 0), (1, [], .s 0 1 zs.length c1), (2, [], .v (.int .i64 ((m : Int))))])
    (fun p => [⟨2, true, 32, 4, p.2, .rows Cl rC (wildL d zs p.1)⟩, ⟨1, true, 27, 12, 1, .cs (dcS nm (.v (.slice A ln c)) d)⟩, ⟨0, false, 3, 1, c1, .rows Int rI (zs)⟩]) 3 (0, 0) ⟨by simp, by simp, by decide⟩ (Sub.of [] [2] rfl ?_) ?_
  · (repeat' (refine And.intro ?_ ?_)) <;> first | rfl | trivial | omega | (show _ = _ ; simp)
  intro p ⟨q1, q2, q3⟩
  have hll := wildL_len d zs p.1
  have hwn : wildN zs m ≤ m ∧ 4 * wildN zs m ≤ zs.length ∧ (p.1 < wildN zs m ∨ m ≤ p.1 ∨ zs.length < 4 * (p.1 + 1)) := by unfold wildN; omega
  ((conv => whnf); (repeat (refine And.intro ?_ ?_; (focus ((first | omega | (intro hg; simp only [Bool.or_eq_false_iff, Bool.or_eq_true, Bool.and_eq_true, Bool.and_eq_false_iff, Bool.not_eq_true, Bool.not_eq_false, Bool.not_eq_true', Bool.not_eq_false', decide_eq_false_iff_not, decide_eq_true_eq] at hg; first | omega | (refine And.intro ?_ ?_ <;> omega) | (refine And.intro ?_ (And.intro ?_ ?_) <;> first | omega | (show _ < _; omega) | exact Nat.le_of_ble_eq_true rfl)) | (refine And.intro ?_ ?_ <;> omega) | (refine And.intro ?_ (And.intro ?_ ?_) <;> first | omega | (show _ < _; omega) | exact Nat.le_of_ble_eq_true rfl)); done)); (conv => whnf))))
  refine EvIf.split (fun g1 => ?_) (fun g1 => ?_)
  · simp only [Bool.and_eq_true, decide_eq_true_eq] at g1
    have i0 := hv.i64 (k := Int.toNat (4 * (p.1 : Int))) (by omega)
    have i1 := hv.i64 (k := Int.toNat (4 * (p.1 : Int) + 1)) (by omega)
    have i2 := hv.i64 (k := Int.toNat (4 * (p.1 : Int) + 2)) (by omega)
    have i3 := hv.i64 (k := Int.toNat (4 * (p.1 : Int) + 3)) (by omega)
    have a0 := arnd_nn (zs.getD (Int.toNat (4 * (p.1 : Int))) 0) (d.last - d.first + 1) (by omega)
    have b0 := arnd_lt (zs.getD (Int.toNat (4 * (p.1 : Int))) 0) (d.last - d.first + 1) (by omega)
    have a1 := arnd_nn (zs.getD (Int.toNat (4 * (p.1 : Int) + 1)) 0) 4 (by omega)
    have b1 := arnd_lt (zs.getD (Int.toNat (4 * (p.1 : Int) + 1)) 0) 4 (by omega)
    have a2 := arnd_nn (zs.getD (Int.toNat (4 * (p.1 : Int) + 2)) 0) (d.hi - d.lo + 4) (by omega)
    have b2 := arnd_lt (zs.getD (Int.toNat (4 * (p.1 : Int) + 2)) 0) (d.hi - d.lo + 4) (by omega)
    have a3 := arnd_nn (zs.getD (Int.toNat (4 * (p.1 : Int) + 3)) 0) 9 (by omega)
    have b3 := arnd_lt (zs.getD (Int.toNat (4 * (p.1 : Int) + 3)) 0) 9 (by omega)
    ((conv => whnf); (repeat (refine And.intro ?_ ?_; (focus ((first | omega | (intro hg; simp only [Bool.or_eq_false_iff, Bool.or_eq_true, Bool.and_eq_true, Bool.and_eq_false_iff, Bool.not_eq_true, Bool.not_eq_false, Bool.not_eq_true', Bool.not_eq_false', decide_eq_false_iff_not, decide_eq_true_eq] at hg; first | omega | (refine And.intro ?_ ?_ <;> omega) | (refine And.intro ?_ (And.intro ?_ ?_) <;> first | omega | (show _ < _; omega) | exact Nat.le_of_ble_eq_true rfl)) | (refine And.intro ?_ ?_ <;> omega) | (refine And.intro ?_ (And.intro ?_ ?_) <;> first | omega | (show _ < _; omega) | exact Nat.le_of_ble_eq_true rfl)); done)); (conv => whnf))))
    refine EvCall.plain Try.call19 (.v (.int .i64 (arnd (zs.getD (Int.toNat (4 * (p.1 : Int))) 0) (d.last - d.first + 1)))) rfl (fun ρ W hp => around_s _ _ _ i0 (by omega) (by omega)) ?_
    ((conv => whnf); (repeat (refine And.intro ?_ ?_; (focus ((first | omega | (intro hg; simp only [Bool.or_eq_false_iff, Bool.or_eq_true, Bool.and_eq_true, Bool.and_eq_false_iff, Bool.not_eq_true, Bool.not_eq_false, Bool.not_eq_true', Bool.not_eq_false', decide_eq_false_iff_not, decide_eq_true_eq] at hg; first | omega | (refine And.intro ?_ ?_ <;> omega) | (refine And.intro ?_ (And.intro ?_ ?_) <;> first | omega | (show _ < _; omega) | exact Nat.le_of_ble_eq_true rfl)) | (refine And.intro ?_ ?_ <;> omega) | (refine And.intro ?_ (And.intro ?_ ?_) <;> first | omega | (show _ < _; omega) | exact Nat.le_of_ble_eq_true rfl)); done)); (conv => whnf))))
    (refine EvDraw.one (.q 0 (.q 1 (.q 2 (.q 3 (.q 4 (.q 5 (.q 6 (.q 7 (.q 8 (.q 9 (.q 10 (.q 11 (.q 12 (.q 13 (.n 14 false (.q 15 (.q 16 (.z))) (.e)))))))))))))))) (by kernel_rfl) ?_)
    ((conv => whnf); (repeat (refine And.intro ?_ ?_; (focus ((first | omega | (intro hg; simp only [Bool.or_eq_false_iff, Bool.or_eq_true, Bool.and_eq_true, Bool.and_eq_false_iff, Bool.not_eq_true, Bool.not_eq_false, Bool.not_eq_true', Bool.not_eq_false', decide_eq_false_iff_not, decide_eq_true_eq] at hg; first | omega | (refine And.intro ?_ ?_ <;> omega) | (refine And.intro ?_ (And.intro ?_ ?_) <;> first | omega | (show _ < _; omega) | exact Nat.le_of_ble_eq_true rfl)) | (refine And.intro ?_ ?_ <;> omega) | (refine And.intro ?_ (And.intro ?_ ?_) <;> first | omega | (show _ < _; omega) | exact Nat.le_of_ble_eq_true rfl)); done)); (conv => whnf))))
    refine EvCall.plain Try.call19 (.v (.int .i64 (arnd (zs.getD (Int.toNat (4 * (p.1 : Int) + 2)) 0) (d.hi - d.lo + 4)))) rfl (fun ρ W hp => around_s _ _ _ i2 (by omega) (by omega)) ?_
    ((conv => whnf); (repeat (refine And.intro ?_ ?_; (focus ((first | omega | (intro hg; simp only [Bool.or_eq_false_iff, Bool.or_eq_true, Bool.and_eq_true, Bool.and_eq_false_iff, Bool.not_eq_true, Bool.not_eq_false, Bool.not_eq_true', Bool.not_eq_false', decide_eq_false_iff_not, decide_eq_true_eq] at hg; first | omega | (refine And.intro ?_ ?_ <;> omega) | (refine And.intro ?_ (And.intro ?_ ?_) <;> first | omega | (show _ < _; omega) | exact Nat.le_of_ble_eq_true rfl)) | (refine And.intro ?_ ?_ <;> omega) | (refine And.intro ?_ (And.intro ?_ ?_) <;> first | omega | (show _ < _; omega) | exact Nat.le_of_ble_eq_true rfl)); done)); (conv => whnf))))
    (refine EvDraw.one (.q 0 (.q 1 (.q 2 (.q 3 (.q 4 (.q 5 (.q 6 (.q 7 (.q 8 (.q 9 (.q 10 (.q 11 (.q 12 (.q 13 (.q 14 (.q 19 (.q 20 (.q 21 (.q 22 (.q 23 (.q 24 (.q 25 (.n 15 false (.q 16 (.q 17 (.q 18 (.n 26 false (.q 27 (.q 28 (.n 29 false (.n 30 true (.q 31 (.z)) (.e)) (.e)))) (.e))))) (.e)))))))))))))))))))))))) (by kernel_rfl) ?_)
    ((conv => whnf); (repeat (refine And.intro ?_ ?_; (focus ((first | omega | (intro hg; simp only [Bool.or_eq_false_iff, Bool.or_eq_true, Bool.and_eq_true, Bool.and_eq_false_iff, Bool.not_eq_true, Bool.not_eq_false, Bool.not_eq_true', Bool.not_eq_false', decide_eq_false_iff_not, decide_eq_true_eq] at hg; first | omega | (refine And.intro ?_ ?_ <;> omega) | (refine And.intro ?_ (And.intro ?_ ?_) <;> first | omega | (show _ < _; omega) | exact Nat.le_of_ble_eq_true rfl)) | (refine And.intro ?_ ?_ <;> omega) | (refine And.intro ?_ (And.intro ?_ ?_) <;> first | omega | (show _ < _; omega) | exact Nat.le_of_ble_eq_true rfl)); done)); (conv => whnf))))
    refine EvCall.plain Try.call19 (.v (.int .i64 (arnd (zs.getD (Int.toNat (4 * (p.1 : Int) + 1)) 0) 4))) rfl (fun ρ W hp => around_s _ _ _ i1 (by omega) (by omega)) ?_
    ((conv => whnf); (repeat (refine And.intro ?_ ?_; (focus ((first | omega | (intro hg; simp only [Bool.or_eq_false_iff, Bool.or_eq_true, Bool.and_eq_true, Bool.and_eq_false_iff, Bool.not_eq_true, Bool.not_eq_false, Bool.not_eq_true', Bool.not_eq_false', decide_eq_false_iff_not, decide_eq_true_eq] at hg; first | omega | (refine And.intro ?_ ?_ <;> omega) | (refine And.intro ?_ (And.intro ?_ ?_) <;> first | omega | (show _ < _; omega) | exact Nat.le_of_ble_eq_true rfl)) | (refine And.intro ?_ ?_ <;> omega) | (refine And.intro ?_ (And.intro ?_ ?_) <;> first | omega | (show _ < _; omega) | exact Nat.le_of_ble_eq_true rfl)); done)); (conv => whnf))))
    refine EvCall.plain Try.call19 (.v (.int .i64 (arnd (zs.getD (Int.toNat (4 * (p.1 : Int) + 3)) 0) 9))) rfl (fun ρ W hp => around_s _ _ _ i3 (by omega) (by omega)) ?_
    ((conv => whnf); (repeat (refine And.intro ?_ ?_; (focus ((first | omega | (intro hg; simp only [Bool.or_eq_false_iff, Bool.or_eq_true, Bool.and_eq_true, Bool.and_eq_false_iff, Bool.not_eq_true, Bool.not_eq_false, Bool.not_eq_true', Bool.not_eq_false', decide_eq_false_iff_not, decide_eq_true_eq] at hg; first | omega | (refine And.intro ?_ ?_ <;> omega) | (refine And.intro ?_ (And.intro ?_ ?_) <;> first | omega | (show _ < _; omega) | exact Nat.le_of_ble_eq_true rfl)) | (refine And.intro ?_ ?_ <;> omega) | (refine And.intro ?_ (And.intro ?_ ?_) <;> first | omega | (show _ < _; omega) | exact Nat.le_of_ble_eq_true rfl)); done)); (conv => whnf))))
    refine EvBi.append (R := rC) tyok39 rfl tyok32 rfl (by decide) rfl rfl hll.symm (by rw [hll]; exact q2) [wildC d zs (4 * (p.1 : Int))] (fun ρ W hp => hp.lit (R := rC) (ys := [wildC d zs (4 * (p.1 : Int))]) rfl (by decide) (by simp) (by omega) rfl) (by rw [hll]; show (_ + 1) * 32 ≤ _; omega) (by rw [hll]; show _ + 1 ≤ _; omega) (fun cap' hq1 hq2 => ?_)
    rw [← wildL_succ, hll] at *
    ((conv => whnf); (repeat (refine And.intro ?_ ?_; (focus ((first | omega | (intro hg; simp only [Bool.or_eq_false_iff, Bool.or_eq_true, Bool.and_eq_true, Bool.and_eq_false_iff, Bool.not_eq_true, Bool.not_eq_false, Bool.not_eq_true', Bool.not_eq_false', decide_eq_false_iff_not, decide_eq_true_eq] at hg; first | omega | (refine And.intro ?_ ?_ <;> omega) | (refine And.intro ?_ (And.intro ?_ ?_) <;> first | omega | (show _ < _; omega) | exact Nat.le_of_ble_eq_true rfl)) | (refine And.intro ?_ ?_ <;> omega) | (refine And.intro ?_ (And.intro ?_ ?_) <;> first | omega | (show _ < _; omega) | exact Nat.le_of_ble_eq_true rfl)); done)); (conv => whnf))))
    refine LoopI.back (p.1 + 1, cap') ⟨by show p.1 + 1 ≤ wildN zs m; omega, hq1, hq2⟩ (by show wildN zs m - (p.1 + 1) < wildN zs m - p.1; omega) (Sub.of [(2, 4)] [] rfl ?_)
    (repeat' (refine And.intro ?_ ?_)) <;> first | rfl | trivial | omega
  · simp only [Bool.and_eq_false_iff, decide_eq_false_iff_not] at g1
    have hsp : wildN zs m = p.1 := by omega
    rw [hsp]
    ((conv => whnf); (repeat (refine And.intro ?_ ?_; (focus ((first | omega | (intro hg; simp only [Bool.or_eq_false_iff, Bool.or_eq_true, Bool.and_eq_true, Bool.and_eq_false_iff, Bool.not_eq_true, Bool.not_eq_false, Bool.not_eq_true', Bool.not_eq_false', decide_eq_false_iff_not, decide_eq_true_eq] at hg; first | omega | (refine And.intro ?_ ?_ <;> omega) | (refine And.intro ?_ (And.intro ?_ ?_) <;> first | omega | (show _ < _; omega) | exact Nat.le_of_ble_eq_true rfl)) | (refine And.intro ?_ ?_ <;> omega) | (refine And.intro ?_ (And.intro ?_ ?_) <;> first | omega | (show _ < _; omega) | exact Nat.le_of_ble_eq_true rfl)); done)); (conv => whnf))))
    exact EvRet.rows (R := rC) hll.symm (by rw [hll]; exact q2) rfl rfl

/-- The least and the greatest of k values from f on. -/
def lowW (vs : List Int) (f : Nat) : Nat → Int
  | 0 => vs.getD f 0
  | k + 1 => min (lowW vs f k) (vs.getD (f + k) 0)
def highW (vs : List Int) (f : Nat) : Nat → Int
  | 0 => vs.getD f 0
  | k + 1 => max (highW vs f k) (vs.getD (f + k) 0)
def Small (vs : List Int) : Prop := ∀ i, -100000 ≤ vs.getD i 0 ∧ vs.getD i 0 ≤ 100000
theorem lowW_bd {vs : List Int} (h : Small vs) (f : Nat) : ∀ k, -100000 ≤ lowW vs f k ∧ lowW vs f k ≤ 100000
  | 0 => h f
  | k + 1 => by have := lowW_bd h f k; have := h (f + k); simp only [lowW]; omega
theorem highW_bd {vs : List Int} (h : Small vs) (f : Nat) : ∀ k, -100000 ≤ highW vs f k ∧ highW vs f k ≤ 100000
  | 0 => h f
  | k + 1 => by have := highW_bd h f k; have := h (f + k); simp only [highW]; omega
def arF (vs zs : List Int) (i : Int) : Int := arnd (zs.getD i.toNat 0) (vs.length : Int)
def arG (vs zs : List Int) (i : Int) : Int := min ((vs.length : Int) - 1) (arF vs zs i + arnd (zs.getD (i + 1).toNat 0) 3)
def arC (d : Dc) (vs zs : List Int) (i : Int) : Cl :=
  ⟨d.first + arF vs zs i, d.first + arG vs zs i, lowW vs (arF vs zs i).toNat (arG vs zs i - arF vs zs i + 1).toNat - (arnd (zs.getD (i + 2).toNat 0) 16).tdiv 4,
    highW vs (arF vs zs i).toNat (arG vs zs i - arF vs zs i + 1).toNat + (arnd (zs.getD (i + 2).toNat 0) 16).tmod 4⟩
def arL (d : Dc) (vs zs : List Int) (k : Nat) : List Cl := (List.range k).map fun j : Nat => arC d vs zs (3 * (j : Int))
def arN (zs : List Int) (m : Nat) : Nat := min (zs.length / 3) m
theorem arL_len (d : Dc) (vs zs : List Int) (k : Nat) : (arL d vs zs k).length = k := by simp [arL]
theorem arL_succ (d : Dc) (vs zs : List Int) (k : Nat) : arL d vs zs (k + 1) = arL d vs zs k ++ [arC d vs zs (3 * (k : Int))] := by simp [arL, List.range_succ]
set_option maxRecDepth 10000 in
theorem ref_around_s (nm : ByteArray) (A : Option Addr) (ln c : Nat) (d : Dc) (v1 v2 : Value) (vs zs : List Int) (m : Nat) (w : World) (h : DcT d) (hvs : Ints w v1 vs) (hv : Ints w v2 zs) (hm : m ≤ 100) (hne : 0 < vs.length) (hln : vs.length ≤ 100000) (hsm : Small vs) :
    Con Try.prog 30 #[.agg (dcCells nm (.slice A ln c) d), v1, v2, .int .i64 (m : Int)] w (RetRows rC 32 w (arL d vs zs (arN zs m))) := by
  obtain ⟨A1, c1, rfl, e1, e2⟩ := hv.form
  obtain ⟨A2, c2, rfl, e3, e4⟩ := hvs.form
  obtain ⟨h1, h2, h3⟩ := h
  refine enter tabOk mixed Try.func30 rfl Try.ntmps30 Try.results30 [.a (dcS nm (.v (.slice A ln c)) d), .s 1 1 vs.length c2, .s 0 1 zs.length c1, .v (.int .i64 (m : Int))] (fun n => if n = 0 then A1 else A2) [⟨1, false, 3, 1, c2, .rows Int rI (vs)⟩, ⟨0, false, 3, 1, c1, .rows Int rI (zs)⟩] 2 rfl rfl (.ro (.ro (hp0 _ _ _) _ rfl rfl rfl (ro_ints hv rfl _)) _ rfl rfl rfl (ro_ints hvs rfl _)) ?_
  ((conv => whnf); (repeat (refine And.intro ?_ ?_; (focus ((first | omega | (intro hg; simp only [Bool.or_eq_false_iff, Bool.or_eq_true, Bool.and_eq_true, Bool.and_eq_false_iff, Bool.not_eq_true, Bool.not_eq_false, Bool.not_eq_true', Bool.not_eq_false', decide_eq_false_iff_not, decide_eq_true_eq] at hg; first | omega | (refine And.intro ?_ ?_ <;> omega) | (refine And.intro ?_ (And.intro ?_ ?_) <;> first | omega | (show _ < _; omega) | exact Nat.le_of_ble_eq_true rfl)) | (refine And.intro ?_ ?_ <;> omega) | (refine And.intro ?_ (And.intro ?_ ?_) <;> first | omega | (show _ < _; omega) | exact Nat.le_of_ble_eq_true rfl)); done)); (conv => whnf))))
  refine EvLoop.inv (α := Nat × Nat) (fun p => p.1 ≤ arN zs m ∧ p.1 ≤ p.2 ∧ p.2 ≤ 9223372036854775807) (fun p => arN zs m - p.1)
    (fun p => [(11, [], .v (.int .i64 (3 * (p.1 : Int)))), (9, [], .s 3 4 p.1 p.2), (10, [], .v (.int .i64 ((vs.length : Int)))), (4, [], .p 2 0), (1, [], .s 1 1 vs.length c2), (2, [], .s 0 1 zs.length c1), (3, [], .v (.int .i64 ((m : Int))))])
    (fun p => [⟨3, true, 32, 4, p.2, .rows Cl rC (arL d vs zs p.1)⟩, ⟨2, true, 27, 12, 1, .cs (dcS nm (.v (.slice A ln c)) d)⟩, ⟨1, false, 3, 1, c2, .rows Int rI (vs)⟩, ⟨0, false, 3, 1, c1, .rows Int rI (zs)⟩]) 4 (0, 0) ⟨by simp, by simp, by decide⟩ (Sub.of [] [3] rfl ?_) ?_
  · (repeat' (refine And.intro ?_ ?_)) <;> first | rfl | trivial | omega | (show _ = _ ; simp)
  intro p ⟨q1, q2, q3⟩
  have hll := arL_len d vs zs p.1
  have hwn : arN zs m ≤ m ∧ 3 * arN zs m ≤ zs.length ∧ (p.1 < arN zs m ∨ m ≤ p.1 ∨ zs.length < 3 * (p.1 + 1)) := by unfold arN; omega
  ((conv => whnf); (repeat (refine And.intro ?_ ?_; (focus ((first | omega | (intro hg; simp only [Bool.or_eq_false_iff, Bool.or_eq_true, Bool.and_eq_true, Bool.and_eq_false_iff, Bool.not_eq_true, Bool.not_eq_false, Bool.not_eq_true', Bool.not_eq_false', decide_eq_false_iff_not, decide_eq_true_eq] at hg; first | omega | (refine And.intro ?_ ?_ <;> omega) | (refine And.intro ?_ (And.intro ?_ ?_) <;> first | omega | (show _ < _; omega) | exact Nat.le_of_ble_eq_true rfl)) | (refine And.intro ?_ ?_ <;> omega) | (refine And.intro ?_ (And.intro ?_ ?_) <;> first | omega | (show _ < _; omega) | exact Nat.le_of_ble_eq_true rfl)); done)); (conv => whnf))))
  refine EvIf.split (fun g1 => ?_) (fun g1 => ?_)
  · simp only [Bool.and_eq_true, decide_eq_true_eq] at g1
    have i0 := hv.i64 (k := Int.toNat (3 * (p.1 : Int))) (by omega)
    have i1 := hv.i64 (k := Int.toNat (3 * (p.1 : Int) + 1)) (by omega)
    have i2 := hv.i64 (k := Int.toNat (3 * (p.1 : Int) + 2)) (by omega)
    have a0 := arnd_nn (zs.getD (Int.toNat (3 * (p.1 : Int))) 0) (vs.length : Int) (by omega)
    have b0 := arnd_lt (zs.getD (Int.toNat (3 * (p.1 : Int))) 0) (vs.length : Int) (by omega)
    have a1 := arnd_nn (zs.getD (Int.toNat (3 * (p.1 : Int) + 1)) 0) 3 (by omega)
    have b1 := arnd_lt (zs.getD (Int.toNat (3 * (p.1 : Int) + 1)) 0) 3 (by omega)
    have a2 := arnd_nn (zs.getD (Int.toNat (3 * (p.1 : Int) + 2)) 0) 16 (by omega)
    have b2 := arnd_lt (zs.getD (Int.toNat (3 * (p.1 : Int) + 2)) 0) 16 (by omega)
    obtain ⟨F, hF⟩ : ∃ F : Nat, arnd (zs.getD (Int.toNat (3 * (p.1 : Int))) 0) (vs.length : Int) = (F : Int) := ⟨(arnd (zs.getD (Int.toNat (3 * (p.1 : Int))) 0) (vs.length : Int)).toNat, by omega⟩
    rw [hF] at a0 b0
    obtain ⟨x1, hx1⟩ : ∃ x, arnd (zs.getD (Int.toNat (3 * (p.1 : Int) + 1)) 0) 3 = x := ⟨_, rfl⟩
    rw [hx1] at a1 b1
    obtain ⟨x2, hx2⟩ : ∃ x, arnd (zs.getD (Int.toNat (3 * (p.1 : Int) + 2)) 0) 16 = x := ⟨_, rfl⟩
    rw [hx2] at a2 b2
    obtain ⟨G, hG⟩ : ∃ G : Nat, min ((vs.length : Int) - 1) ((F : Int) + x1) = (G : Int) := ⟨(min ((vs.length : Int) - 1) ((F : Int) + x1)).toNat, by omega⟩
    have hFG : F ≤ G ∧ G < vs.length := by omega
    have t1 : x2.tdiv 4 = x2 / 4 := Int.tdiv_eq_ediv_of_nonneg a2
    have t2 : x2.tmod 4 = x2 % 4 := Int.tmod_eq_emod_of_nonneg a2
    ((conv => whnf); (repeat (refine And.intro ?_ ?_; (focus ((first | omega | (intro hg; simp only [Bool.or_eq_false_iff, Bool.or_eq_true, Bool.and_eq_true, Bool.and_eq_false_iff, Bool.not_eq_true, Bool.not_eq_false, Bool.not_eq_true', Bool.not_eq_false', decide_eq_false_iff_not, decide_eq_true_eq] at hg; first | omega | (refine And.intro ?_ ?_ <;> omega) | (refine And.intro ?_ (And.intro ?_ ?_) <;> first | omega | (show _ < _; omega) | exact Nat.le_of_ble_eq_true rfl)) | (refine And.intro ?_ ?_ <;> omega) | (refine And.intro ?_ (And.intro ?_ ?_) <;> first | omega | (show _ < _; omega) | exact Nat.le_of_ble_eq_true rfl)); done)); (conv => whnf))))
    refine EvCall.plain Try.call19 (.v (.int .i64 (F : Int))) rfl (fun ρ W hp => hF ▸ around_s _ _ _ i0 (by omega) (by omega)) ?_
    ((conv => whnf); (repeat (refine And.intro ?_ ?_; (focus ((first | omega | (intro hg; simp only [Bool.or_eq_false_iff, Bool.or_eq_true, Bool.and_eq_true, Bool.and_eq_false_iff, Bool.not_eq_true, Bool.not_eq_false, Bool.not_eq_true', Bool.not_eq_false', decide_eq_false_iff_not, decide_eq_true_eq] at hg; first | omega | (refine And.intro ?_ ?_ <;> omega) | (refine And.intro ?_ (And.intro ?_ ?_) <;> first | omega | (show _ < _; omega) | exact Nat.le_of_ble_eq_true rfl)) | (refine And.intro ?_ ?_ <;> omega) | (refine And.intro ?_ (And.intro ?_ ?_) <;> first | omega | (show _ < _; omega) | exact Nat.le_of_ble_eq_true rfl)); done)); (conv => whnf))))
    refine EvCall.plain Try.call19 (.v (.int .i64 x1)) rfl (fun ρ W hp => hx1 ▸ around_s _ _ _ i1 (by omega) (by omega)) ?_
    ((conv => whnf); (repeat (refine And.intro ?_ ?_; (focus ((first | omega | (intro hg; simp only [Bool.or_eq_false_iff, Bool.or_eq_true, Bool.and_eq_true, Bool.and_eq_false_iff, Bool.not_eq_true, Bool.not_eq_false, Bool.not_eq_true', Bool.not_eq_false', decide_eq_false_iff_not, decide_eq_true_eq] at hg; first | omega | (refine And.intro ?_ ?_ <;> omega) | (refine And.intro ?_ (And.intro ?_ ?_) <;> first | omega | (show _ < _; omega) | exact Nat.le_of_ble_eq_true rfl)) | (refine And.intro ?_ ?_ <;> omega) | (refine And.intro ?_ (And.intro ?_ ?_) <;> first | omega | (show _ < _; omega) | exact Nat.le_of_ble_eq_true rfl)); done)); (conv => whnf))))
    rw [hG]
    refine EvLoop.inv (α := Nat) (fun k => F + k ≤ G + 1) (fun k => G + 1 - k)
      (fun k => [(16, [], .v (.int .i64 ((F : Int) + (k : Int)))), (13, [], .v (.int .i64 ((G : Int)))), (14, [], .v (.int .i64 (lowW vs F k))), (15, [], .v (.int .i64 (highW vs F k))), (12, [], .v (.int .i64 ((F : Int)))), (11, [], .v (.int .i64 (3 * (p.1 : Int)))), (9, [], .s 3 4 p.1 p.2), (10, [], .v (.int .i64 ((vs.length : Int)))), (4, [], .p 2 0), (1, [], .s 1 1 vs.length c2), (2, [], .s 0 1 zs.length c1), (3, [], .v (.int .i64 ((m : Int))))])
      (fun k => [⟨3, true, 32, 4, p.2, .rows Cl rC (arL d vs zs p.1)⟩, ⟨2, true, 27, 12, 1, .cs (dcS nm (.v (.slice A ln c)) d)⟩, ⟨1, false, 3, 1, c2, .rows Int rI (vs)⟩, ⟨0, false, 3, 1, c1, .rows Int rI (zs)⟩]) 4 0 (by omega) (Sub.of [] [] rfl ?_) ?_
    · (repeat' (refine And.intro ?_ ?_)) <;> first | rfl | trivial | omega
    intro k hk
    ((conv => whnf); (repeat (refine And.intro ?_ ?_; (focus ((first | omega | (intro hg; simp only [Bool.or_eq_false_iff, Bool.or_eq_true, Bool.and_eq_true, Bool.and_eq_false_iff, Bool.not_eq_true, Bool.not_eq_false, Bool.not_eq_true', Bool.not_eq_false', decide_eq_false_iff_not, decide_eq_true_eq] at hg; first | omega | (refine And.intro ?_ ?_ <;> omega) | (refine And.intro ?_ (And.intro ?_ ?_) <;> first | omega | (show _ < _; omega) | exact Nat.le_of_ble_eq_true rfl)) | (refine And.intro ?_ ?_ <;> omega) | (refine And.intro ?_ (And.intro ?_ ?_) <;> first | omega | (show _ < _; omega) | exact Nat.le_of_ble_eq_true rfl)); done)); (conv => whnf))))
    refine EvIf.split (fun g2 => ?_) (fun g2 => ?_)
    · simp only [decide_eq_true_eq] at g2
      have s1 : lowW vs F (k + 1) = min (lowW vs F k) (vs.getD (Int.toNat ((F : Int) + k)) rI.d) := by rw [show Int.toNat ((F : Int) + k) = F + k by omega]; rfl
      have s2 : highW vs F (k + 1) = max (highW vs F k) (vs.getD (Int.toNat ((F : Int) + k)) rI.d) := by rw [show Int.toNat ((F : Int) + k) = F + k by omega]; rfl
      ((conv => whnf); (repeat (refine And.intro ?_ ?_; (focus ((first | omega | (intro hg; simp only [Bool.or_eq_false_iff, Bool.or_eq_true, Bool.and_eq_true, Bool.and_eq_false_iff, Bool.not_eq_true, Bool.not_eq_false, Bool.not_eq_true', Bool.not_eq_false', decide_eq_false_iff_not, decide_eq_true_eq] at hg; first | omega | (refine And.intro ?_ ?_ <;> omega) | (refine And.intro ?_ (And.intro ?_ ?_) <;> first | omega | (show _ < _; omega) | exact Nat.le_of_ble_eq_true rfl)) | (refine And.intro ?_ ?_ <;> omega) | (refine And.intro ?_ (And.intro ?_ ?_) <;> first | omega | (show _ < _; omega) | exact Nat.le_of_ble_eq_true rfl)); done)); (conv => whnf))))
      refine LoopI.back (k + 1) (by omega) (by omega) (Sub.of [] [] rfl ?_)
      (repeat' (refine And.intro ?_ ?_)) <;> first | rfl | trivial | exact s1.symm | exact s2.symm | omega
    · simp only [decide_eq_false_iff_not] at g2
      have hlw := lowW_bd hsm F k
      have hhw := highW_bd hsm F k
      have hkk : ((G : Int) - (F : Int) + 1).toNat = k := by omega
      have hc : arC d vs zs (3 * (p.1 : Int)) = ⟨d.first + F, d.first + G, lowW vs F k - x2.tdiv 4, highW vs F k + x2.tmod 4⟩ := by
        have f1 : arF vs zs (3 * (p.1 : Int)) = (F : Int) := hF
        have f2 : arG vs zs (3 * (p.1 : Int)) = (G : Int) := by unfold arG; rw [f1, hx1]; exact hG
        unfold arC
        rw [f1, f2, hx2, hkk, Int.toNat_natCast]
      ((conv => whnf); (repeat (refine And.intro ?_ ?_; (focus ((first | omega | (intro hg; simp only [Bool.or_eq_false_iff, Bool.or_eq_true, Bool.and_eq_true, Bool.and_eq_false_iff, Bool.not_eq_true, Bool.not_eq_false, Bool.not_eq_true', Bool.not_eq_false', decide_eq_false_iff_not, decide_eq_true_eq] at hg; first | omega | (refine And.intro ?_ ?_ <;> omega) | (refine And.intro ?_ (And.intro ?_ ?_) <;> first | omega | (show _ < _; omega) | exact Nat.le_of_ble_eq_true rfl)) | (refine And.intro ?_ ?_ <;> omega) | (refine And.intro ?_ (And.intro ?_ ?_) <;> first | omega | (show _ < _; omega) | exact Nat.le_of_ble_eq_true rfl)); done)); (conv => whnf))))
      refine EvCall.plain Try.call19 (.v (.int .i64 x2)) rfl (fun ρ W hp => hx2 ▸ around_s _ _ _ i2 (by omega) (by omega)) ?_
      ((conv => whnf); (repeat (refine And.intro ?_ ?_; (focus ((first | omega | (intro hg; simp only [Bool.or_eq_false_iff, Bool.or_eq_true, Bool.and_eq_true, Bool.and_eq_false_iff, Bool.not_eq_true, Bool.not_eq_false, Bool.not_eq_true', Bool.not_eq_false', decide_eq_false_iff_not, decide_eq_true_eq] at hg; first | omega | (refine And.intro ?_ ?_ <;> omega) | (refine And.intro ?_ (And.intro ?_ ?_) <;> first | omega | (show _ < _; omega) | exact Nat.le_of_ble_eq_true rfl)) | (refine And.intro ?_ ?_ <;> omega) | (refine And.intro ?_ (And.intro ?_ ?_) <;> first | omega | (show _ < _; omega) | exact Nat.le_of_ble_eq_true rfl)); done)); (conv => whnf))))
      refine EvBi.append (R := rC) tyok39 rfl tyok32 rfl (by decide) rfl rfl hll.symm (by rw [hll]; exact q2) [arC d vs zs (3 * (p.1 : Int))] (fun ρ W hp => hp.lit (R := rC) (ys := [arC d vs zs (3 * (p.1 : Int))]) rfl (by decide) (by simp) (by omega) (by rw [hc]; rfl)) (by rw [hll]; show (_ + 1) * 32 ≤ _; omega) (by rw [hll]; show _ + 1 ≤ _; omega) (fun cap' hq1 hq2 => ?_)
      rw [← arL_succ, hll] at *
      ((conv => whnf); (repeat (refine And.intro ?_ ?_; (focus ((first | omega | (intro hg; simp only [Bool.or_eq_false_iff, Bool.or_eq_true, Bool.and_eq_true, Bool.and_eq_false_iff, Bool.not_eq_true, Bool.not_eq_false, Bool.not_eq_true', Bool.not_eq_false', decide_eq_false_iff_not, decide_eq_true_eq] at hg; first | omega | (refine And.intro ?_ ?_ <;> omega) | (refine And.intro ?_ (And.intro ?_ ?_) <;> first | omega | (show _ < _; omega) | exact Nat.le_of_ble_eq_true rfl)) | (refine And.intro ?_ ?_ <;> omega) | (refine And.intro ?_ (And.intro ?_ ?_) <;> first | omega | (show _ < _; omega) | exact Nat.le_of_ble_eq_true rfl)); done)); (conv => whnf))))
      refine LoopI.back (p.1 + 1, cap') ⟨by show p.1 + 1 ≤ arN zs m; omega, hq1, hq2⟩ (by show arN zs m - (p.1 + 1) < arN zs m - p.1; omega) (Sub.of [(3, 5)] [] rfl ?_)
      (repeat' (refine And.intro ?_ ?_)) <;> first | rfl | trivial | omega
  · simp only [Bool.and_eq_false_iff, decide_eq_false_iff_not] at g1
    have hsp : arN zs m = p.1 := by omega
    rw [hsp]
    ((conv => whnf); (repeat (refine And.intro ?_ ?_; (focus ((first | omega | (intro hg; simp only [Bool.or_eq_false_iff, Bool.or_eq_true, Bool.and_eq_true, Bool.and_eq_false_iff, Bool.not_eq_true, Bool.not_eq_false, Bool.not_eq_true', Bool.not_eq_false', decide_eq_false_iff_not, decide_eq_true_eq] at hg; first | omega | (refine And.intro ?_ ?_ <;> omega) | (refine And.intro ?_ (And.intro ?_ ?_) <;> first | omega | (show _ < _; omega) | exact Nat.le_of_ble_eq_true rfl)) | (refine And.intro ?_ ?_ <;> omega) | (refine And.intro ?_ (And.intro ?_ ?_) <;> first | omega | (show _ < _; omega) | exact Nat.le_of_ble_eq_true rfl)); done)); (conv => whnf))))
    exact EvRet.rows (R := rC) hll.symm (by rw [hll]; exact q2) rfl rfl
end Go.Proofs.Ytofekfpbljihiaa
