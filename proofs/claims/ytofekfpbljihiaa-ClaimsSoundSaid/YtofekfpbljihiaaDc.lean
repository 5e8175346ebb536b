/- Bent, Valid, Low, High, Span. -/
import Derived.Test.YtofekfpbljihiaaDb
namespace Go.Proofs.Ytofekfpbljihiaa
open Go.RowKit
set_option linter.unusedVariables false

def bent (d : Dc) (k n : Int) : Dc :=
  if k = 0 then { d with u0 := n } else if k = 1 then { d with u1 := n } else if k = 2 then { d with u2 := n } else if k = 3 then { d with lo := n } else if k = 4 then { d with hi := n }
  else if k = 5 then { d with down := n } else if k = 6 then { d with up := n } else if k = 7 then { d with first := n } else if k = 8 then { d with last := n } else { d with budget := n }
/-- What Valid returns for a declaration whose name and labels are valid. -/
def badRange (d : Dc) : Prop := d.lo < -1073741824 ∨ d.hi < d.lo ∨ 1073741824 < d.hi ∨ d.down < -1048576 ∨ d.up < d.down ∨ 1048576 < d.up ∨ d.budget < 0 ∨ 1073741824 < d.budget
def badUnit (d : Dc) : Prop := d.u0 < -3 ∨ 3 < d.u0 ∨ d.u1 < -3 ∨ 3 < d.u1 ∨ d.u2 < -3 ∨ 3 < d.u2
def badLife (d : Dc) : Prop := d.first < 0 ∨ d.last < d.first ∨ 1048576 < d.last ∨ 4096 ≤ d.last - d.first
instance (d : Dc) : Decidable (badRange d) := by unfold badRange; infer_instance
instance (d : Dc) : Decidable (badUnit d) := by unfold badUnit; infer_instance
instance (d : Dc) : Decidable (badLife d) := by unfold badLife; infer_instance
def validCode (d : Dc) : Int := if badRange d then 5 else if badUnit d ∨ badLife d then 4 else 0
theorem vc0 {d : Dc} (h1 : ¬ badRange d) (h2 : ¬ badUnit d) (h3 : ¬ badLife d) : validCode d = 0 := by simp [validCode, h1, h2, h3]
theorem vc5 {d : Dc} (h1 : badRange d) : validCode d = 5 := by simp [validCode, h1]
theorem vc4 {d : Dc} (h1 : ¬ badRange d) (h2 : badUnit d ∨ badLife d) : validCode d = 4 := by
  unfold validCode
  rw [if_neg h1, if_pos h2]
theorem valid_bounds {d : Dc} (h : validCode d = 0) : (-1073741824 ≤ d.lo ∧ d.lo ≤ d.hi ∧ d.hi ≤ 1073741824 ∧ -1048576 ≤ d.down ∧ d.down ≤ d.up ∧ d.up ≤ 1048576) ∧ (0 ≤ d.first ∧ d.first ≤ d.last ∧ d.last ≤ 1048576 ∧ d.last - d.first < 4096) := by
  unfold validCode at h
  split at h
  · omega
  · split at h
    · omega
    · rename_i h1 h2
      simp only [badRange, badLife, badUnit] at h1 h2
      omega
/-- Each number is an int of Go's. -/
def DcI (d : Dc) : Prop := I64 d.u0 ∧ I64 d.u1 ∧ I64 d.u2 ∧ I64 d.lo ∧ I64 d.hi ∧ I64 d.down ∧ I64 d.up ∧ I64 d.first ∧ I64 d.last ∧ I64 d.budget
theorem ret_code {w : World} {L : List Ob} {nx : Nat} {a b : Int} (h : b = a) : EvRet w (Ret w (.int .i64 b)) (.v (.int .i64 a)) L nx := EvRet.ret (fun _ => by rw [h]; rfl)

set_option maxRecDepth 10000 in
theorem bent_s (nm : ByteArray) (A : Option Addr) (ln c : Nat) (d : Dc) (at_ n : Int) (w : World) (ha : I64 at_) : Con Try.prog 16 #[.agg (dcCells nm (.slice A ln c) d), .int .i64 at_, .int .i64 n] w (Ret w (.agg (dcCells nm (.slice A ln c) (bent d (arnd at_ 10) n)))) := by
  have a0 := arnd_nn at_ 10 (by omega)
  have a1 := arnd_lt at_ 10 (by omega)
  refine enter tabOk mixed Try.func16 rfl Try.ntmps16 Try.results16 [.a (dcS nm (.v (.slice A ln c)) d), .v (.int .i64 at_), .v (.int .i64 n)] (fun _ => none) [] 0 rfl rfl (hp0 _ _ _) ?_
  ((conv => whnf); (repeat (refine And.intro ?_ ?_; (focus ((first | omega | (intro hg; simp only [Bool.or_eq_false_iff, Bool.or_eq_true, Bool.and_eq_true, Bool.and_eq_false_iff, Bool.not_eq_true, Bool.not_eq_false, Bool.not_eq_true', Bool.not_eq_false', decide_eq_false_iff_not, decide_eq_true_eq] at hg; first | omega | (refine And.intro ?_ ?_ <;> omega) | (refine And.intro ?_ (And.intro ?_ ?_) <;> first | omega | (show _ < _; omega) | exact Nat.le_of_ble_eq_true rfl)) | (refine And.intro ?_ ?_ <;> omega) | (refine And.intro ?_ (And.intro ?_ ?_) <;> first | omega | (show _ < _; omega) | exact Nat.le_of_ble_eq_true rfl)); done)); (conv => whnf))))
  refine EvCall.plain Try.call19 (.v (.int .i64 (arnd at_ 10))) rfl (fun ρ W hp => around_s _ _ _ ha (by omega) (by omega)) ?_
  ((conv => whnf); (repeat (refine And.intro ?_ ?_; (focus ((first | omega | (intro hg; simp only [Bool.or_eq_false_iff, Bool.or_eq_true, Bool.and_eq_true, Bool.and_eq_false_iff, Bool.not_eq_true, Bool.not_eq_false, Bool.not_eq_true', Bool.not_eq_false', decide_eq_false_iff_not, decide_eq_true_eq] at hg; first | omega | (refine And.intro ?_ ?_ <;> omega) | (refine And.intro ?_ (And.intro ?_ ?_) <;> first | omega | (show _ < _; omega) | exact Nat.le_of_ble_eq_true rfl)) | (refine And.intro ?_ ?_ <;> omega) | (refine And.intro ?_ (And.intro ?_ ?_) <;> first | omega | (show _ < _; omega) | exact Nat.le_of_ble_eq_true rfl)); done)); (conv => whnf))))
  generalize arnd at_ 10 = k at *
  iterate 9
    refine EvIf.split (fun h1 => ?_) (fun h1 => ?_)
    · simp only [decide_eq_true_eq] at h1
      ((conv => whnf); (repeat (refine And.intro ?_ ?_; (focus ((first | omega | (intro hg; simp only [Bool.or_eq_false_iff, Bool.or_eq_true, Bool.and_eq_true, Bool.and_eq_false_iff, Bool.not_eq_true, Bool.not_eq_false, Bool.not_eq_true', Bool.not_eq_false', decide_eq_false_iff_not, decide_eq_true_eq] at hg; first | omega | (refine And.intro ?_ ?_ <;> omega) | (refine And.intro ?_ (And.intro ?_ ?_) <;> first | omega | (show _ < _; omega) | exact Nat.le_of_ble_eq_true rfl)) | (refine And.intro ?_ ?_ <;> omega) | (refine And.intro ?_ (And.intro ?_ ?_) <;> first | omega | (show _ < _; omega) | exact Nat.le_of_ble_eq_true rfl)); done)); (conv => whnf))))
      refine EvRet.ret (fun ρ => ?_)
      subst h1
      rfl
    simp only [decide_eq_false_iff_not] at h1
    ((conv => whnf); (repeat (refine And.intro ?_ ?_; (focus ((first | omega | (intro hg; simp only [Bool.or_eq_false_iff, Bool.or_eq_true, Bool.and_eq_true, Bool.and_eq_false_iff, Bool.not_eq_true, Bool.not_eq_false, Bool.not_eq_true', Bool.not_eq_false', decide_eq_false_iff_not, decide_eq_true_eq] at hg; first | omega | (refine And.intro ?_ ?_ <;> omega) | (refine And.intro ?_ (And.intro ?_ ?_) <;> first | omega | (show _ < _; omega) | exact Nat.le_of_ble_eq_true rfl)) | (refine And.intro ?_ ?_ <;> omega) | (refine And.intro ?_ (And.intro ?_ ?_) <;> first | omega | (show _ < _; omega) | exact Nat.le_of_ble_eq_true rfl)); done)); (conv => whnf))))
  refine EvRet.ret (fun ρ => ?_)
  obtain rfl : k = 9 := by omega
  rfl
theorem exponents_s (u0 u1 u2 : Int) (w : World) : Con Try.prog 84 #[.agg #[.int .i64 u0, .int .i64 u1, .int .i64 u2]] w (Ret w (.bool (decide (¬ (u0 < -3 ∨ 3 < u0 ∨ u1 < -3 ∨ 3 < u1 ∨ u2 < -3 ∨ 3 < u2))))) := by
  refine enter tabOk mixed Try.func84 rfl Try.ntmps84 Try.results84 [.a [.v (.int .i64 u0), .v (.int .i64 u1), .v (.int .i64 u2)]] (fun _ => none) [] 0 rfl rfl (hp0 _ _ _) ?_
  ((conv => whnf); (repeat (refine And.intro ?_ ?_; (focus ((first | omega | (intro hg; simp only [Bool.or_eq_false_iff, Bool.or_eq_true, Bool.and_eq_true, Bool.and_eq_false_iff, Bool.not_eq_true, Bool.not_eq_false, Bool.not_eq_true', Bool.not_eq_false', decide_eq_false_iff_not, decide_eq_true_eq] at hg; first | omega | (refine And.intro ?_ ?_ <;> omega) | (refine And.intro ?_ (And.intro ?_ ?_) <;> first | omega | (show _ < _; omega) | exact Nat.le_of_ble_eq_true rfl)) | (refine And.intro ?_ ?_ <;> omega) | (refine And.intro ?_ (And.intro ?_ ?_) <;> first | omega | (show _ < _; omega) | exact Nat.le_of_ble_eq_true rfl)); done)); (conv => whnf))))
  refine EvLoop.rounds 4 ?_
  ((conv => whnf); (repeat (refine And.intro ?_ ?_; (focus ((first | omega | (intro hg; simp only [Bool.or_eq_false_iff, Bool.or_eq_true, Bool.and_eq_true, Bool.and_eq_false_iff, Bool.not_eq_true, Bool.not_eq_false, Bool.not_eq_true', Bool.not_eq_false', decide_eq_false_iff_not, decide_eq_true_eq] at hg; first | omega | (refine And.intro ?_ ?_ <;> omega) | (refine And.intro ?_ (And.intro ?_ ?_) <;> first | omega | (show _ < _; omega) | exact Nat.le_of_ble_eq_true rfl)) | (refine And.intro ?_ ?_ <;> omega) | (refine And.intro ?_ (And.intro ?_ ?_) <;> first | omega | (show _ < _; omega) | exact Nat.le_of_ble_eq_true rfl)); done)); (conv => whnf))))
  iterate 3
    refine EvIf.pos rfl ?_
    ((conv => whnf); (repeat (refine And.intro ?_ ?_; (focus ((first | omega | (intro hg; simp only [Bool.or_eq_false_iff, Bool.or_eq_true, Bool.and_eq_true, Bool.and_eq_false_iff, Bool.not_eq_true, Bool.not_eq_false, Bool.not_eq_true', Bool.not_eq_false', decide_eq_false_iff_not, decide_eq_true_eq] at hg; first | omega | (refine And.intro ?_ ?_ <;> omega) | (refine And.intro ?_ (And.intro ?_ ?_) <;> first | omega | (show _ < _; omega) | exact Nat.le_of_ble_eq_true rfl)) | (refine And.intro ?_ ?_ <;> omega) | (refine And.intro ?_ (And.intro ?_ ?_) <;> first | omega | (show _ < _; omega) | exact Nat.le_of_ble_eq_true rfl)); done)); (conv => whnf))))
    refine EvIf.split (fun h1 => ?_) (fun h1 => ?_)
    · simp only [Bool.or_eq_true, decide_eq_true_eq] at h1
      ((conv => whnf); (repeat (refine And.intro ?_ ?_; (focus ((first | omega | (intro hg; simp only [Bool.or_eq_false_iff, Bool.or_eq_true, Bool.and_eq_true, Bool.and_eq_false_iff, Bool.not_eq_true, Bool.not_eq_false, Bool.not_eq_true', Bool.not_eq_false', decide_eq_false_iff_not, decide_eq_true_eq] at hg; first | omega | (refine And.intro ?_ ?_ <;> omega) | (refine And.intro ?_ (And.intro ?_ ?_) <;> first | omega | (show _ < _; omega) | exact Nat.le_of_ble_eq_true rfl)) | (refine And.intro ?_ ?_ <;> omega) | (refine And.intro ?_ (And.intro ?_ ?_) <;> first | omega | (show _ < _; omega) | exact Nat.le_of_ble_eq_true rfl)); done)); (conv => whnf))))
      refine EvRet.ret (fun ρ => ?_)
      simp [den]
      omega
    simp only [Bool.or_eq_false_iff, decide_eq_false_iff_not] at h1
    ((conv => whnf); (repeat (refine And.intro ?_ ?_; (focus ((first | omega | (intro hg; simp only [Bool.or_eq_false_iff, Bool.or_eq_true, Bool.and_eq_true, Bool.and_eq_false_iff, Bool.not_eq_true, Bool.not_eq_false, Bool.not_eq_true', Bool.not_eq_false', decide_eq_false_iff_not, decide_eq_true_eq] at hg; first | omega | (refine And.intro ?_ ?_ <;> omega) | (refine And.intro ?_ (And.intro ?_ ?_) <;> first | omega | (show _ < _; omega) | exact Nat.le_of_ble_eq_true rfl)) | (refine And.intro ?_ ?_ <;> omega) | (refine And.intro ?_ (And.intro ?_ ?_) <;> first | omega | (show _ < _; omega) | exact Nat.le_of_ble_eq_true rfl)); done)); (conv => whnf))))
  refine EvIf.neg rfl ?_
  ((conv => whnf); (repeat (refine And.intro ?_ ?_; (focus ((first | omega | (intro hg; simp only [Bool.or_eq_false_iff, Bool.or_eq_true, Bool.and_eq_true, Bool.and_eq_false_iff, Bool.not_eq_true, Bool.not_eq_false, Bool.not_eq_true', Bool.not_eq_false', decide_eq_false_iff_not, decide_eq_true_eq] at hg; first | omega | (refine And.intro ?_ ?_ <;> omega) | (refine And.intro ?_ (And.intro ?_ ?_) <;> first | omega | (show _ < _; omega) | exact Nat.le_of_ble_eq_true rfl)) | (refine And.intro ?_ ?_ <;> omega) | (refine And.intro ?_ (And.intro ?_ ?_) <;> first | omega | (show _ < _; omega) | exact Nat.le_of_ble_eq_true rfl)); done)); (conv => whnf))))
  refine EvRet.ret (fun ρ => ?_)
  simp [den]
  omega
set_option maxRecDepth 10000 in
theorem decl_valid_s (V : Value) (d : Dc) (w : World) (h : DeclIs w V d) (hI : DcI d) : Con Try.prog 53 #[V] w (Ret w (.int .i64 (validCode d))) := by
  obtain ⟨nm, A, c, l, rfl, hnm, hl, hS⟩ := h
  obtain ⟨⟨a0, b0⟩, ⟨a1, b1⟩, ⟨a2, b2⟩, ⟨a3, b3⟩, ⟨a4, b4⟩, ⟨a5, b5⟩, ⟨a6, b6⟩, ⟨a7, b7⟩, ⟨a8, b8⟩, ⟨a9, b9⟩⟩ := hI
  have hns := nameB_size hnm
  refine enter tabOk mixed Try.func53 rfl Try.ntmps53 Try.results53 [.a (dcS nm (.v (.slice A l.length c)) d)] (fun _ => none) [] 0 rfl rfl (hp0 _ _ _) ?_
  ((conv => whnf); (repeat (refine And.intro ?_ ?_; (focus ((first | omega | (intro hg; simp only [Bool.or_eq_false_iff, Bool.or_eq_true, Bool.and_eq_true, Bool.and_eq_false_iff, Bool.not_eq_true, Bool.not_eq_false, Bool.not_eq_true', Bool.not_eq_false', decide_eq_false_iff_not, decide_eq_true_eq] at hg; first | omega | (refine And.intro ?_ ?_ <;> omega) | (refine And.intro ?_ (And.intro ?_ ?_) <;> first | omega | (show _ < _; omega) | exact Nat.le_of_ble_eq_true rfl)) | (refine And.intro ?_ ?_ <;> omega) | (refine And.intro ?_ (And.intro ?_ ?_) <;> first | omega | (show _ < _; omega) | exact Nat.le_of_ble_eq_true rfl)); done)); (conv => whnf))))
  refine EvCall.plain Try.call80 (.v (.bool true)) rfl (fun ρ W hp => ⟨by have := name_any nm W (by omega); rw [hnm] at this; exact this⟩) ?_
  ((conv => whnf); (repeat (refine And.intro ?_ ?_; (focus ((first | omega | (intro hg; simp only [Bool.or_eq_false_iff, Bool.or_eq_true, Bool.and_eq_true, Bool.and_eq_false_iff, Bool.not_eq_true, Bool.not_eq_false, Bool.not_eq_true', Bool.not_eq_false', decide_eq_false_iff_not, decide_eq_true_eq] at hg; first | omega | (refine And.intro ?_ ?_ <;> omega) | (refine And.intro ?_ (And.intro ?_ ?_) <;> first | omega | (show _ < _; omega) | exact Nat.le_of_ble_eq_true rfl)) | (refine And.intro ?_ ?_ <;> omega) | (refine And.intro ?_ (And.intro ?_ ?_) <;> first | omega | (show _ < _; omega) | exact Nat.le_of_ble_eq_true rfl)); done)); (conv => whnf))))
  refine EvCallC.plain Try.call81 (.v (.bool true)) rfl (fun _ ρ W hp => ⟨labels_valid _ l W (hS.below hp.bel) hl⟩) ?_
  ((conv => whnf); (repeat (refine And.intro ?_ ?_; (focus ((first | omega | (intro hg; simp only [Bool.or_eq_false_iff, Bool.or_eq_true, Bool.and_eq_true, Bool.and_eq_false_iff, Bool.not_eq_true, Bool.not_eq_false, Bool.not_eq_true', Bool.not_eq_false', decide_eq_false_iff_not, decide_eq_true_eq] at hg; first | omega | (refine And.intro ?_ ?_ <;> omega) | (refine And.intro ?_ (And.intro ?_ ?_) <;> first | omega | (show _ < _; omega) | exact Nat.le_of_ble_eq_true rfl)) | (refine And.intro ?_ ?_ <;> omega) | (refine And.intro ?_ (And.intro ?_ ?_) <;> first | omega | (show _ < _; omega) | exact Nat.le_of_ble_eq_true rfl)); done)); (conv => whnf))))
  refine EvIf.neg rfl ?_
  ((conv => whnf); (repeat (refine And.intro ?_ ?_; (focus ((first | omega | (intro hg; simp only [Bool.or_eq_false_iff, Bool.or_eq_true, Bool.and_eq_true, Bool.and_eq_false_iff, Bool.not_eq_true, Bool.not_eq_false, Bool.not_eq_true', Bool.not_eq_false', decide_eq_false_iff_not, decide_eq_true_eq] at hg; first | omega | (refine And.intro ?_ ?_ <;> omega) | (refine And.intro ?_ (And.intro ?_ ?_) <;> first | omega | (show _ < _; omega) | exact Nat.le_of_ble_eq_true rfl)) | (refine And.intro ?_ ?_ <;> omega) | (refine And.intro ?_ (And.intro ?_ ?_) <;> first | omega | (show _ < _; omega) | exact Nat.le_of_ble_eq_true rfl)); done)); (conv => whnf))))
  refine EvIf.split (fun h1 => ?_) (fun h1 => ?_)
  · simp only [Bool.or_eq_true, decide_eq_true_eq] at h1
    ((conv => whnf); (repeat (refine And.intro ?_ ?_; (focus ((first | omega | (intro hg; simp only [Bool.or_eq_false_iff, Bool.or_eq_true, Bool.and_eq_true, Bool.and_eq_false_iff, Bool.not_eq_true, Bool.not_eq_false, Bool.not_eq_true', Bool.not_eq_false', decide_eq_false_iff_not, decide_eq_true_eq] at hg; first | omega | (refine And.intro ?_ ?_ <;> omega) | (refine And.intro ?_ (And.intro ?_ ?_) <;> first | omega | (show _ < _; omega) | exact Nat.le_of_ble_eq_true rfl)) | (refine And.intro ?_ ?_ <;> omega) | (refine And.intro ?_ (And.intro ?_ ?_) <;> first | omega | (show _ < _; omega) | exact Nat.le_of_ble_eq_true rfl)); done)); (conv => whnf))))
    exact ret_code (vc5 (by unfold badRange; omega))
  simp only [Bool.or_eq_false_iff, decide_eq_false_iff_not] at h1
  ((conv => whnf); (repeat (refine And.intro ?_ ?_; (focus ((first | omega | (intro hg; simp only [Bool.or_eq_false_iff, Bool.or_eq_true, Bool.and_eq_true, Bool.and_eq_false_iff, Bool.not_eq_true, Bool.not_eq_false, Bool.not_eq_true', Bool.not_eq_false', decide_eq_false_iff_not, decide_eq_true_eq] at hg; first | omega | (refine And.intro ?_ ?_ <;> omega) | (refine And.intro ?_ (And.intro ?_ ?_) <;> first | omega | (show _ < _; omega) | exact Nat.le_of_ble_eq_true rfl)) | (refine And.intro ?_ ?_ <;> omega) | (refine And.intro ?_ (And.intro ?_ ?_) <;> first | omega | (show _ < _; omega) | exact Nat.le_of_ble_eq_true rfl)); done)); (conv => whnf))))
  refine EvIf.split (fun h2 => ?_) (fun h2 => ?_)
  · simp only [Bool.or_eq_true, decide_eq_true_eq] at h2
    ((conv => whnf); (repeat (refine And.intro ?_ ?_; (focus ((first | omega | (intro hg; simp only [Bool.or_eq_false_iff, Bool.or_eq_true, Bool.and_eq_true, Bool.and_eq_false_iff, Bool.not_eq_true, Bool.not_eq_false, Bool.not_eq_true', Bool.not_eq_false', decide_eq_false_iff_not, decide_eq_true_eq] at hg; first | omega | (refine And.intro ?_ ?_ <;> omega) | (refine And.intro ?_ (And.intro ?_ ?_) <;> first | omega | (show _ < _; omega) | exact Nat.le_of_ble_eq_true rfl)) | (refine And.intro ?_ ?_ <;> omega) | (refine And.intro ?_ (And.intro ?_ ?_) <;> first | omega | (show _ < _; omega) | exact Nat.le_of_ble_eq_true rfl)); done)); (conv => whnf))))
    exact ret_code (vc5 (by unfold badRange; omega))
  simp only [Bool.or_eq_false_iff, decide_eq_false_iff_not] at h2
  ((conv => whnf); (repeat (refine And.intro ?_ ?_; (focus ((first | omega | (intro hg; simp only [Bool.or_eq_false_iff, Bool.or_eq_true, Bool.and_eq_true, Bool.and_eq_false_iff, Bool.not_eq_true, Bool.not_eq_false, Bool.not_eq_true', Bool.not_eq_false', decide_eq_false_iff_not, decide_eq_true_eq] at hg; first | omega | (refine And.intro ?_ ?_ <;> omega) | (refine And.intro ?_ (And.intro ?_ ?_) <;> first | omega | (show _ < _; omega) | exact Nat.le_of_ble_eq_true rfl)) | (refine And.intro ?_ ?_ <;> omega) | (refine And.intro ?_ (And.intro ?_ ?_) <;> first | omega | (show _ < _; omega) | exact Nat.le_of_ble_eq_true rfl)); done)); (conv => whnf))))
  refine EvIf.split (fun h3 => ?_) (fun h3 => ?_)
  · simp only [Bool.or_eq_true, decide_eq_true_eq] at h3
    ((conv => whnf); (repeat (refine And.intro ?_ ?_; (focus ((first | omega | (intro hg; simp only [Bool.or_eq_false_iff, Bool.or_eq_true, Bool.and_eq_true, Bool.and_eq_false_iff, Bool.not_eq_true, Bool.not_eq_false, Bool.not_eq_true', Bool.not_eq_false', decide_eq_false_iff_not, decide_eq_true_eq] at hg; first | omega | (refine And.intro ?_ ?_ <;> omega) | (refine And.intro ?_ (And.intro ?_ ?_) <;> first | omega | (show _ < _; omega) | exact Nat.le_of_ble_eq_true rfl)) | (refine And.intro ?_ ?_ <;> omega) | (refine And.intro ?_ (And.intro ?_ ?_) <;> first | omega | (show _ < _; omega) | exact Nat.le_of_ble_eq_true rfl)); done)); (conv => whnf))))
    exact ret_code (vc5 (by unfold badRange; omega))
  simp only [Bool.or_eq_false_iff, decide_eq_false_iff_not] at h3
  have hR : ¬ badRange d := by unfold badRange; omega
  ((conv => whnf); (repeat (refine And.intro ?_ ?_; (focus ((first | omega | (intro hg; simp only [Bool.or_eq_false_iff, Bool.or_eq_true, Bool.and_eq_true, Bool.and_eq_false_iff, Bool.not_eq_true, Bool.not_eq_false, Bool.not_eq_true', Bool.not_eq_false', decide_eq_false_iff_not, decide_eq_true_eq] at hg; first | omega | (refine And.intro ?_ ?_ <;> omega) | (refine And.intro ?_ (And.intro ?_ ?_) <;> first | omega | (show _ < _; omega) | exact Nat.le_of_ble_eq_true rfl)) | (refine And.intro ?_ ?_ <;> omega) | (refine And.intro ?_ (And.intro ?_ ?_) <;> first | omega | (show _ < _; omega) | exact Nat.le_of_ble_eq_true rfl)); done)); (conv => whnf))))
  refine EvLoop.rounds 4 ?_
  ((conv => whnf); (repeat (refine And.intro ?_ ?_; (focus ((first | omega | (intro hg; simp only [Bool.or_eq_false_iff, Bool.or_eq_true, Bool.and_eq_true, Bool.and_eq_false_iff, Bool.not_eq_true, Bool.not_eq_false, Bool.not_eq_true', Bool.not_eq_false', decide_eq_false_iff_not, decide_eq_true_eq] at hg; first | omega | (refine And.intro ?_ ?_ <;> omega) | (refine And.intro ?_ (And.intro ?_ ?_) <;> first | omega | (show _ < _; omega) | exact Nat.le_of_ble_eq_true rfl)) | (refine And.intro ?_ ?_ <;> omega) | (refine And.intro ?_ (And.intro ?_ ?_) <;> first | omega | (show _ < _; omega) | exact Nat.le_of_ble_eq_true rfl)); done)); (conv => whnf))))
  iterate 3
    refine EvIf.pos rfl ?_
    ((conv => whnf); (repeat (refine And.intro ?_ ?_; (focus ((first | omega | (intro hg; simp only [Bool.or_eq_false_iff, Bool.or_eq_true, Bool.and_eq_true, Bool.and_eq_false_iff, Bool.not_eq_true, Bool.not_eq_false, Bool.not_eq_true', Bool.not_eq_false', decide_eq_false_iff_not, decide_eq_true_eq] at hg; first | omega | (refine And.intro ?_ ?_ <;> omega) | (refine And.intro ?_ (And.intro ?_ ?_) <;> first | omega | (show _ < _; omega) | exact Nat.le_of_ble_eq_true rfl)) | (refine And.intro ?_ ?_ <;> omega) | (refine And.intro ?_ (And.intro ?_ ?_) <;> first | omega | (show _ < _; omega) | exact Nat.le_of_ble_eq_true rfl)); done)); (conv => whnf))))
    refine EvIf.split (fun h4 => ?_) (fun h4 => ?_)
    · simp only [Bool.or_eq_true, decide_eq_true_eq] at h4
      ((conv => whnf); (repeat (refine And.intro ?_ ?_; (focus ((first | omega | (intro hg; simp only [Bool.or_eq_false_iff, Bool.or_eq_true, Bool.and_eq_true, Bool.and_eq_false_iff, Bool.not_eq_true, Bool.not_eq_false, Bool.not_eq_true', Bool.not_eq_false', decide_eq_false_iff_not, decide_eq_true_eq] at hg; first | omega | (refine And.intro ?_ ?_ <;> omega) | (refine And.intro ?_ (And.intro ?_ ?_) <;> first | omega | (show _ < _; omega) | exact Nat.le_of_ble_eq_true rfl)) | (refine And.intro ?_ ?_ <;> omega) | (refine And.intro ?_ (And.intro ?_ ?_) <;> first | omega | (show _ < _; omega) | exact Nat.le_of_ble_eq_true rfl)); done)); (conv => whnf))))
      exact ret_code (vc4 hR (.inl (by unfold badUnit; omega)))
    simp only [Bool.or_eq_false_iff, decide_eq_false_iff_not] at h4
    ((conv => whnf); (repeat (refine And.intro ?_ ?_; (focus ((first | omega | (intro hg; simp only [Bool.or_eq_false_iff, Bool.or_eq_true, Bool.and_eq_true, Bool.and_eq_false_iff, Bool.not_eq_true, Bool.not_eq_false, Bool.not_eq_true', Bool.not_eq_false', decide_eq_false_iff_not, decide_eq_true_eq] at hg; first | omega | (refine And.intro ?_ ?_ <;> omega) | (refine And.intro ?_ (And.intro ?_ ?_) <;> first | omega | (show _ < _; omega) | exact Nat.le_of_ble_eq_true rfl)) | (refine And.intro ?_ ?_ <;> omega) | (refine And.intro ?_ (And.intro ?_ ?_) <;> first | omega | (show _ < _; omega) | exact Nat.le_of_ble_eq_true rfl)); done)); (conv => whnf))))
  refine EvIf.neg rfl ?_
  ((conv => whnf); (repeat (refine And.intro ?_ ?_; (focus ((first | omega | (intro hg; simp only [Bool.or_eq_false_iff, Bool.or_eq_true, Bool.and_eq_true, Bool.and_eq_false_iff, Bool.not_eq_true, Bool.not_eq_false, Bool.not_eq_true', Bool.not_eq_false', decide_eq_false_iff_not, decide_eq_true_eq] at hg; first | omega | (refine And.intro ?_ ?_ <;> omega) | (refine And.intro ?_ (And.intro ?_ ?_) <;> first | omega | (show _ < _; omega) | exact Nat.le_of_ble_eq_true rfl)) | (refine And.intro ?_ ?_ <;> omega) | (refine And.intro ?_ (And.intro ?_ ?_) <;> first | omega | (show _ < _; omega) | exact Nat.le_of_ble_eq_true rfl)); done)); (conv => whnf))))
  have hU : ¬ badUnit d := by unfold badUnit; omega
  refine EvIf.split (fun h5 => ?_) (fun h5 => ?_)
  · simp only [Bool.or_eq_true, decide_eq_true_eq] at h5
    ((conv => whnf); (repeat (refine And.intro ?_ ?_; (focus ((first | omega | (intro hg; simp only [Bool.or_eq_false_iff, Bool.or_eq_true, Bool.and_eq_true, Bool.and_eq_false_iff, Bool.not_eq_true, Bool.not_eq_false, Bool.not_eq_true', Bool.not_eq_false', decide_eq_false_iff_not, decide_eq_true_eq] at hg; first | omega | (refine And.intro ?_ ?_ <;> omega) | (refine And.intro ?_ (And.intro ?_ ?_) <;> first | omega | (show _ < _; omega) | exact Nat.le_of_ble_eq_true rfl)) | (refine And.intro ?_ ?_ <;> omega) | (refine And.intro ?_ (And.intro ?_ ?_) <;> first | omega | (show _ < _; omega) | exact Nat.le_of_ble_eq_true rfl)); done)); (conv => whnf))))
    exact ret_code (vc4 hR (.inr (by unfold badLife; omega)))
  simp only [Bool.or_eq_false_iff, decide_eq_false_iff_not] at h5
  ((conv => whnf); (repeat (refine And.intro ?_ ?_; (focus ((first | omega | (intro hg; simp only [Bool.or_eq_false_iff, Bool.or_eq_true, Bool.and_eq_true, Bool.and_eq_false_iff, Bool.not_eq_true, Bool.not_eq_false, Bool.not_eq_true', Bool.not_eq_false', decide_eq_false_iff_not, decide_eq_true_eq] at hg; first | omega | (refine And.intro ?_ ?_ <;> omega) | (refine And.intro ?_ (And.intro ?_ ?_) <;> first | omega | (show _ < _; omega) | exact Nat.le_of_ble_eq_true rfl)) | (refine And.intro ?_ ?_ <;> omega) | (refine And.intro ?_ (And.intro ?_ ?_) <;> first | omega | (show _ < _; omega) | exact Nat.le_of_ble_eq_true rfl)); done)); (conv => whnf))))
  exact ret_code (vc0 hR hU (by unfold badLife; omega))
set_option maxRecDepth 10000 in
theorem ref_decl_valid_s (V : Value) (d : Dc) (w : World) (h : DeclIs w V d) (hI : DcI d) : Con Try.prog 54 #[V] w (Ret w (.int .i64 (validCode d))) := by
  obtain ⟨nm, A, c, l, rfl, hnm, hl, hS⟩ := h
  obtain ⟨⟨a0, b0⟩, ⟨a1, b1⟩, ⟨a2, b2⟩, ⟨a3, b3⟩, ⟨a4, b4⟩, ⟨a5, b5⟩, ⟨a6, b6⟩, ⟨a7, b7⟩, ⟨a8, b8⟩, ⟨a9, b9⟩⟩ := hI
  have hns := nameB_size hnm
  refine enter tabOk mixed Try.func54 rfl Try.ntmps54 Try.results54 [.a (dcS nm (.v (.slice A l.length c)) d)] (fun _ => none) [] 0 rfl rfl (hp0 _ _ _) ?_
  ((conv => whnf); (repeat (refine And.intro ?_ ?_; (focus ((first | omega | (intro hg; simp only [Bool.or_eq_false_iff, Bool.or_eq_true, Bool.and_eq_true, Bool.and_eq_false_iff, Bool.not_eq_true, Bool.not_eq_false, Bool.not_eq_true', Bool.not_eq_false', decide_eq_false_iff_not, decide_eq_true_eq] at hg; first | omega | (refine And.intro ?_ ?_ <;> omega) | (refine And.intro ?_ (And.intro ?_ ?_) <;> first | omega | (show _ < _; omega) | exact Nat.le_of_ble_eq_true rfl)) | (refine And.intro ?_ ?_ <;> omega) | (refine And.intro ?_ (And.intro ?_ ?_) <;> first | omega | (show _ < _; omega) | exact Nat.le_of_ble_eq_true rfl)); done)); (conv => whnf))))
  refine EvCall.plain Try.call82 (.v (.bool true)) rfl (fun ρ W hp => ⟨by have := ref_name_any nm W (by omega); rw [hnm] at this; exact this.mono fun _ _ h => ⟨h.1, by rw [h.2]; exact Below.refl _ _⟩⟩) ?_
  ((conv => whnf); (repeat (refine And.intro ?_ ?_; (focus ((first | omega | (intro hg; simp only [Bool.or_eq_false_iff, Bool.or_eq_true, Bool.and_eq_true, Bool.and_eq_false_iff, Bool.not_eq_true, Bool.not_eq_false, Bool.not_eq_true', Bool.not_eq_false', decide_eq_false_iff_not, decide_eq_true_eq] at hg; first | omega | (refine And.intro ?_ ?_ <;> omega) | (refine And.intro ?_ (And.intro ?_ ?_) <;> first | omega | (show _ < _; omega) | exact Nat.le_of_ble_eq_true rfl)) | (refine And.intro ?_ ?_ <;> omega) | (refine And.intro ?_ (And.intro ?_ ?_) <;> first | omega | (show _ < _; omega) | exact Nat.le_of_ble_eq_true rfl)); done)); (conv => whnf))))
  refine EvCall.plain Try.call83 (.v (.bool true)) rfl (fun ρ W hp => ⟨ref_labels_valid _ l W (hS.below hp.bel) hl⟩) ?_
  ((conv => whnf); (repeat (refine And.intro ?_ ?_; (focus ((first | omega | (intro hg; simp only [Bool.or_eq_false_iff, Bool.or_eq_true, Bool.and_eq_true, Bool.and_eq_false_iff, Bool.not_eq_true, Bool.not_eq_false, Bool.not_eq_true', Bool.not_eq_false', decide_eq_false_iff_not, decide_eq_true_eq] at hg; first | omega | (refine And.intro ?_ ?_ <;> omega) | (refine And.intro ?_ (And.intro ?_ ?_) <;> first | omega | (show _ < _; omega) | exact Nat.le_of_ble_eq_true rfl)) | (refine And.intro ?_ ?_ <;> omega) | (refine And.intro ?_ (And.intro ?_ ?_) <;> first | omega | (show _ < _; omega) | exact Nat.le_of_ble_eq_true rfl)); done)); (conv => whnf))))
  refine EvIf.neg rfl ?_
  ((conv => whnf); (repeat (refine And.intro ?_ ?_; (focus ((first | omega | (intro hg; simp only [Bool.or_eq_false_iff, Bool.or_eq_true, Bool.and_eq_true, Bool.and_eq_false_iff, Bool.not_eq_true, Bool.not_eq_false, Bool.not_eq_true', Bool.not_eq_false', decide_eq_false_iff_not, decide_eq_true_eq] at hg; first | omega | (refine And.intro ?_ ?_ <;> omega) | (refine And.intro ?_ (And.intro ?_ ?_) <;> first | omega | (show _ < _; omega) | exact Nat.le_of_ble_eq_true rfl)) | (refine And.intro ?_ ?_ <;> omega) | (refine And.intro ?_ (And.intro ?_ ?_) <;> first | omega | (show _ < _; omega) | exact Nat.le_of_ble_eq_true rfl)); done)); (conv => whnf))))
  refine EvIf.split (fun h1 => ?_) (fun h1 => ?_)
  · simp only [Bool.or_eq_true, decide_eq_true_eq] at h1
    ((conv => whnf); (repeat (refine And.intro ?_ ?_; (focus ((first | omega | (intro hg; simp only [Bool.or_eq_false_iff, Bool.or_eq_true, Bool.and_eq_true, Bool.and_eq_false_iff, Bool.not_eq_true, Bool.not_eq_false, Bool.not_eq_true', Bool.not_eq_false', decide_eq_false_iff_not, decide_eq_true_eq] at hg; first | omega | (refine And.intro ?_ ?_ <;> omega) | (refine And.intro ?_ (And.intro ?_ ?_) <;> first | omega | (show _ < _; omega) | exact Nat.le_of_ble_eq_true rfl)) | (refine And.intro ?_ ?_ <;> omega) | (refine And.intro ?_ (And.intro ?_ ?_) <;> first | omega | (show _ < _; omega) | exact Nat.le_of_ble_eq_true rfl)); done)); (conv => whnf))))
    exact ret_code (vc5 (by unfold badRange; omega))
  simp only [Bool.or_eq_false_iff, decide_eq_false_iff_not] at h1
  have hR : ¬ badRange d := by unfold badRange; omega
  ((conv => whnf); (repeat (refine And.intro ?_ ?_; (focus ((first | omega | (intro hg; simp only [Bool.or_eq_false_iff, Bool.or_eq_true, Bool.and_eq_true, Bool.and_eq_false_iff, Bool.not_eq_true, Bool.not_eq_false, Bool.not_eq_true', Bool.not_eq_false', decide_eq_false_iff_not, decide_eq_true_eq] at hg; first | omega | (refine And.intro ?_ ?_ <;> omega) | (refine And.intro ?_ (And.intro ?_ ?_) <;> first | omega | (show _ < _; omega) | exact Nat.le_of_ble_eq_true rfl)) | (refine And.intro ?_ ?_ <;> omega) | (refine And.intro ?_ (And.intro ?_ ?_) <;> first | omega | (show _ < _; omega) | exact Nat.le_of_ble_eq_true rfl)); done)); (conv => whnf))))
  refine EvCall.plain Try.call84 (.v (.bool (decide (¬ (d.u0 < -3 ∨ 3 < d.u0 ∨ d.u1 < -3 ∨ 3 < d.u1 ∨ d.u2 < -3 ∨ 3 < d.u2))))) rfl (fun ρ W hp => exponents_s _ _ _ _) ?_
  ((conv => whnf); (repeat (refine And.intro ?_ ?_; (focus ((first | omega | (intro hg; simp only [Bool.or_eq_false_iff, Bool.or_eq_true, Bool.and_eq_true, Bool.and_eq_false_iff, Bool.not_eq_true, Bool.not_eq_false, Bool.not_eq_true', Bool.not_eq_false', decide_eq_false_iff_not, decide_eq_true_eq] at hg; first | omega | (refine And.intro ?_ ?_ <;> omega) | (refine And.intro ?_ (And.intro ?_ ?_) <;> first | omega | (show _ < _; omega) | exact Nat.le_of_ble_eq_true rfl)) | (refine And.intro ?_ ?_ <;> omega) | (refine And.intro ?_ (And.intro ?_ ?_) <;> first | omega | (show _ < _; omega) | exact Nat.le_of_ble_eq_true rfl)); done)); (conv => whnf))))
  refine EvIf.split (fun h5 => ?_) (fun h5 => ?_)
  · simp only [Bool.or_eq_true, Bool.not_eq_true', decide_eq_true_eq, decide_eq_false_iff_not] at h5
    ((conv => whnf); (repeat (refine And.intro ?_ ?_; (focus ((first | omega | (intro hg; simp only [Bool.or_eq_false_iff, Bool.or_eq_true, Bool.and_eq_true, Bool.and_eq_false_iff, Bool.not_eq_true, Bool.not_eq_false, Bool.not_eq_true', Bool.not_eq_false', decide_eq_false_iff_not, decide_eq_true_eq] at hg; first | omega | (refine And.intro ?_ ?_ <;> omega) | (refine And.intro ?_ (And.intro ?_ ?_) <;> first | omega | (show _ < _; omega) | exact Nat.le_of_ble_eq_true rfl)) | (refine And.intro ?_ ?_ <;> omega) | (refine And.intro ?_ (And.intro ?_ ?_) <;> first | omega | (show _ < _; omega) | exact Nat.le_of_ble_eq_true rfl)); done)); (conv => whnf))))
    refine ret_code (vc4 hR ?_)
    unfold badLife badUnit
    omega
  simp only [Bool.or_eq_false_iff, Bool.not_eq_false', decide_eq_true_eq, decide_eq_false_iff_not] at h5
  ((conv => whnf); (repeat (refine And.intro ?_ ?_; (focus ((first | omega | (intro hg; simp only [Bool.or_eq_false_iff, Bool.or_eq_true, Bool.and_eq_true, Bool.and_eq_false_iff, Bool.not_eq_true, Bool.not_eq_false, Bool.not_eq_true', Bool.not_eq_false', decide_eq_false_iff_not, decide_eq_true_eq] at hg; first | omega | (refine And.intro ?_ ?_ <;> omega) | (refine And.intro ?_ (And.intro ?_ ?_) <;> first | omega | (show _ < _; omega) | exact Nat.le_of_ble_eq_true rfl)) | (refine And.intro ?_ ?_ <;> omega) | (refine And.intro ?_ (And.intro ?_ ?_) <;> first | omega | (show _ < _; omega) | exact Nat.le_of_ble_eq_true rfl)); done)); (conv => whnf))))
  exact ret_code (vc0 hR (by unfold badUnit; omega) (by unfold badLife; omega))
def lowV (d : Dc) (s t x : Int) : Int := if s ≤ t then x + d.down * (t - s) else x - d.up * (s - t)
def highV (d : Dc) (s t x : Int) : Int := if s ≤ t then x + d.up * (t - s) else x - d.down * (s - t)
/-- Small enough that no sum leaves 64 bits. -/
def DcS (d : Dc) : Prop := -1048576 ≤ d.down ∧ d.down ≤ 1048576 ∧ -1048576 ≤ d.up ∧ d.up ≤ 1048576
theorem mul_bd {a n A N : Int} (h1 : -A ≤ a) (h2 : a ≤ A) (h3 : 0 ≤ n) (h4 : n ≤ N) (hA : 0 ≤ A) : -(A * N) ≤ a * n ∧ a * n ≤ A * N := by
  have h5 : A * n ≤ A * N := Int.mul_le_mul_of_nonneg_left h4 hA
  have h6 : a * n ≤ A * n := Int.mul_le_mul_of_nonneg_right h2 h3
  have h7 : -A * n ≤ a * n := Int.mul_le_mul_of_nonneg_right h1 h3
  have h8 : -A * n = -(A * n) := Int.neg_mul A n
  omega
theorem low_s (nm : ByteArray) (A : Option Addr) (ln c : Nat) (d : Dc) (s t x : Int) (w : World) (hd : DcS d) (hs : 0 ≤ s ∧ s ≤ 1048576) (ht : 0 ≤ t ∧ t ≤ 1048576) (hx : -4611686018427387904 ≤ x ∧ x ≤ 4611686018427387904) :
    Con Try.prog 55 #[.agg (dcCells nm (.slice A ln c) d), .int .i64 s, .int .i64 t, .int .i64 x] w (Ret w (.int .i64 (lowV d s t x))) := by
  obtain ⟨q1, q2, q3, q4⟩ := hd
  refine enter tabOk mixed Try.func55 rfl Try.ntmps55 Try.results55 [.a (dcS nm (.v (.slice A ln c)) d), .v (.int .i64 s), .v (.int .i64 t), .v (.int .i64 x)] (fun _ => none) [] 0 rfl rfl (hp0 _ _ _) ?_
  ((conv => whnf); (repeat (refine And.intro ?_ ?_; (focus ((first | omega | (intro hg; simp only [Bool.or_eq_false_iff, Bool.or_eq_true, Bool.and_eq_true, Bool.and_eq_false_iff, Bool.not_eq_true, Bool.not_eq_false, Bool.not_eq_true', Bool.not_eq_false', decide_eq_false_iff_not, decide_eq_true_eq] at hg; first | omega | (refine And.intro ?_ ?_ <;> omega) | (refine And.intro ?_ (And.intro ?_ ?_) <;> first | omega | (show _ < _; omega) | exact Nat.le_of_ble_eq_true rfl)) | (refine And.intro ?_ ?_ <;> omega) | (refine And.intro ?_ (And.intro ?_ ?_) <;> first | omega | (show _ < _; omega) | exact Nat.le_of_ble_eq_true rfl)); done)); (conv => whnf))))
  refine EvIf.split (fun h1 => ?_) (fun h1 => ?_)
  · simp only [decide_eq_true_eq] at h1
    have m1 := mul_bd (a := d.down) (n := t - s) (A := 1048576) (N := 1048576) (by omega) (by omega) (by omega) (by omega) (by omega)
    ((conv => whnf); (repeat (refine And.intro ?_ ?_; (focus ((first | omega | (intro hg; simp only [Bool.or_eq_false_iff, Bool.or_eq_true, Bool.and_eq_true, Bool.and_eq_false_iff, Bool.not_eq_true, Bool.not_eq_false, Bool.not_eq_true', Bool.not_eq_false', decide_eq_false_iff_not, decide_eq_true_eq] at hg; first | omega | (refine And.intro ?_ ?_ <;> omega) | (refine And.intro ?_ (And.intro ?_ ?_) <;> first | omega | (show _ < _; omega) | exact Nat.le_of_ble_eq_true rfl)) | (refine And.intro ?_ ?_ <;> omega) | (refine And.intro ?_ (And.intro ?_ ?_) <;> first | omega | (show _ < _; omega) | exact Nat.le_of_ble_eq_true rfl)); done)); (conv => whnf))))
    exact ret_code (if_pos h1)
  · simp only [decide_eq_false_iff_not] at h1
    have m1 := mul_bd (a := d.up) (n := s - t) (A := 1048576) (N := 1048576) (by omega) (by omega) (by omega) (by omega) (by omega)
    ((conv => whnf); (repeat (refine And.intro ?_ ?_; (focus ((first | omega | (intro hg; simp only [Bool.or_eq_false_iff, Bool.or_eq_true, Bool.and_eq_true, Bool.and_eq_false_iff, Bool.not_eq_true, Bool.not_eq_false, Bool.not_eq_true', Bool.not_eq_false', decide_eq_false_iff_not, decide_eq_true_eq] at hg; first | omega | (refine And.intro ?_ ?_ <;> omega) | (refine And.intro ?_ (And.intro ?_ ?_) <;> first | omega | (show _ < _; omega) | exact Nat.le_of_ble_eq_true rfl)) | (refine And.intro ?_ ?_ <;> omega) | (refine And.intro ?_ (And.intro ?_ ?_) <;> first | omega | (show _ < _; omega) | exact Nat.le_of_ble_eq_true rfl)); done)); (conv => whnf))))
    exact ret_code (if_neg h1)
theorem high_s (nm : ByteArray) (A : Option Addr) (ln c : Nat) (d : Dc) (s t x : Int) (w : World) (hd : DcS d) (hs : 0 ≤ s ∧ s ≤ 1048576) (ht : 0 ≤ t ∧ t ≤ 1048576) (hx : -4611686018427387904 ≤ x ∧ x ≤ 4611686018427387904) :
    Con Try.prog 56 #[.agg (dcCells nm (.slice A ln c) d), .int .i64 s, .int .i64 t, .int .i64 x] w (Ret w (.int .i64 (highV d s t x))) := by
  obtain ⟨q1, q2, q3, q4⟩ := hd
  refine enter tabOk mixed Try.func56 rfl Try.ntmps56 Try.results56 [.a (dcS nm (.v (.slice A ln c)) d), .v (.int .i64 s), .v (.int .i64 t), .v (.int .i64 x)] (fun _ => none) [] 0 rfl rfl (hp0 _ _ _) ?_
  ((conv => whnf); (repeat (refine And.intro ?_ ?_; (focus ((first | omega | (intro hg; simp only [Bool.or_eq_false_iff, Bool.or_eq_true, Bool.and_eq_true, Bool.and_eq_false_iff, Bool.not_eq_true, Bool.not_eq_false, Bool.not_eq_true', Bool.not_eq_false', decide_eq_false_iff_not, decide_eq_true_eq] at hg; first | omega | (refine And.intro ?_ ?_ <;> omega) | (refine And.intro ?_ (And.intro ?_ ?_) <;> first | omega | (show _ < _; omega) | exact Nat.le_of_ble_eq_true rfl)) | (refine And.intro ?_ ?_ <;> omega) | (refine And.intro ?_ (And.intro ?_ ?_) <;> first | omega | (show _ < _; omega) | exact Nat.le_of_ble_eq_true rfl)); done)); (conv => whnf))))
  refine EvIf.split (fun h1 => ?_) (fun h1 => ?_)
  · simp only [decide_eq_true_eq] at h1
    have m1 := mul_bd (a := d.up) (n := t - s) (A := 1048576) (N := 1048576) (by omega) (by omega) (by omega) (by omega) (by omega)
    ((conv => whnf); (repeat (refine And.intro ?_ ?_; (focus ((first | omega | (intro hg; simp only [Bool.or_eq_false_iff, Bool.or_eq_true, Bool.and_eq_true, Bool.and_eq_false_iff, Bool.not_eq_true, Bool.not_eq_false, Bool.not_eq_true', Bool.not_eq_false', decide_eq_false_iff_not, decide_eq_true_eq] at hg; first | omega | (refine And.intro ?_ ?_ <;> omega) | (refine And.intro ?_ (And.intro ?_ ?_) <;> first | omega | (show _ < _; omega) | exact Nat.le_of_ble_eq_true rfl)) | (refine And.intro ?_ ?_ <;> omega) | (refine And.intro ?_ (And.intro ?_ ?_) <;> first | omega | (show _ < _; omega) | exact Nat.le_of_ble_eq_true rfl)); done)); (conv => whnf))))
    exact ret_code (if_pos h1)
  · simp only [decide_eq_false_iff_not] at h1
    have m1 := mul_bd (a := d.down) (n := s - t) (A := 1048576) (N := 1048576) (by omega) (by omega) (by omega) (by omega) (by omega)
    ((conv => whnf); (repeat (refine And.intro ?_ ?_; (focus ((first | omega | (intro hg; simp only [Bool.or_eq_false_iff, Bool.or_eq_true, Bool.and_eq_true, Bool.and_eq_false_iff, Bool.not_eq_true, Bool.not_eq_false, Bool.not_eq_true', Bool.not_eq_false', decide_eq_false_iff_not, decide_eq_true_eq] at hg; first | omega | (refine And.intro ?_ ?_ <;> omega) | (refine And.intro ?_ (And.intro ?_ ?_) <;> first | omega | (show _ < _; omega) | exact Nat.le_of_ble_eq_true rfl)) | (refine And.intro ?_ ?_ <;> omega) | (refine And.intro ?_ (And.intro ?_ ?_) <;> first | omega | (show _ < _; omega) | exact Nat.le_of_ble_eq_true rfl)); done)); (conv => whnf))))
    exact ret_code (if_neg h1)
theorem span_s (nm : ByteArray) (A : Option Addr) (ln c : Nat) (d : Dc) (w : World) (h1 : 0 ≤ d.first ∧ d.first ≤ 4611686018427387904) (h2 : 0 ≤ d.last ∧ d.last ≤ 4611686018427387904) : Con Try.prog 34 #[.agg (dcCells nm (.slice A ln c) d)] w (Ret w (.int .i64 (d.last - d.first + 1))) := by
  refine enter tabOk mixed Try.func34 rfl Try.ntmps34 Try.results34 [.a (dcS nm (.v (.slice A ln c)) d)] (fun _ => none) [] 0 rfl rfl (hp0 _ _ _) ?_
  ((conv => whnf); (repeat (refine And.intro ?_ ?_; (focus ((first | omega | (intro hg; simp only [Bool.or_eq_false_iff, Bool.or_eq_true, Bool.and_eq_true, Bool.and_eq_false_iff, Bool.not_eq_true, Bool.not_eq_false, Bool.not_eq_true', Bool.not_eq_false', decide_eq_false_iff_not, decide_eq_true_eq] at hg; first | omega | (refine And.intro ?_ ?_ <;> omega) | (refine And.intro ?_ (And.intro ?_ ?_) <;> first | omega | (show _ < _; omega) | exact Nat.le_of_ble_eq_true rfl)) | (refine And.intro ?_ ?_ <;> omega) | (refine And.intro ?_ (And.intro ?_ ?_) <;> first | omega | (show _ < _; omega) | exact Nat.le_of_ble_eq_true rfl)); done)); (conv => whnf))))
  exact ret_code rfl
end Go.Proofs.Ytofekfpbljihiaa
