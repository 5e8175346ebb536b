/- Claims: Of, Valid, Implies, Meet, Same. -/
import Derived.Test.YtofekfpbljihiaaDc
namespace Go.Proofs.Ytofekfpbljihiaa
open Go.RowKit
set_option linter.unusedVariables false

/-- A claim. -/
structure Cl where
  f : Int
  t : Int
  lo : Int
  hi : Int
  deriving DecidableEq
def cl0 : Cl := ⟨0, 0, 0, 0⟩
def clA (c : Cl) : Array Value := #[.int .i64 c.f, .int .i64 c.t, .int .i64 c.lo, .int .i64 c.hi]
def clS (c : Cl) : List SV := [.v (.int .i64 c.f), .v (.int .i64 c.t), .v (.int .i64 c.lo), .v (.int .i64 c.hi)]
def ClI (c : Cl) : Prop := I64 c.f ∧ I64 c.t ∧ I64 c.lo ∧ I64 c.hi
def ofC (cs : List Value) : Option Cl :=
  match cs with
  | [.int .i64 a, .int .i64 b, .int .i64 c, .int .i64 d] => some ⟨a, b, c, d⟩
  | _ => none
theorem ofC_law (cs : List Value) (x : Cl) (h : ofC cs = some x) : [Value.int .i64 x.f, Value.int .i64 x.t, Value.int .i64 x.lo, Value.int .i64 x.hi] = cs := by
  unfold ofC at h
  split at h
  · simp at h
    subst h
    rfl
  · cases h
def rC : RowS Cl := { cols := [fun c => .int .i64 c.f, fun c => .int .i64 c.t, fun c => .int .i64 c.lo, fun c => .int .i64 c.hi], d := cl0, of := ofC, law := fun cs x h => ofC_law cs x h, one := fun x f hf => by simp at hf; rcases hf with rfl | rfl | rfl | rfl <;> rfl }

/-- What Of returns. -/
def ofR (d : Dc) (a b x : Int) : Cl × Int :=
  if validCode d ≠ 0 then (cl0, validCode d)
  else if x < -1073741824 ∨ 1073741824 < x ∨ a < 0 ∨ b < a ∨ 1048576 < b then (cl0, 1)
  else if min b d.last < max a d.first then (cl0, 9)
  else (⟨max a d.first, min b d.last, x + min (min 0 (d.down * (min b d.last - max a d.first))) (-d.up * (min b d.last - max a d.first)),
    x + max (max 0 (d.up * (min b d.last - max a d.first))) (-d.down * (min b d.last - max a d.first))⟩, 0)
theorem ret_of {w : World} {L : List Ob} {nx : Nat} {r : Cl × Int} {c : Cl} {e : Int} (h : r = (c, e)) : EvRet w (Ret w (.tuple #[.agg (clA r.1), .int .i64 r.2])) (.t [.a (clS c), .v (.int .i64 e)]) L nx := EvRet.ret (fun _ => by rw [h]; rfl)
set_option maxRecDepth 10000 in
theorem of_s (V : Value) (d : Dc) (a b x : Int) (w : World) (h : DeclIs w V d) (hI : DcI d) (ha : I64 a) (hb : I64 b) (hx : I64 x) :
    Con Try.prog 17 #[V, .int .i64 a, .int .i64 b, .int .i64 x] w (Ret w (.tuple #[.agg (clA (ofR d a b x).1), .int .i64 (ofR d a b x).2])) := by
  have hD := h
  obtain ⟨nm, A, c, l, rfl, hnm, hl, hS⟩ := h
  refine enter tabOk mixed Try.func17 rfl Try.ntmps17 Try.results17 [.a (dcS nm (.v (.slice A l.length c)) d), .v (.int .i64 a), .v (.int .i64 b), .v (.int .i64 x)] (fun _ => none) [] 0 rfl rfl (hp0 _ _ _) ?_
  ((conv => whnf); (repeat (refine And.intro ?_ ?_; (focus ((first | omega | (intro hg; simp only [Bool.or_eq_false_iff, Bool.or_eq_true, Bool.and_eq_true, Bool.and_eq_false_iff, Bool.not_eq_true, Bool.not_eq_false, Bool.not_eq_true', Bool.not_eq_false', decide_eq_false_iff_not, decide_eq_true_eq] at hg; first | omega | (refine And.intro ?_ ?_ <;> omega) | (refine And.intro ?_ (And.intro ?_ ?_) <;> first | omega | (show _ < _; omega) | exact Nat.le_of_ble_eq_true rfl)) | (refine And.intro ?_ ?_ <;> omega) | (refine And.intro ?_ (And.intro ?_ ?_) <;> first | omega | (show _ < _; omega) | exact Nat.le_of_ble_eq_true rfl)); done)); (conv => whnf))))
  refine EvCall.plain Try.call53 (.v (.int .i64 (validCode d))) rfl (fun ρ W hp => decl_valid_s _ d W (hD.below hp.bel) hI) ?_
  ((conv => whnf); (repeat (refine And.intro ?_ ?_; (focus ((first | omega | (intro hg; simp only [Bool.or_eq_false_iff, Bool.or_eq_true, Bool.and_eq_true, Bool.and_eq_false_iff, Bool.not_eq_true, Bool.not_eq_false, Bool.not_eq_true', Bool.not_eq_false', decide_eq_false_iff_not, decide_eq_true_eq] at hg; first | omega | (refine And.intro ?_ ?_ <;> omega) | (refine And.intro ?_ (And.intro ?_ ?_) <;> first | omega | (show _ < _; omega) | exact Nat.le_of_ble_eq_true rfl)) | (refine And.intro ?_ ?_ <;> omega) | (refine And.intro ?_ (And.intro ?_ ?_) <;> first | omega | (show _ < _; omega) | exact Nat.le_of_ble_eq_true rfl)); done)); (conv => whnf))))
  refine EvIf.split (fun h1 => ?_) (fun h1 => ?_)
  · simp only [Bool.not_eq_true', decide_eq_false_iff_not] at h1
    ((conv => whnf); (repeat (refine And.intro ?_ ?_; (focus ((first | omega | (intro hg; simp only [Bool.or_eq_false_iff, Bool.or_eq_true, Bool.and_eq_true, Bool.and_eq_false_iff, Bool.not_eq_true, Bool.not_eq_false, Bool.not_eq_true', Bool.not_eq_false', decide_eq_false_iff_not, decide_eq_true_eq] at hg; first | omega | (refine And.intro ?_ ?_ <;> omega) | (refine And.intro ?_ (And.intro ?_ ?_) <;> first | omega | (show _ < _; omega) | exact Nat.le_of_ble_eq_true rfl)) | (refine And.intro ?_ ?_ <;> omega) | (refine And.intro ?_ (And.intro ?_ ?_) <;> first | omega | (show _ < _; omega) | exact Nat.le_of_ble_eq_true rfl)); done)); (conv => whnf))))
    exact ret_of (c := cl0) (by simp [ofR, h1])
  simp only [Bool.not_eq_false', decide_eq_true_eq] at h1
  have hbd := valid_bounds h1
  ((conv => whnf); (repeat (refine And.intro ?_ ?_; (focus ((first | omega | (intro hg; simp only [Bool.or_eq_false_iff, Bool.or_eq_true, Bool.and_eq_true, Bool.and_eq_false_iff, Bool.not_eq_true, Bool.not_eq_false, Bool.not_eq_true', Bool.not_eq_false', decide_eq_false_iff_not, decide_eq_true_eq] at hg; first | omega | (refine And.intro ?_ ?_ <;> omega) | (refine And.intro ?_ (And.intro ?_ ?_) <;> first | omega | (show _ < _; omega) | exact Nat.le_of_ble_eq_true rfl)) | (refine And.intro ?_ ?_ <;> omega) | (refine And.intro ?_ (And.intro ?_ ?_) <;> first | omega | (show _ < _; omega) | exact Nat.le_of_ble_eq_true rfl)); done)); (conv => whnf))))
  refine EvIf.split (fun h2 => ?_) (fun h2 => ?_)
  · simp only [Bool.or_eq_true, decide_eq_true_eq] at h2
    ((conv => whnf); (repeat (refine And.intro ?_ ?_; (focus ((first | omega | (intro hg; simp only [Bool.or_eq_false_iff, Bool.or_eq_true, Bool.and_eq_true, Bool.and_eq_false_iff, Bool.not_eq_true, Bool.not_eq_false, Bool.not_eq_true', Bool.not_eq_false', decide_eq_false_iff_not, decide_eq_true_eq] at hg; first | omega | (refine And.intro ?_ ?_ <;> omega) | (refine And.intro ?_ (And.intro ?_ ?_) <;> first | omega | (show _ < _; omega) | exact Nat.le_of_ble_eq_true rfl)) | (refine And.intro ?_ ?_ <;> omega) | (refine And.intro ?_ (And.intro ?_ ?_) <;> first | omega | (show _ < _; omega) | exact Nat.le_of_ble_eq_true rfl)); done)); (conv => whnf))))
    exact ret_of (c := cl0) (by unfold ofR; rw [if_neg (by simpa using h1), if_pos (by omega)])
  simp only [Bool.or_eq_false_iff, decide_eq_false_iff_not] at h2
  ((conv => whnf); (repeat (refine And.intro ?_ ?_; (focus ((first | omega | (intro hg; simp only [Bool.or_eq_false_iff, Bool.or_eq_true, Bool.and_eq_true, Bool.and_eq_false_iff, Bool.not_eq_true, Bool.not_eq_false, Bool.not_eq_true', Bool.not_eq_false', decide_eq_false_iff_not, decide_eq_true_eq] at hg; first | omega | (refine And.intro ?_ ?_ <;> omega) | (refine And.intro ?_ (And.intro ?_ ?_) <;> first | omega | (show _ < _; omega) | exact Nat.le_of_ble_eq_true rfl)) | (refine And.intro ?_ ?_ <;> omega) | (refine And.intro ?_ (And.intro ?_ ?_) <;> first | omega | (show _ < _; omega) | exact Nat.le_of_ble_eq_true rfl)); done)); (conv => whnf))))
  (refine EvDraw.one (.q 0 (.q 1 (.q 2 (.q 3 (.q 4 (.q 5 (.q 6 (.q 7 (.q 8 (.q 9 (.z))))))))))) (by kernel_rfl) ?_)
  ((conv => whnf); (repeat (refine And.intro ?_ ?_; (focus ((first | omega | (intro hg; simp only [Bool.or_eq_false_iff, Bool.or_eq_true, Bool.and_eq_true, Bool.and_eq_false_iff, Bool.not_eq_true, Bool.not_eq_false, Bool.not_eq_true', Bool.not_eq_false', decide_eq_false_iff_not, decide_eq_true_eq] at hg; first | omega | (refine And.intro ?_ ?_ <;> omega) | (refine And.intro ?_ (And.intro ?_ ?_) <;> first | omega | (show _ < _; omega) | exact Nat.le_of_ble_eq_true rfl)) | (refine And.intro ?_ ?_ <;> omega) | (refine And.intro ?_ (And.intro ?_ ?_) <;> first | omega | (show _ < _; omega) | exact Nat.le_of_ble_eq_true rfl)); done)); (conv => whnf))))
  refine EvIf.split (fun h3 => ?_) (fun h3 => ?_)
  · simp only [decide_eq_true_eq] at h3
    ((conv => whnf); (repeat (refine And.intro ?_ ?_; (focus ((first | omega | (intro hg; simp only [Bool.or_eq_false_iff, Bool.or_eq_true, Bool.and_eq_true, Bool.and_eq_false_iff, Bool.not_eq_true, Bool.not_eq_false, Bool.not_eq_true', Bool.not_eq_false', decide_eq_false_iff_not, decide_eq_true_eq] at hg; first | omega | (refine And.intro ?_ ?_ <;> omega) | (refine And.intro ?_ (And.intro ?_ ?_) <;> first | omega | (show _ < _; omega) | exact Nat.le_of_ble_eq_true rfl)) | (refine And.intro ?_ ?_ <;> omega) | (refine And.intro ?_ (And.intro ?_ ?_) <;> first | omega | (show _ < _; omega) | exact Nat.le_of_ble_eq_true rfl)); done)); (conv => whnf))))
    exact ret_of (c := cl0) (by unfold ofR; rw [if_neg (by simpa using h1), if_neg (by omega), if_pos h3])
  simp only [decide_eq_false_iff_not] at h3
  have hn : 0 ≤ min b d.last - max a d.first ∧ min b d.last - max a d.first ≤ 4096 := by omega
  have m1 := mul_bd (a := d.down) (n := min b d.last - max a d.first) (A := 1048576) (N := 4096) (by omega) (by omega) hn.1 hn.2 (by omega)
  have m2 := mul_bd (a := d.up) (n := min b d.last - max a d.first) (A := 1048576) (N := 4096) (by omega) (by omega) hn.1 hn.2 (by omega)
  have m3 := mul_bd (a := -d.down) (n := min b d.last - max a d.first) (A := 1048576) (N := 4096) (by omega) (by omega) hn.1 hn.2 (by omega)
  have m4 := mul_bd (a := -d.up) (n := min b d.last - max a d.first) (A := 1048576) (N := 4096) (by omega) (by omega) hn.1 hn.2 (by omega)
  ((conv => whnf); (repeat (refine And.intro ?_ ?_; (focus ((first | omega | (intro hg; simp only [Bool.or_eq_false_iff, Bool.or_eq_true, Bool.and_eq_true, Bool.and_eq_false_iff, Bool.not_eq_true, Bool.not_eq_false, Bool.not_eq_true', Bool.not_eq_false', decide_eq_false_iff_not, decide_eq_true_eq] at hg; first | omega | (refine And.intro ?_ ?_ <;> omega) | (refine And.intro ?_ (And.intro ?_ ?_) <;> first | omega | (show _ < _; omega) | exact Nat.le_of_ble_eq_true rfl)) | (refine And.intro ?_ ?_ <;> omega) | (refine And.intro ?_ (And.intro ?_ ?_) <;> first | omega | (show _ < _; omega) | exact Nat.le_of_ble_eq_true rfl)); done)); (conv => whnf))))
  exact ret_of (c := ⟨_, _, _, _⟩) (by unfold ofR; rw [if_neg (by simpa using h1), if_neg (by omega), if_neg h3])
theorem of_low (d : Dc) (n x : Int) (hn : 0 ≤ n) : min (min x (lowV d 0 n x)) (lowV d n 0 x) = x + min (min 0 (d.down * n)) (-d.up * n) := by
  have h1 : lowV d 0 n x = x + d.down * n := by simp [lowV, hn]
  have h2 : lowV d n 0 x = x + -d.up * n := by
    by_cases h : n ≤ 0
    · obtain rfl : n = 0 := by omega
      simp [lowV]
    · have := Int.neg_mul d.up n; simp [lowV, h]; omega
  rw [h1, h2]
  omega
theorem of_high (d : Dc) (n x : Int) (hn : 0 ≤ n) : max (max x (highV d 0 n x)) (highV d n 0 x) = x + max (max 0 (d.up * n)) (-d.down * n) := by
  have h1 : highV d 0 n x = x + d.up * n := by simp [highV, hn]
  have h2 : highV d n 0 x = x + -d.down * n := by
    by_cases h : n ≤ 0
    · obtain rfl : n = 0 := by omega
      simp [highV]
    · have := Int.neg_mul d.down n; simp [highV, h]; omega
  rw [h1, h2]
  omega
set_option maxRecDepth 10000 in
theorem ref_of_s (V : Value) (d : Dc) (a b x : Int) (w : World) (h : DeclIs w V d) (hI : DcI d) (ha : I64 a) (hb : I64 b) (hx : I64 x) :
    Con Try.prog 18 #[V, .int .i64 a, .int .i64 b, .int .i64 x] w (Ret w (.tuple #[.agg (clA (ofR d a b x).1), .int .i64 (ofR d a b x).2])) := by
  have hD := h
  obtain ⟨nm, A, c, l, rfl, hnm, hl, hS⟩ := h
  refine enter tabOk mixed Try.func18 rfl Try.ntmps18 Try.results18 [.a (dcS nm (.v (.slice A l.length c)) d), .v (.int .i64 a), .v (.int .i64 b), .v (.int .i64 x)] (fun _ => none) [] 0 rfl rfl (hp0 _ _ _) ?_
  ((conv => whnf); (repeat (refine And.intro ?_ ?_; (focus ((first | omega | (intro hg; simp only [Bool.or_eq_false_iff, Bool.or_eq_true, Bool.and_eq_true, Bool.and_eq_false_iff, Bool.not_eq_true, Bool.not_eq_false, Bool.not_eq_true', Bool.not_eq_false', decide_eq_false_iff_not, decide_eq_true_eq] at hg; first | omega | (refine And.intro ?_ ?_ <;> omega) | (refine And.intro ?_ (And.intro ?_ ?_) <;> first | omega | (show _ < _; omega) | exact Nat.le_of_ble_eq_true rfl)) | (refine And.intro ?_ ?_ <;> omega) | (refine And.intro ?_ (And.intro ?_ ?_) <;> first | omega | (show _ < _; omega) | exact Nat.le_of_ble_eq_true rfl)); done)); (conv => whnf))))
  refine EvCall.plain Try.call54 (.v (.int .i64 (validCode d))) rfl (fun ρ W hp => ref_decl_valid_s _ d W (hD.below hp.bel) hI) ?_
  ((conv => whnf); (repeat (refine And.intro ?_ ?_; (focus ((first | omega | (intro hg; simp only [Bool.or_eq_false_iff, Bool.or_eq_true, Bool.and_eq_true, Bool.and_eq_false_iff, Bool.not_eq_true, Bool.not_eq_false, Bool.not_eq_true', Bool.not_eq_false', decide_eq_false_iff_not, decide_eq_true_eq] at hg; first | omega | (refine And.intro ?_ ?_ <;> omega) | (refine And.intro ?_ (And.intro ?_ ?_) <;> first | omega | (show _ < _; omega) | exact Nat.le_of_ble_eq_true rfl)) | (refine And.intro ?_ ?_ <;> omega) | (refine And.intro ?_ (And.intro ?_ ?_) <;> first | omega | (show _ < _; omega) | exact Nat.le_of_ble_eq_true rfl)); done)); (conv => whnf))))
  refine EvIf.split (fun h1 => ?_) (fun h1 => ?_)
  · simp only [Bool.not_eq_true', decide_eq_false_iff_not] at h1
    ((conv => whnf); (repeat (refine And.intro ?_ ?_; (focus ((first | omega | (intro hg; simp only [Bool.or_eq_false_iff, Bool.or_eq_true, Bool.and_eq_true, Bool.and_eq_false_iff, Bool.not_eq_true, Bool.not_eq_false, Bool.not_eq_true', Bool.not_eq_false', decide_eq_false_iff_not, decide_eq_true_eq] at hg; first | omega | (refine And.intro ?_ ?_ <;> omega) | (refine And.intro ?_ (And.intro ?_ ?_) <;> first | omega | (show _ < _; omega) | exact Nat.le_of_ble_eq_true rfl)) | (refine And.intro ?_ ?_ <;> omega) | (refine And.intro ?_ (And.intro ?_ ?_) <;> first | omega | (show _ < _; omega) | exact Nat.le_of_ble_eq_true rfl)); done)); (conv => whnf))))
    exact ret_of (c := cl0) (by simp [ofR, h1])
  simp only [Bool.not_eq_false', decide_eq_true_eq] at h1
  have hbd := valid_bounds h1
  ((conv => whnf); (repeat (refine And.intro ?_ ?_; (focus ((first | omega | (intro hg; simp only [Bool.or_eq_false_iff, Bool.or_eq_true, Bool.and_eq_true, Bool.and_eq_false_iff, Bool.not_eq_true, Bool.not_eq_false, Bool.not_eq_true', Bool.not_eq_false', decide_eq_false_iff_not, decide_eq_true_eq] at hg; first | omega | (refine And.intro ?_ ?_ <;> omega) | (refine And.intro ?_ (And.intro ?_ ?_) <;> first | omega | (show _ < _; omega) | exact Nat.le_of_ble_eq_true rfl)) | (refine And.intro ?_ ?_ <;> omega) | (refine And.intro ?_ (And.intro ?_ ?_) <;> first | omega | (show _ < _; omega) | exact Nat.le_of_ble_eq_true rfl)); done)); (conv => whnf))))
  refine EvIf.split (fun h2 => ?_) (fun h2 => ?_)
  · simp only [Bool.or_eq_true, decide_eq_true_eq] at h2
    ((conv => whnf); (repeat (refine And.intro ?_ ?_; (focus ((first | omega | (intro hg; simp only [Bool.or_eq_false_iff, Bool.or_eq_true, Bool.and_eq_true, Bool.and_eq_false_iff, Bool.not_eq_true, Bool.not_eq_false, Bool.not_eq_true', Bool.not_eq_false', decide_eq_false_iff_not, decide_eq_true_eq] at hg; first | omega | (refine And.intro ?_ ?_ <;> omega) | (refine And.intro ?_ (And.intro ?_ ?_) <;> first | omega | (show _ < _; omega) | exact Nat.le_of_ble_eq_true rfl)) | (refine And.intro ?_ ?_ <;> omega) | (refine And.intro ?_ (And.intro ?_ ?_) <;> first | omega | (show _ < _; omega) | exact Nat.le_of_ble_eq_true rfl)); done)); (conv => whnf))))
    exact ret_of (c := cl0) (by unfold ofR; rw [if_neg (by simpa using h1), if_pos (by omega)])
  simp only [Bool.or_eq_false_iff, decide_eq_false_iff_not] at h2
  ((conv => whnf); (repeat (refine And.intro ?_ ?_; (focus ((first | omega | (intro hg; simp only [Bool.or_eq_false_iff, Bool.or_eq_true, Bool.and_eq_true, Bool.and_eq_false_iff, Bool.not_eq_true, Bool.not_eq_false, Bool.not_eq_true', Bool.not_eq_false', decide_eq_false_iff_not, decide_eq_true_eq] at hg; first | omega | (refine And.intro ?_ ?_ <;> omega) | (refine And.intro ?_ (And.intro ?_ ?_) <;> first | omega | (show _ < _; omega) | exact Nat.le_of_ble_eq_true rfl)) | (refine And.intro ?_ ?_ <;> omega) | (refine And.intro ?_ (And.intro ?_ ?_) <;> first | omega | (show _ < _; omega) | exact Nat.le_of_ble_eq_true rfl)); done)); (conv => whnf))))
  refine EvIf.split (fun h3 => ?_) (fun h3 => ?_)
  · simp only [decide_eq_true_eq] at h3
    ((conv => whnf); (repeat (refine And.intro ?_ ?_; (focus ((first | omega | (intro hg; simp only [Bool.or_eq_false_iff, Bool.or_eq_true, Bool.and_eq_true, Bool.and_eq_false_iff, Bool.not_eq_true, Bool.not_eq_false, Bool.not_eq_true', Bool.not_eq_false', decide_eq_false_iff_not, decide_eq_true_eq] at hg; first | omega | (refine And.intro ?_ ?_ <;> omega) | (refine And.intro ?_ (And.intro ?_ ?_) <;> first | omega | (show _ < _; omega) | exact Nat.le_of_ble_eq_true rfl)) | (refine And.intro ?_ ?_ <;> omega) | (refine And.intro ?_ (And.intro ?_ ?_) <;> first | omega | (show _ < _; omega) | exact Nat.le_of_ble_eq_true rfl)); done)); (conv => whnf))))
    exact ret_of (c := cl0) (by unfold ofR; rw [if_neg (by simpa using h1), if_neg (by omega), if_pos h3])
  simp only [decide_eq_false_iff_not] at h3
  have hn : 0 ≤ min b d.last - max a d.first ∧ min b d.last - max a d.first ≤ 4096 := by omega
  have hS' : DcS d := by unfold DcS; omega
  have hR : ofR d a b x = (⟨max a d.first, min b d.last, x + min (min 0 (d.down * (min b d.last - max a d.first))) (-d.up * (min b d.last - max a d.first)),
    x + max (max 0 (d.up * (min b d.last - max a d.first))) (-d.down * (min b d.last - max a d.first))⟩, 0) := by unfold ofR; rw [if_neg (by simpa using h1), if_neg (by omega), if_neg h3]
  rw [← of_low d _ x hn.1, ← of_high d _ x hn.1] at hR
  ((conv => whnf); (repeat (refine And.intro ?_ ?_; (focus ((first | omega | (intro hg; simp only [Bool.or_eq_false_iff, Bool.or_eq_true, Bool.and_eq_true, Bool.and_eq_false_iff, Bool.not_eq_true, Bool.not_eq_false, Bool.not_eq_true', Bool.not_eq_false', decide_eq_false_iff_not, decide_eq_true_eq] at hg; first | omega | (refine And.intro ?_ ?_ <;> omega) | (refine And.intro ?_ (And.intro ?_ ?_) <;> first | omega | (show _ < _; omega) | exact Nat.le_of_ble_eq_true rfl)) | (refine And.intro ?_ ?_ <;> omega) | (refine And.intro ?_ (And.intro ?_ ?_) <;> first | omega | (show _ < _; omega) | exact Nat.le_of_ble_eq_true rfl)); done)); (conv => whnf))))
  (refine EvDraw.one (.q 0 (.q 1 (.q 2 (.q 3 (.q 5 (.q 6 (.q 7 (.n 4 false (.n 8 false (.q 9 (.q 10 (.n 11 true (.z) (.e)))) (.e)) (.e))))))))) (by kernel_rfl) ?_)
  ((conv => whnf); (repeat (refine And.intro ?_ ?_; (focus ((first | omega | (intro hg; simp only [Bool.or_eq_false_iff, Bool.or_eq_true, Bool.and_eq_true, Bool.and_eq_false_iff, Bool.not_eq_true, Bool.not_eq_false, Bool.not_eq_true', Bool.not_eq_false', decide_eq_false_iff_not, decide_eq_true_eq] at hg; first | omega | (refine And.intro ?_ ?_ <;> omega) | (refine And.intro ?_ (And.intro ?_ ?_) <;> first | omega | (show _ < _; omega) | exact Nat.le_of_ble_eq_true rfl)) | (refine And.intro ?_ ?_ <;> omega) | (refine And.intro ?_ (And.intro ?_ ?_) <;> first | omega | (show _ < _; omega) | exact Nat.le_of_ble_eq_true rfl)); done)); (conv => whnf))))
  refine EvCall.plain Try.call55 (.v (.int .i64 (lowV d 0 (min b d.last - max a d.first) x))) rfl (fun ρ W hp => low_s _ _ _ _ d _ _ _ _ hS' (by omega) (by omega) (by omega)) ?_
  ((conv => whnf); (repeat (refine And.intro ?_ ?_; (focus ((first | omega | (intro hg; simp only [Bool.or_eq_false_iff, Bool.or_eq_true, Bool.and_eq_true, Bool.and_eq_false_iff, Bool.not_eq_true, Bool.not_eq_false, Bool.not_eq_true', Bool.not_eq_false', decide_eq_false_iff_not, decide_eq_true_eq] at hg; first | omega | (refine And.intro ?_ ?_ <;> omega) | (refine And.intro ?_ (And.intro ?_ ?_) <;> first | omega | (show _ < _; omega) | exact Nat.le_of_ble_eq_true rfl)) | (refine And.intro ?_ ?_ <;> omega) | (refine And.intro ?_ (And.intro ?_ ?_) <;> first | omega | (show _ < _; omega) | exact Nat.le_of_ble_eq_true rfl)); done)); (conv => whnf))))
  refine EvCall.plain Try.call55 (.v (.int .i64 (lowV d (min b d.last - max a d.first) 0 x))) rfl (fun ρ W hp => low_s _ _ _ _ d _ _ _ _ hS' (by omega) (by omega) (by omega)) ?_
  ((conv => whnf); (repeat (refine And.intro ?_ ?_; (focus ((first | omega | (intro hg; simp only [Bool.or_eq_false_iff, Bool.or_eq_true, Bool.and_eq_true, Bool.and_eq_false_iff, Bool.not_eq_true, Bool.not_eq_false, Bool.not_eq_true', Bool.not_eq_false', decide_eq_false_iff_not, decide_eq_true_eq] at hg; first | omega | (refine And.intro ?_ ?_ <;> omega) | (refine And.intro ?_ (And.intro ?_ ?_) <;> first | omega | (show _ < _; omega) | exact Nat.le_of_ble_eq_true rfl)) | (refine And.intro ?_ ?_ <;> omega) | (refine And.intro ?_ (And.intro ?_ ?_) <;> first | omega | (show _ < _; omega) | exact Nat.le_of_ble_eq_true rfl)); done)); (conv => whnf))))
  (refine EvDraw.one (.q 0 (.q 1 (.q 2 (.q 3 (.q 5 (.q 6 (.q 7 (.n 4 false (.n 8 false (.q 9 (.q 10 (.n 11 true (.z) (.e)))) (.e)) (.e))))))))) (by kernel_rfl) ?_)
  ((conv => whnf); (repeat (refine And.intro ?_ ?_; (focus ((first | omega | (intro hg; simp only [Bool.or_eq_false_iff, Bool.or_eq_true, Bool.and_eq_true, Bool.and_eq_false_iff, Bool.not_eq_true, Bool.not_eq_false, Bool.not_eq_true', Bool.not_eq_false', decide_eq_false_iff_not, decide_eq_true_eq] at hg; first | omega | (refine And.intro ?_ ?_ <;> omega) | (refine And.intro ?_ (And.intro ?_ ?_) <;> first | omega | (show _ < _; omega) | exact Nat.le_of_ble_eq_true rfl)) | (refine And.intro ?_ ?_ <;> omega) | (refine And.intro ?_ (And.intro ?_ ?_) <;> first | omega | (show _ < _; omega) | exact Nat.le_of_ble_eq_true rfl)); done)); (conv => whnf))))
  refine EvCall.plain Try.call56 (.v (.int .i64 (highV d 0 (min b d.last - max a d.first) x))) rfl (fun ρ W hp => high_s _ _ _ _ d _ _ _ _ hS' (by omega) (by omega) (by omega)) ?_
  ((conv => whnf); (repeat (refine And.intro ?_ ?_; (focus ((first | omega | (intro hg; simp only [Bool.or_eq_false_iff, Bool.or_eq_true, Bool.and_eq_true, Bool.and_eq_false_iff, Bool.not_eq_true, Bool.not_eq_false, Bool.not_eq_true', Bool.not_eq_false', decide_eq_false_iff_not, decide_eq_true_eq] at hg; first | omega | (refine And.intro ?_ ?_ <;> omega) | (refine And.intro ?_ (And.intro ?_ ?_) <;> first | omega | (show _ < _; omega) | exact Nat.le_of_ble_eq_true rfl)) | (refine And.intro ?_ ?_ <;> omega) | (refine And.intro ?_ (And.intro ?_ ?_) <;> first | omega | (show _ < _; omega) | exact Nat.le_of_ble_eq_true rfl)); done)); (conv => whnf))))
  refine EvCall.plain Try.call56 (.v (.int .i64 (highV d (min b d.last - max a d.first) 0 x))) rfl (fun ρ W hp => high_s _ _ _ _ d _ _ _ _ hS' (by omega) (by omega) (by omega)) ?_
  ((conv => whnf); (repeat (refine And.intro ?_ ?_; (focus ((first | omega | (intro hg; simp only [Bool.or_eq_false_iff, Bool.or_eq_true, Bool.and_eq_true, Bool.and_eq_false_iff, Bool.not_eq_true, Bool.not_eq_false, Bool.not_eq_true', Bool.not_eq_false', decide_eq_false_iff_not, decide_eq_true_eq] at hg; first | omega | (refine And.intro ?_ ?_ <;> omega) | (refine And.intro ?_ (And.intro ?_ ?_) <;> first | omega | (show _ < _; omega) | exact Nat.le_of_ble_eq_true rfl)) | (refine And.intro ?_ ?_ <;> omega) | (refine And.intro ?_ (And.intro ?_ ?_) <;> first | omega | (show _ < _; omega) | exact Nat.le_of_ble_eq_true rfl)); done)); (conv => whnf))))
  exact ret_of (c := ⟨_, _, _, _⟩) hR
def validB (d : Dc) (c : Cl) : Bool := decide (d.first ≤ c.f) && decide (c.f ≤ c.t) && decide (c.t ≤ d.last) && decide (-1099511627776 ≤ c.lo) && decide (c.lo ≤ c.hi) && decide (c.hi ≤ 1099511627776)
theorem valid_iff (d : Dc) (c : Cl) : validB d c = true ↔ (d.first ≤ c.f ∧ c.f ≤ c.t ∧ c.t ≤ d.last ∧ -1099511627776 ≤ c.lo ∧ c.lo ≤ c.hi ∧ c.hi ≤ 1099511627776) := by
  simp [validB, Bool.and_eq_true, and_assoc]
set_option maxRecDepth 10000 in
theorem valid_s (nm : ByteArray) (A : Option Addr) (ln c : Nat) (d : Dc) (x : Cl) (w : World) : Con Try.prog 27 #[.agg (dcCells nm (.slice A ln c) d), .agg (clA x)] w (Ret w (.bool (validB d x))) := by
  refine enter tabOk mixed Try.func27 rfl Try.ntmps27 Try.results27 [.a (dcS nm (.v (.slice A ln c)) d), .a (clS x)] (fun _ => none) [] 0 rfl rfl (hp0 _ _ _) ?_
  ((conv => whnf); (repeat (refine And.intro ?_ ?_; (focus ((first | omega | (intro hg; simp only [Bool.or_eq_false_iff, Bool.or_eq_true, Bool.and_eq_true, Bool.and_eq_false_iff, Bool.not_eq_true, Bool.not_eq_false, Bool.not_eq_true', Bool.not_eq_false', decide_eq_false_iff_not, decide_eq_true_eq] at hg; first | omega | (refine And.intro ?_ ?_ <;> omega) | (refine And.intro ?_ (And.intro ?_ ?_) <;> first | omega | (show _ < _; omega) | exact Nat.le_of_ble_eq_true rfl)) | (refine And.intro ?_ ?_ <;> omega) | (refine And.intro ?_ (And.intro ?_ ?_) <;> first | omega | (show _ < _; omega) | exact Nat.le_of_ble_eq_true rfl)); done)); (conv => whnf))))
  exact EvRet.ret (fun _ => rfl)
set_option maxRecDepth 10000 in
theorem ref_valid_s (nm : ByteArray) (A : Option Addr) (ln c : Nat) (d : Dc) (x : Cl) (w : World) : Con Try.prog 31 #[.agg (dcCells nm (.slice A ln c) d), .agg (clA x)] w (Ret w (.bool (validB d x))) := by
  refine enter tabOk mixed Try.func31 rfl Try.ntmps31 Try.results31 [.a (dcS nm (.v (.slice A ln c)) d), .a (clS x)] (fun _ => none) [] 0 rfl rfl (hp0 _ _ _) ?_
  ((conv => whnf); (repeat (refine And.intro ?_ ?_; (focus ((first | omega | (intro hg; simp only [Bool.or_eq_false_iff, Bool.or_eq_true, Bool.and_eq_true, Bool.and_eq_false_iff, Bool.not_eq_true, Bool.not_eq_false, Bool.not_eq_true', Bool.not_eq_false', decide_eq_false_iff_not, decide_eq_true_eq] at hg; first | omega | (refine And.intro ?_ ?_ <;> omega) | (refine And.intro ?_ (And.intro ?_ ?_) <;> first | omega | (show _ < _; omega) | exact Nat.le_of_ble_eq_true rfl)) | (refine And.intro ?_ ?_ <;> omega) | (refine And.intro ?_ (And.intro ?_ ?_) <;> first | omega | (show _ < _; omega) | exact Nat.le_of_ble_eq_true rfl)); done)); (conv => whnf))))
  exact EvRet.ret (fun _ => rfl)
end Go.Proofs.Ytofekfpbljihiaa
