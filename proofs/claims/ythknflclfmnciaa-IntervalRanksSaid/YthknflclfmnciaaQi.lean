
/- Intervals: new ones, valid ones, what they contain; walked. -/
import Derived.Test.YthknflclfmnciaaQh
namespace Go.Proofs.Ythknflclfmnciaa
open Go.RowKit
set_option linter.unusedVariables false
set_option linter.unusedSimpArgs false

def iS (x : Iv) : List SV := [.v (.int .i64 x.lo.n), .v (.int .i64 x.lo.d), .v (.int .i64 x.hi.n), .v (.int .i64 x.hi.d)]
def iV (x : Iv) : Value := .agg #[.int .i64 x.lo.n, .int .i64 x.lo.d, .int .i64 x.hi.n, .int .i64 x.hi.d]
theorem iS_den (ρ : Rho) (x : Iv) : den ρ (.a (iS x)) = iV x := by simp [iS, iV, den, denL]
def inI (x : Iv) : Prop := inF x.lo ∧ inF x.hi
def ieV (r : Iv × Int) : Value := .tuple #[iV r.1, .int .i64 r.2]
theorem ivB_eq (x : Iv) : ivB x = ((vB x.lo && vB x.hi) && decide (cmpF x.lo x.hi ≤ 0)) := by
  rw [Bool.eq_iff_iff, ivB_iff]
  simp [vI, vB_iff, and_assoc]
theorem cmpF_rng (a b : Fq) : -1 ≤ cmpF a b ∧ cmpF a b ≤ 1 := by rcases cmpF_in a b with h | h | h <;> omega
set_option maxRecDepth 10000 in
theorem ivalid_s (x : Iv) (w : World) : Con Try.prog 27 #[iV x] w (Ret w (.bool (ivB x))) := by
  refine enter tabOk mixed Try.func27 rfl Try.ntmps27 Try.results27 [.a (iS x)] (fun _ => none) [] 0 rfl rfl (hp0 _ _ _) ?_
  ((conv=>whnf);repeat(refine And.intro (by omega) ?_;(conv=>whnf)))
  refine EvCall.plain Try.call59 (.v (.bool (vB x.lo))) rfl (fun ρ W hp => valid_s x.lo W) ?_
  ((conv=>whnf);repeat(refine And.intro (by omega) ?_;(conv=>whnf)))
  refine EvCallC.plain Try.call59 (.v (.bool (vB x.hi))) rfl (fun _ ρ W hp => valid_s x.hi W) ?_
  ((conv=>whnf);repeat(refine And.intro (by omega) ?_;(conv=>whnf)))
  refine EvCallC.plain Try.call22 (.v (.int .i64 (cmpF x.lo x.hi))) rfl (fun _ ρ W hp => compare_s x.lo x.hi W) ?_
  ((conv=>whnf);repeat(refine And.intro (by omega) ?_;(conv=>whnf)))
  exact ret_bool (ivB_eq x)
set_option maxRecDepth 10000 in
theorem ivalid4_s (x : Iv) (w : World) (hx : inI x) : Con Try.prog 25 #[iV x] w (Ret w (.bool (ivB x))) := by
  refine enter tabOk mixed Try.func25 rfl Try.ntmps25 Try.results25 [.a (iS x)] (fun _ => none) [] 0 rfl rfl (hp0 _ _ _) ?_
  ((conv=>whnf);repeat(refine And.intro (by omega) ?_;(conv=>whnf)))
  refine EvCall.plain Try.call26 (.v (.bool (vB x.lo))) rfl (fun ρ W hp => valid3_s x.lo W hx.1) ?_
  ((conv=>whnf);repeat(refine And.intro (by omega) ?_;(conv=>whnf)))
  refine EvCall.plain Try.call26 (.v (.bool (vB x.hi))) rfl (fun ρ W hp => valid3_s x.hi W hx.2) ?_
  ((conv=>whnf);repeat(refine And.intro (by omega) ?_;(conv=>whnf)))
  refine EvCallC.plain Try.call61 (.v (.int .i64 (cmpF x.lo x.hi))) rfl (fun _ ρ W hp => compare3_s x.lo x.hi W hx.1 hx.2) ?_
  ((conv=>whnf);repeat(refine And.intro (by omega) ?_;(conv=>whnf)))
  exact ret_bool (ivB_eq x)
def inewF (a b : Fq) : Iv × Int := if ivB ⟨a, b⟩ then (⟨a, b⟩, 0) else (iv0, 1)
set_option maxRecDepth 10000 in
theorem inew_s (a b : Fq) (w : World) : Con Try.prog 24 #[fV a, fV b] w (Ret w (ieV (inewF a b))) := by
  refine enter tabOk mixed Try.func24 rfl Try.ntmps24 Try.results24 [.a (fS a), .a (fS b)] (fun _ => none) [] 0 rfl rfl (hp0 _ _ _) ?_
  ((conv=>whnf);repeat(refine And.intro (by omega) ?_;(conv=>whnf)))
  refine EvCall.plain Try.call27 (.v (.bool (ivB ⟨a, b⟩))) rfl (fun ρ W hp => ivalid_s ⟨a, b⟩ W) ?_
  ((conv=>whnf);repeat(refine And.intro (by omega) ?_;(conv=>whnf)))
  refine EvIf.split (fun g1 => ?_) (fun g1 => ?_)
  · have g2 : ivB ⟨a, b⟩ = false := by simpa using g1
    ((conv=>whnf);repeat(refine And.intro (by omega) ?_;(conv=>whnf)))
    exact EvRet.ret (fun _ => by unfold inewF; rw [if_neg (by rw [g2]; simp)]; rfl)
  · have g2 : ivB ⟨a, b⟩ = true := by simpa using g1
    ((conv=>whnf);repeat(refine And.intro (by omega) ?_;(conv=>whnf)))
    exact EvRet.ret (fun _ => by unfold inewF; rw [if_pos g2]; rfl)
def pointF (a : Fq) : Iv := if vB a then ⟨a, a⟩ else iv0
set_option maxRecDepth 10000 in
theorem point_s (a : Fq) (w : World) : Con Try.prog 28 #[fV a] w (Ret w (iV (pointF a))) := by
  refine enter tabOk mixed Try.func28 rfl Try.ntmps28 Try.results28 [.a (fS a)] (fun _ => none) [] 0 rfl rfl (hp0 _ _ _) ?_
  ((conv=>whnf);repeat(refine And.intro (by omega) ?_;(conv=>whnf)))
  refine EvCall.plain Try.call59 (.v (.bool (vB a))) rfl (fun ρ W hp => valid_s a W) ?_
  ((conv=>whnf);repeat(refine And.intro (by omega) ?_;(conv=>whnf)))
  refine EvIf.split (fun g1 => ?_) (fun g1 => ?_)
  · have g2 : vB a = false := by simpa using g1
    ((conv=>whnf);repeat(refine And.intro (by omega) ?_;(conv=>whnf)))
    exact EvRet.ret (fun _ => by unfold pointF; rw [if_neg (by rw [g2]; simp)]; rfl)
  · have g2 : vB a = true := by simpa using g1
    ((conv=>whnf);repeat(refine And.intro (by omega) ?_;(conv=>whnf)))
    exact EvRet.ret (fun _ => by unfold pointF; rw [if_pos g2]; rfl)
def contB (x : Iv) (a : Fq) : Bool := ((ivB x && vB a) && decide (cmpF x.lo a ≤ 0)) && decide (cmpF a x.hi ≤ 0)
set_option maxRecDepth 10000 in
theorem cont_s (x : Iv) (a : Fq) (w : World) : Con Try.prog 31 #[iV x, fV a] w (Ret w (.bool (contB x a))) := by
  refine enter tabOk mixed Try.func31 rfl Try.ntmps31 Try.results31 [.a (iS x), .a (fS a)] (fun _ => none) [] 0 rfl rfl (hp0 _ _ _) ?_
  ((conv=>whnf);repeat(refine And.intro (by omega) ?_;(conv=>whnf)))
  refine EvCall.plain Try.call27 (.v (.bool (ivB x))) rfl (fun ρ W hp => ivalid_s x W) ?_
  ((conv=>whnf);repeat(refine And.intro (by omega) ?_;(conv=>whnf)))
  refine EvCallC.plain Try.call59 (.v (.bool (vB a))) rfl (fun _ ρ W hp => valid_s a W) ?_
  ((conv=>whnf);repeat(refine And.intro (by omega) ?_;(conv=>whnf)))
  refine EvCallC.plain Try.call22 (.v (.int .i64 (cmpF x.lo a))) rfl (fun _ ρ W hp => compare_s x.lo a W) ?_
  ((conv=>whnf);repeat(refine And.intro (by omega) ?_;(conv=>whnf)))
  refine EvCallC.plain Try.call22 (.v (.int .i64 (cmpF a x.hi))) rfl (fun _ ρ W hp => compare_s a x.hi W) ?_
  ((conv=>whnf);repeat(refine And.intro (by omega) ?_;(conv=>whnf)))
  exact ret_bool rfl
def withB (x y : Iv) : Bool := ((ivB x && ivB y) && decide (cmpF y.lo x.lo ≤ 0)) && decide (cmpF x.hi y.hi ≤ 0)
set_option maxRecDepth 10000 in
theorem with_s (x y : Iv) (w : World) : Con Try.prog 41 #[iV x, iV y] w (Ret w (.bool (withB x y))) := by
  refine enter tabOk mixed Try.func41 rfl Try.ntmps41 Try.results41 [.a (iS x), .a (iS y)] (fun _ => none) [] 0 rfl rfl (hp0 _ _ _) ?_
  ((conv=>whnf);repeat(refine And.intro (by omega) ?_;(conv=>whnf)))
  refine EvCall.plain Try.call27 (.v (.bool (ivB x))) rfl (fun ρ W hp => ivalid_s x W) ?_
  ((conv=>whnf);repeat(refine And.intro (by omega) ?_;(conv=>whnf)))
  refine EvCallC.plain Try.call27 (.v (.bool (ivB y))) rfl (fun _ ρ W hp => ivalid_s y W) ?_
  ((conv=>whnf);repeat(refine And.intro (by omega) ?_;(conv=>whnf)))
  refine EvCallC.plain Try.call22 (.v (.int .i64 (cmpF y.lo x.lo))) rfl (fun _ ρ W hp => compare_s y.lo x.lo W) ?_
  ((conv=>whnf);repeat(refine And.intro (by omega) ?_;(conv=>whnf)))
  refine EvCallC.plain Try.call22 (.v (.int .i64 (cmpF x.hi y.hi))) rfl (fun _ ρ W hp => compare_s x.hi y.hi W) ?_
  ((conv=>whnf);repeat(refine And.intro (by omega) ?_;(conv=>whnf)))
  exact ret_bool rfl
/-- A verdict. -/
def atLF (x : Iv) (c : Fq) : Int := if (ivB x && vB c) = false then 1 else if 0 ≤ cmpF x.lo c then 2 else if cmpF x.hi c < 0 then 0 else 1
def atMF (x : Iv) (c : Fq) : Int := if (ivB x && vB c) = false then 1 else if cmpF x.hi c ≤ 0 then 2 else if 0 < cmpF x.lo c then 0 else 1
set_option maxRecDepth 10000 in
theorem atleast_s (x : Iv) (c : Fq) (w : World) : Con Try.prog 21 #[iV x, fV c] w (Ret w (.int .i64 (atLF x c))) := by
  refine enter tabOk mixed Try.func21 rfl Try.ntmps21 Try.results21 [.a (iS x), .a (fS c)] (fun _ => none) [] 0 rfl rfl (hp0 _ _ _) ?_
  ((conv=>whnf);repeat(refine And.intro (by omega) ?_;(conv=>whnf)))
  refine EvCall.plain Try.call27 (.v (.bool (ivB x))) rfl (fun ρ W hp => ivalid_s x W) ?_
  ((conv=>whnf);repeat(refine And.intro (by omega) ?_;(conv=>whnf)))
  refine EvCallC.plain Try.call59 (.v (.bool (vB c))) rfl (fun _ ρ W hp => valid_s c W) ?_
  ((conv=>whnf);repeat(refine And.intro (by omega) ?_;(conv=>whnf)))
  refine EvIf.split (fun g1 => ?_) (fun g1 => ?_)
  · have g2 : (ivB x && vB c) = false := by cases h1 : ivB x <;> cases h2 : vB c <;> simp_all
    ((conv=>whnf);repeat(refine And.intro (by omega) ?_;(conv=>whnf)))
    exact ret_code (by unfold atLF; rw [if_pos g2])
  have g2 : ¬ (ivB x && vB c) = false := by cases h1 : ivB x <;> cases h2 : vB c <;> simp_all
  ((conv=>whnf);repeat(refine And.intro (by omega) ?_;(conv=>whnf)))
  refine EvCall.plain Try.call22 (.v (.int .i64 (cmpF x.lo c))) rfl (fun ρ W hp => compare_s x.lo c W) ?_
  ((conv=>whnf);repeat(refine And.intro (by omega) ?_;(conv=>whnf)))
  refine EvIf.split (fun g3 => ?_) (fun g3 => ?_)
  · simp only [decide_eq_true_eq] at g3
    ((conv=>whnf);repeat(refine And.intro (by omega) ?_;(conv=>whnf)))
    exact ret_code (by unfold atLF; rw [if_neg g2, if_pos g3])
  simp only [decide_eq_false_iff_not] at g3
  ((conv=>whnf);repeat(refine And.intro (by omega) ?_;(conv=>whnf)))
  refine EvCall.plain Try.call22 (.v (.int .i64 (cmpF x.hi c))) rfl (fun ρ W hp => compare_s x.hi c W) ?_
  ((conv=>whnf);repeat(refine And.intro (by omega) ?_;(conv=>whnf)))
  refine EvIf.split (fun g4 => ?_) (fun g4 => ?_)
  · simp only [decide_eq_true_eq] at g4
    ((conv=>whnf);repeat(refine And.intro (by omega) ?_;(conv=>whnf)))
    exact ret_code (by unfold atLF; rw [if_neg g2, if_neg g3, if_pos g4])
  · simp only [decide_eq_false_iff_not] at g4
    ((conv=>whnf);repeat(refine And.intro (by omega) ?_;(conv=>whnf)))
    exact ret_code (by unfold atLF; rw [if_neg g2, if_neg g3, if_neg g4])
set_option maxRecDepth 10000 in
theorem atmost_s (x : Iv) (c : Fq) (w : World) : Con Try.prog 23 #[iV x, fV c] w (Ret w (.int .i64 (atMF x c))) := by
  refine enter tabOk mixed Try.func23 rfl Try.ntmps23 Try.results23 [.a (iS x), .a (fS c)] (fun _ => none) [] 0 rfl rfl (hp0 _ _ _) ?_
  ((conv=>whnf);repeat(refine And.intro (by omega) ?_;(conv=>whnf)))
  refine EvCall.plain Try.call27 (.v (.bool (ivB x))) rfl (fun ρ W hp => ivalid_s x W) ?_
  ((conv=>whnf);repeat(refine And.intro (by omega) ?_;(conv=>whnf)))
  refine EvCallC.plain Try.call59 (.v (.bool (vB c))) rfl (fun _ ρ W hp => valid_s c W) ?_
  ((conv=>whnf);repeat(refine And.intro (by omega) ?_;(conv=>whnf)))
  refine EvIf.split (fun g1 => ?_) (fun g1 => ?_)
  · have g2 : (ivB x && vB c) = false := by cases h1 : ivB x <;> cases h2 : vB c <;> simp_all
    ((conv=>whnf);repeat(refine And.intro (by omega) ?_;(conv=>whnf)))
    exact ret_code (by unfold atMF; rw [if_pos g2])
  have g2 : ¬ (ivB x && vB c) = false := by cases h1 : ivB x <;> cases h2 : vB c <;> simp_all
  ((conv=>whnf);repeat(refine And.intro (by omega) ?_;(conv=>whnf)))
  refine EvCall.plain Try.call22 (.v (.int .i64 (cmpF x.hi c))) rfl (fun ρ W hp => compare_s x.hi c W) ?_
  ((conv=>whnf);repeat(refine And.intro (by omega) ?_;(conv=>whnf)))
  refine EvIf.split (fun g3 => ?_) (fun g3 => ?_)
  · simp only [decide_eq_true_eq] at g3
    ((conv=>whnf);repeat(refine And.intro (by omega) ?_;(conv=>whnf)))
    exact ret_code (by unfold atMF; rw [if_neg g2, if_pos g3])
  simp only [decide_eq_false_iff_not] at g3
  ((conv=>whnf);repeat(refine And.intro (by omega) ?_;(conv=>whnf)))
  refine EvCall.plain Try.call22 (.v (.int .i64 (cmpF x.lo c))) rfl (fun ρ W hp => compare_s x.lo c W) ?_
  ((conv=>whnf);repeat(refine And.intro (by omega) ?_;(conv=>whnf)))
  refine EvIf.split (fun g4 => ?_) (fun g4 => ?_)
  · simp only [decide_eq_true_eq] at g4
    ((conv=>whnf);repeat(refine And.intro (by omega) ?_;(conv=>whnf)))
    exact ret_code (by unfold atMF; rw [if_neg g2, if_neg g3, if_pos g4])
  · simp only [decide_eq_false_iff_not] at g4
    ((conv=>whnf);repeat(refine And.intro (by omega) ?_;(conv=>whnf)))
    exact ret_code (by unfold atMF; rw [if_neg g2, if_neg g3, if_neg g4])
end Go.Proofs.Ythknflclfmnciaa
