
/- Fractions: valid ones and comparing, walked. -/
import Derived.Test.YthknflclfmnciaaQb
namespace Go.Proofs.Ythknflclfmnciaa
open Go.RowKit
set_option linter.unusedVariables false
set_option linter.unusedSimpArgs false

def fS (a : Fq) : List SV := [.v (.int .i64 a.n), .v (.int .i64 a.d)]
def fV (a : Fq) : Value := .agg #[.int .i64 a.n, .int .i64 a.d]
theorem fS_den (ρ : Rho) (a : Fq) : den ρ (.a (fS a)) = fV a := by simp [fS, fV, den, denL]
theorem ret_bool {w : Ref} {L : List Ob} {nx : Nat} {a b : Bool} (h : b = a) : EvRet w (Ret w.toWorld (.bool b)) (.v (.bool a)) L nx := EvRet.ret (fun _ => by rw [h]; rfl)
set_option maxRecDepth 10000 in
theorem valid_s (a : Fq) (w : World) : Con Try.prog 59 #[fV a] w (Ret w (.bool (vB a))) := by
  refine enter tabOk mixed Try.func59 rfl Try.ntmps59 Try.results59 [.a (fS a)] (fun _ => none) [] 0 rfl rfl (hp0 _ _ _) ?_
  ((conv=>whnf);(repeat(refine And.intro ?_ ?_;(focus((first|omega|exact⟨rfl,True.intro⟩|exact⟨rfl,rfl,True.intro⟩|rfl|(simp only[List.length_set];first|omega|(refine⟨?_,?_⟩<;>omega)|(refine⟨?_,?_,?_⟩<;>omega))|(intro hg;(try simp only[bB]at hg);first|omega|(refine⟨?_,?_⟩<;>omega)|(refine⟨?_,?_,?_⟩<;>first|omega|(show _<_;(try simp only[List.length_set]);omega)|exact leT rfl))|(refine⟨?_,?_⟩<;>omega)|(refine⟨?_,?_,?_⟩<;>first|omega|(show _<_;(try simp only[List.length_set]);omega)|exact leT rfl)|(simp only[show rI.d=(0:Int)from rfl];omega));done));(conv=>whnf))))
  refine EvIf.split (fun g1 => ?_) (fun g1 => ?_)
  · simp only [Bool.or_eq_true, decide_eq_true_eq] at g1
    ((conv=>whnf);(repeat(refine And.intro ?_ ?_;(focus((first|omega|exact⟨rfl,True.intro⟩|exact⟨rfl,rfl,True.intro⟩|rfl|(simp only[List.length_set];first|omega|(refine⟨?_,?_⟩<;>omega)|(refine⟨?_,?_,?_⟩<;>omega))|(intro hg;(try simp only[bB]at hg);first|omega|(refine⟨?_,?_⟩<;>omega)|(refine⟨?_,?_,?_⟩<;>first|omega|(show _<_;(try simp only[List.length_set]);omega)|exact leT rfl))|(refine⟨?_,?_⟩<;>omega)|(refine⟨?_,?_,?_⟩<;>first|omega|(show _<_;(try simp only[List.length_set]);omega)|exact leT rfl)|(simp only[show rI.d=(0:Int)from rfl];omega));done));(conv=>whnf))))
    exact ret_bool (decide_eq_false (fun h => by unfold vF at h; omega))
  · simp only [Bool.or_eq_false_iff, decide_eq_false_iff_not] at g1
    ((conv=>whnf);(repeat(refine And.intro ?_ ?_;(focus((first|omega|exact⟨rfl,True.intro⟩|exact⟨rfl,rfl,True.intro⟩|rfl|(simp only[List.length_set];first|omega|(refine⟨?_,?_⟩<;>omega)|(refine⟨?_,?_,?_⟩<;>omega))|(intro hg;(try simp only[bB]at hg);first|omega|(refine⟨?_,?_⟩<;>omega)|(refine⟨?_,?_,?_⟩<;>first|omega|(show _<_;(try simp only[List.length_set]);omega)|exact leT rfl))|(refine⟨?_,?_⟩<;>omega)|(refine⟨?_,?_,?_⟩<;>first|omega|(show _<_;(try simp only[List.length_set]);omega)|exact leT rfl)|(simp only[show rI.d=(0:Int)from rfl];omega));done));(conv=>whnf))))
    (refine EvDraw.one (.q 0 (.q 1 (.q 3 (.q 4 (.n 2 false (.n 5 true (.q 6 (.q 7 (.z))) (.e)) (.e)))))) (by kernel_rfl) ?_)
    ((conv=>whnf);(repeat(refine And.intro ?_ ?_;(focus((first|omega|exact⟨rfl,True.intro⟩|exact⟨rfl,rfl,True.intro⟩|rfl|(simp only[List.length_set];first|omega|(refine⟨?_,?_⟩<;>omega)|(refine⟨?_,?_,?_⟩<;>omega))|(intro hg;(try simp only[bB]at hg);first|omega|(refine⟨?_,?_⟩<;>omega)|(refine⟨?_,?_,?_⟩<;>first|omega|(show _<_;(try simp only[List.length_set]);omega)|exact leT rfl))|(refine⟨?_,?_⟩<;>omega)|(refine⟨?_,?_,?_⟩<;>first|omega|(show _<_;(try simp only[List.length_set]);omega)|exact leT rfl)|(simp only[show rI.d=(0:Int)from rfl];omega));done));(conv=>whnf))))
    refine EvCall.plain Try.call86 (.v (.int .i64 ((a.n.natAbs : Nat) : Int))) rfl (fun ρ W hp => abs_s a.n W (by omega)) ?_
    ((conv=>whnf);(repeat(refine And.intro ?_ ?_;(focus((first|omega|exact⟨rfl,True.intro⟩|exact⟨rfl,rfl,True.intro⟩|rfl|(simp only[List.length_set];first|omega|(refine⟨?_,?_⟩<;>omega)|(refine⟨?_,?_,?_⟩<;>omega))|(intro hg;(try simp only[bB]at hg);first|omega|(refine⟨?_,?_⟩<;>omega)|(refine⟨?_,?_,?_⟩<;>first|omega|(show _<_;(try simp only[List.length_set]);omega)|exact leT rfl))|(refine⟨?_,?_⟩<;>omega)|(refine⟨?_,?_,?_⟩<;>first|omega|(show _<_;(try simp only[List.length_set]);omega)|exact leT rfl)|(simp only[show rI.d=(0:Int)from rfl];omega));done));(conv=>whnf))))
    refine EvCall.plain Try.call85 (.v (.int .i64 ((Nat.gcd a.n.natAbs a.d.natAbs : Nat) : Int))) rfl (fun ρ W hp => by
      have := gcd_s a.n.natAbs a.d.natAbs W (by omega) (by omega)
      rw [show ((a.d.natAbs : Nat) : Int) = a.d by omega] at this
      exact this) ?_
    ((conv=>whnf);(repeat(refine And.intro ?_ ?_;(focus((first|omega|exact⟨rfl,True.intro⟩|exact⟨rfl,rfl,True.intro⟩|rfl|(simp only[List.length_set];first|omega|(refine⟨?_,?_⟩<;>omega)|(refine⟨?_,?_,?_⟩<;>omega))|(intro hg;(try simp only[bB]at hg);first|omega|(refine⟨?_,?_⟩<;>omega)|(refine⟨?_,?_,?_⟩<;>first|omega|(show _<_;(try simp only[List.length_set]);omega)|exact leT rfl))|(refine⟨?_,?_⟩<;>omega)|(refine⟨?_,?_,?_⟩<;>first|omega|(show _<_;(try simp only[List.length_set]);omega)|exact leT rfl)|(simp only[show rI.d=(0:Int)from rfl];omega));done));(conv=>whnf))))
    refine ret_bool ?_
    unfold vB vF
    apply decide_eq_decide.2
    omega
set_option maxRecDepth 10000 in
theorem compare_s (a b : Fq) (w : World) : Con Try.prog 22 #[fV a, fV b] w (Ret w (.int .i64 (cmpF a b))) := by
  refine enter tabOk mixed Try.func22 rfl Try.ntmps22 Try.results22 [.a (fS a), .a (fS b)] (fun _ => none) [] 0 rfl rfl (hp0 _ _ _) ?_
  ((conv=>whnf);(repeat(refine And.intro ?_ ?_;(focus((first|omega|exact⟨rfl,True.intro⟩|exact⟨rfl,rfl,True.intro⟩|rfl|(simp only[List.length_set];first|omega|(refine⟨?_,?_⟩<;>omega)|(refine⟨?_,?_,?_⟩<;>omega))|(intro hg;(try simp only[bB]at hg);first|omega|(refine⟨?_,?_⟩<;>omega)|(refine⟨?_,?_,?_⟩<;>first|omega|(show _<_;(try simp only[List.length_set]);omega)|exact leT rfl))|(refine⟨?_,?_⟩<;>omega)|(refine⟨?_,?_,?_⟩<;>first|omega|(show _<_;(try simp only[List.length_set]);omega)|exact leT rfl)|(simp only[show rI.d=(0:Int)from rfl];omega));done));(conv=>whnf))))
  refine EvCall.plain Try.call59 (.v (.bool (vB a))) rfl (fun ρ W hp => valid_s a W) ?_
  ((conv=>whnf);(repeat(refine And.intro ?_ ?_;(focus((first|omega|exact⟨rfl,True.intro⟩|exact⟨rfl,rfl,True.intro⟩|rfl|(simp only[List.length_set];first|omega|(refine⟨?_,?_⟩<;>omega)|(refine⟨?_,?_,?_⟩<;>omega))|(intro hg;(try simp only[bB]at hg);first|omega|(refine⟨?_,?_⟩<;>omega)|(refine⟨?_,?_,?_⟩<;>first|omega|(show _<_;(try simp only[List.length_set]);omega)|exact leT rfl))|(refine⟨?_,?_⟩<;>omega)|(refine⟨?_,?_,?_⟩<;>first|omega|(show _<_;(try simp only[List.length_set]);omega)|exact leT rfl)|(simp only[show rI.d=(0:Int)from rfl];omega));done));(conv=>whnf))))
  refine EvCallC.plain Try.call59 (.v (.bool (vB b))) rfl (fun _ ρ W hp => valid_s b W) ?_
  ((conv=>whnf);(repeat(refine And.intro ?_ ?_;(focus((first|omega|exact⟨rfl,True.intro⟩|exact⟨rfl,rfl,True.intro⟩|rfl|(simp only[List.length_set];first|omega|(refine⟨?_,?_⟩<;>omega)|(refine⟨?_,?_,?_⟩<;>omega))|(intro hg;(try simp only[bB]at hg);first|omega|(refine⟨?_,?_⟩<;>omega)|(refine⟨?_,?_,?_⟩<;>first|omega|(show _<_;(try simp only[List.length_set]);omega)|exact leT rfl))|(refine⟨?_,?_⟩<;>omega)|(refine⟨?_,?_,?_⟩<;>first|omega|(show _<_;(try simp only[List.length_set]);omega)|exact leT rfl)|(simp only[show rI.d=(0:Int)from rfl];omega));done));(conv=>whnf))))
  refine EvIf.split (fun g1 => ?_) (fun g1 => ?_)
  · have g2 : (vB a && vB b) = false := by cases h1 : vB a <;> cases h2 : vB b <;> simp_all
    ((conv=>whnf);(repeat(refine And.intro ?_ ?_;(focus((first|omega|exact⟨rfl,True.intro⟩|exact⟨rfl,rfl,True.intro⟩|rfl|(simp only[List.length_set];first|omega|(refine⟨?_,?_⟩<;>omega)|(refine⟨?_,?_,?_⟩<;>omega))|(intro hg;(try simp only[bB]at hg);first|omega|(refine⟨?_,?_⟩<;>omega)|(refine⟨?_,?_,?_⟩<;>first|omega|(show _<_;(try simp only[List.length_set]);omega)|exact leT rfl))|(refine⟨?_,?_⟩<;>omega)|(refine⟨?_,?_,?_⟩<;>first|omega|(show _<_;(try simp only[List.length_set]);omega)|exact leT rfl)|(simp only[show rI.d=(0:Int)from rfl];omega));done));(conv=>whnf))))
    exact ret_code (by unfold cmpF; rw [g2]; rfl)
  · have g2 : vF a ∧ vF b := by
      rw [← vB_iff, ← vB_iff]
      cases h1 : vB a <;> cases h2 : vB b <;> simp_all
    obtain ⟨ha, hb⟩ := g2
    have e1 : a.n * b.d + -b.n * a.d = cx a b := by unfold cx; rw [Int.neg_mul]; omega
    rw [cmpF_v ha hb]
    unfold vF at ha hb
    ((conv=>whnf);(repeat(refine And.intro ?_ ?_;(focus((first|omega|exact⟨rfl,True.intro⟩|exact⟨rfl,rfl,True.intro⟩|rfl|(simp only[List.length_set];first|omega|(refine⟨?_,?_⟩<;>omega)|(refine⟨?_,?_,?_⟩<;>omega))|(intro hg;(try simp only[bB]at hg);first|omega|(refine⟨?_,?_⟩<;>omega)|(refine⟨?_,?_,?_⟩<;>first|omega|(show _<_;(try simp only[List.length_set]);omega)|exact leT rfl))|(refine⟨?_,?_⟩<;>omega)|(refine⟨?_,?_,?_⟩<;>first|omega|(show _<_;(try simp only[List.length_set]);omega)|exact leT rfl)|(simp only[show rI.d=(0:Int)from rfl];omega));done));(conv=>whnf))))
    refine EvCall.plain Try.call60 (.a (wS (cx a b))) rfl (fun ρ W hp => by
      rw [wS_den, ← e1]
      exact sum_s a.n b.d (-b.n) a.d W (by omega) (by omega) (by omega) (by omega)) ?_
    have hz := wd_zero (cx a b)
    generalize cx a b = z at *
    ((conv=>whnf);(repeat(refine And.intro ?_ ?_;(focus((first|omega|exact⟨rfl,True.intro⟩|exact⟨rfl,rfl,True.intro⟩|rfl|(simp only[List.length_set];first|omega|(refine⟨?_,?_⟩<;>omega)|(refine⟨?_,?_,?_⟩<;>omega))|(intro hg;(try simp only[bB]at hg);first|omega|(refine⟨?_,?_⟩<;>omega)|(refine⟨?_,?_,?_⟩<;>first|omega|(show _<_;(try simp only[List.length_set]);omega)|exact leT rfl))|(refine⟨?_,?_⟩<;>omega)|(refine⟨?_,?_,?_⟩<;>first|omega|(show _<_;(try simp only[List.length_set]);omega)|exact leT rfl)|(simp only[show rI.d=(0:Int)from rfl];omega));done));(conv=>whnf))))
    refine EvIf.split (fun g5 => ?_) (fun g5 => ?_)
    · have g6 : z = 0 := hz.2 (by
        simp only [Bool.and_eq_true, decide_eq_true_eq, beq_iff_eq] at g5
        omega)
      subst g6
      ((conv=>whnf);(repeat(refine And.intro ?_ ?_;(focus((first|omega|exact⟨rfl,True.intro⟩|exact⟨rfl,rfl,True.intro⟩|rfl|(simp only[List.length_set];first|omega|(refine⟨?_,?_⟩<;>omega)|(refine⟨?_,?_,?_⟩<;>omega))|(intro hg;(try simp only[bB]at hg);first|omega|(refine⟨?_,?_⟩<;>omega)|(refine⟨?_,?_,?_⟩<;>first|omega|(show _<_;(try simp only[List.length_set]);omega)|exact leT rfl))|(refine⟨?_,?_⟩<;>omega)|(refine⟨?_,?_,?_⟩<;>first|omega|(show _<_;(try simp only[List.length_set]);omega)|exact leT rfl)|(simp only[show rI.d=(0:Int)from rfl];omega));done));(conv=>whnf))))
      exact ret_code rfl
    · have g6 : z ≠ 0 := by
        rintro rfl
        simp [whi, wlo] at g5
      ((conv=>whnf);(repeat(refine And.intro ?_ ?_;(focus((first|omega|exact⟨rfl,True.intro⟩|exact⟨rfl,rfl,True.intro⟩|rfl|(simp only[List.length_set];first|omega|(refine⟨?_,?_⟩<;>omega)|(refine⟨?_,?_,?_⟩<;>omega))|(intro hg;(try simp only[bB]at hg);first|omega|(refine⟨?_,?_⟩<;>omega)|(refine⟨?_,?_,?_⟩<;>first|omega|(show _<_;(try simp only[List.length_set]);omega)|exact leT rfl))|(refine⟨?_,?_⟩<;>omega)|(refine⟨?_,?_,?_⟩<;>first|omega|(show _<_;(try simp only[List.length_set]);omega)|exact leT rfl)|(simp only[show rI.d=(0:Int)from rfl];omega));done));(conv=>whnf))))
      refine EvIf.split (fun g7 => ?_) (fun g7 => ?_)
      · ((conv=>whnf);(repeat(refine And.intro ?_ ?_;(focus((first|omega|exact⟨rfl,True.intro⟩|exact⟨rfl,rfl,True.intro⟩|rfl|(simp only[List.length_set];first|omega|(refine⟨?_,?_⟩<;>omega)|(refine⟨?_,?_,?_⟩<;>omega))|(intro hg;(try simp only[bB]at hg);first|omega|(refine⟨?_,?_⟩<;>omega)|(refine⟨?_,?_,?_⟩<;>first|omega|(show _<_;(try simp only[List.length_set]);omega)|exact leT rfl))|(refine⟨?_,?_⟩<;>omega)|(refine⟨?_,?_,?_⟩<;>first|omega|(show _<_;(try simp only[List.length_set]);omega)|exact leT rfl)|(simp only[show rI.d=(0:Int)from rfl];omega));done));(conv=>whnf))))
        exact ret_code (by unfold sgI; rw [if_neg g6, if_pos (of_decide_eq_true g7)])
      · ((conv=>whnf);(repeat(refine And.intro ?_ ?_;(focus((first|omega|exact⟨rfl,True.intro⟩|exact⟨rfl,rfl,True.intro⟩|rfl|(simp only[List.length_set];first|omega|(refine⟨?_,?_⟩<;>omega)|(refine⟨?_,?_,?_⟩<;>omega))|(intro hg;(try simp only[bB]at hg);first|omega|(refine⟨?_,?_⟩<;>omega)|(refine⟨?_,?_,?_⟩<;>first|omega|(show _<_;(try simp only[List.length_set]);omega)|exact leT rfl))|(refine⟨?_,?_⟩<;>omega)|(refine⟨?_,?_,?_⟩<;>first|omega|(show _<_;(try simp only[List.length_set]);omega)|exact leT rfl)|(simp only[show rI.d=(0:Int)from rfl];omega));done));(conv=>whnf))))
        exact ret_code (by unfold sgI; rw [if_neg g6, if_neg (of_decide_eq_false g7)])
end Go.Proofs.Ythknflclfmnciaa
