
/- Intervals: corners, products and quotients, walked. -/
import Derived.Test.YthknflclfmnciaaQk
namespace Go.Proofs.Ythknflclfmnciaa
open Go.RowKit
set_option linter.unusedVariables false
set_option linter.unusedSimpArgs false

def feS (r : Fq × Int) : SV := .t [.a (fS r.1), .v (.int .i64 r.2)]
theorem feS_den (ρ : Rho) (r : Fq × Int) : den ρ (feS r) = feV r := by simp [feS, feV, den, denL, fS, fV]
def ieS (r : Iv × Int) : SV := .t [.a (iS r.1), .v (.int .i64 r.2)]
theorem ieS_den (ρ : Rho) (r : Iv × Int) : den ρ (ieS r) = ieV r := by simp [ieS, ieV, den, denL, iS, iV]
set_option maxRecDepth 10000 in
theorem div_s (a b : Fq) (w : World) : Con Try.prog 75 #[fV a, fV b] w (Ret w (feV (divF a b))) := by
  refine enter tabOk mixed Try.func75 rfl Try.ntmps75 Try.results75 [.a (fS a), .a (fS b)] (fun _ => none) [] 0 rfl rfl (hp0 _ _ _) ?_
  ((conv=>whnf);repeat(refine And.intro (by omega) ?_;(conv=>whnf)))
  refine EvCall.plain Try.call59 (.v (.bool (vB a))) rfl (fun ρ W hp => valid_s a W) ?_
  ((conv=>whnf);repeat(refine And.intro (by omega) ?_;(conv=>whnf)))
  refine EvCallC.plain Try.call59 (.v (.bool (vB b))) rfl (fun _ ρ W hp => valid_s b W) ?_
  ((conv=>whnf);repeat(refine And.intro (by omega) ?_;(conv=>whnf)))
  refine EvIf.split (fun g1 => ?_) (fun g1 => ?_)
  · have g2 : (vB a && vB b) = false := by cases h1 : vB a <;> cases h2 : vB b <;> simp_all
    ((conv=>whnf);repeat(refine And.intro (by omega) ?_;(conv=>whnf)))
    exact EvRet.ret (fun _ => by unfold divF; rw [g2]; rfl)
  have g2 : (vB a && vB b) = true := by cases h1 : vB a <;> cases h2 : vB b <;> simp_all
  have hb : vF b := by rw [← vB_iff]; simp only [Bool.and_eq_true] at g2; exact g2.2
  unfold vF at hb
  ((conv=>whnf);repeat(refine And.intro (by omega) ?_;(conv=>whnf)))
  refine EvIf.split (fun g3 => ?_) (fun g3 => ?_)
  · have g4 : b.n = 0 := of_decide_eq_true g3
    ((conv=>whnf);repeat(refine And.intro (by omega) ?_;(conv=>whnf)))
    exact EvRet.ret (fun _ => by unfold divF; rw [g2, if_pos rfl, if_pos g4]; rfl)
  have g4 : ¬ b.n = 0 := of_decide_eq_false g3
  ((conv=>whnf);repeat(refine And.intro (by omega) ?_;(conv=>whnf)))
  refine EvIf.split (fun g5 => ?_) (fun g5 => ?_)
  · have g6 : b.n < 0 := of_decide_eq_true g5
    ((conv=>whnf);repeat(refine And.intro (by omega) ?_;(conv=>whnf)))
    refine EvCall.plain Try.call74 (feS (mulF a ⟨-b.d, -b.n⟩)) rfl (fun ρ W hp => by rw [feS_den]; exact mul_s a ⟨-b.d, -b.n⟩ W) ?_
    ((conv=>whnf);repeat(refine And.intro (by omega) ?_;(conv=>whnf)))
    exact EvRet.ret (fun _ => by unfold divF; rw [g2, if_pos rfl, if_neg g4, if_pos g6]; exact feS_den _ _)
  · have g6 : ¬ b.n < 0 := of_decide_eq_false g5
    ((conv=>whnf);repeat(refine And.intro (by omega) ?_;(conv=>whnf)))
    refine EvCall.plain Try.call74 (feS (mulF a ⟨b.d, b.n⟩)) rfl (fun ρ W hp => by rw [feS_den]; exact mul_s a ⟨b.d, b.n⟩ W) ?_
    ((conv=>whnf);repeat(refine And.intro (by omega) ?_;(conv=>whnf)))
    exact EvRet.ret (fun _ => by unfold divF; rw [g2, if_pos rfl, if_neg g4, if_neg g6]; exact feS_den _ _)
def zsF (z0 z1 z2 z3 : Fq) : Nat → List Fq
  | 0 => [fr0, fr0, fr0, fr0]
  | 1 => [z0, fr0, fr0, fr0]
  | 2 => [z0, z1, fr0, fr0]
  | 3 => [z0, z1, z2, fr0]
  | _ => [z0, z1, z2, z3]
set_option maxRecDepth 10000 in
theorem cornM_s (x y : Iv) (w : World) : Con Try.prog 73 #[iV x, iV y, .func (.func 74) #[] #[]] w (Ret w (ieV (crnF mulF x y))) := by
  obtain ⟨z0, hz0⟩ : ∃ z, (mulF x.lo y.lo).1 = z := ⟨_, rfl⟩
  obtain ⟨z1, hz1⟩ : ∃ z, (mulF x.hi y.lo).1 = z := ⟨_, rfl⟩
  obtain ⟨z2, hz2⟩ : ∃ z, (mulF x.lo y.hi).1 = z := ⟨_, rfl⟩
  obtain ⟨z3, hz3⟩ : ∃ z, (mulF x.hi y.hi).1 = z := ⟨_, rfl⟩
  refine enter tabOk mixed Try.func73 rfl Try.ntmps73 Try.results73 [.a (iS x), .a (iS y), .f 74 []] (fun _ => none) [] 0 rfl rfl (hp0 _ _ _) ?_
  ((conv=>whnf);repeat(refine And.intro (by omega) ?_;(conv=>whnf)))
  refine EvLoop.inv (α := Nat) (fun i => i ≤ 4 ∧ (0 < i → (mulF x.lo y.lo).2 = 0) ∧ (1 < i → (mulF x.hi y.lo).2 = 0) ∧ (2 < i → (mulF x.lo y.hi).2 = 0) ∧ (3 < i → (mulF x.hi y.hi).2 = 0)) (fun i => 4 - i) (fun i => [(14, [], .v (.int .i64 ((i : Int)))), (2, [], .f 74 []), (3, [], .p 0 0), (4, [], .p 1 0), (6, [], .p 2 0), (7, [], .v (.int .i64 (0))), (8, [], .p 3 0)])
    (fun i => [⟨0, true, 27, 4, 1, .cs (iS x)⟩, ⟨1, true, 27, 4, 1, .cs (iS y)⟩, ⟨2, true, 27, 4, 1, .cs (iS iv0)⟩, ⟨3, true, 105, 8, 1, .rows Fq rF (zsF z0 z1 z2 z3 i)⟩]) 4 0 ⟨by omega, by omega, by omega, by omega, by omega⟩ (Sub.of [] [] rfl ?_) ?_
  · (repeat' (refine And.intro ?_ ?_)) <;> first | rfl | exact True.intro | (intro ρ; rfl) | omega
  intro i ⟨hi, h0, h1, h2, h3⟩
  have l0 : (zsF z0 z1 z2 z3 0).length = 4 := rfl
  have l1 : (zsF z0 z1 z2 z3 1).length = 4 := rfl
  have l2 : (zsF z0 z1 z2 z3 2).length = 4 := rfl
  have l3 : (zsF z0 z1 z2 z3 3).length = 4 := rfl
  have l4 : (zsF z0 z1 z2 z3 4).length = 4 := rfl
  match i, hi, h0, h1, h2, h3 with
  | 0, _, _, _, _, _ =>
    ((conv=>whnf);repeat(refine And.intro (by omega) ?_;(conv=>whnf)))
    refine EvIf.pos rfl ?_
    ((conv=>whnf);repeat(refine And.intro (by omega) ?_;(conv=>whnf)))
    refine EvDraw.meetR (.q 0 (.q 1 (.q 2 (.q 3 (.n 4 false (.n 5 false (.n 6 true (.n 7 true (.z) (.e)) (.e)) (.e)) (.n 5 false (.n 4 false (.n 6 true (.n 7 true (.z) (.e)) (.e)) (.e)) (.e))))))) [1,3] [0,1] (by kernel_rfl) (α := Unit) (fun _ => True) (fun _ => [(9, [], .v (.int .i64 (((0 : Nat) : Int)))), (10, [], .p 4 0), (11, [], .p 5 0), (14, [], .v (.int .i64 (((0 : Nat) : Int)))), (2, [], .f 74 []), (3, [], .p 0 0), (4, [], .p 1 0), (6, [], .p 2 0), (7, [], .v (.int .i64 (0))), (8, [], .p 3 0)])
      (fun _ => [⟨4, true, 25, 2, 1, .cs (fS x.lo)⟩, ⟨5, true, 25, 2, 1, .cs (fS y.lo)⟩, ⟨0, true, 27, 4, 1, .cs (iS x)⟩, ⟨1, true, 27, 4, 1, .cs (iS y)⟩, ⟨2, true, 27, 4, 1, .cs (iS iv0)⟩, ⟨3, true, 105, 8, 1, .rows Fq rF (zsF z0 z1 z2 z3 0)⟩]) 6 ?_ ?_
    · ((conv=>whnf);repeat(refine And.intro (by omega) ?_;(conv=>whnf)))
      refine And.intro ?_ ?_
      · ((conv=>whnf);(repeat(refine And.intro ?_ ?_;(focus((first|omega|exact⟨rfl,True.intro⟩|exact⟨rfl,rfl,True.intro⟩|rfl|(simp only[List.length_set];first|omega|(refine⟨?_,?_⟩<;>omega)|(refine⟨?_,?_,?_⟩<;>omega))|(intro hg;(try simp only[bB]at hg);first|omega|(refine⟨?_,?_⟩<;>omega)|(refine⟨?_,?_,?_⟩<;>first|omega|(show _<_;(try simp only[List.length_set]);omega)|exact leT rfl))|(refine⟨?_,?_⟩<;>omega)|(refine⟨?_,?_,?_⟩<;>first|omega|(show _<_;(try simp only[List.length_set]);omega)|exact leT rfl)|(simp only[show rI.d=(0:Int)from rfl];omega));done));(conv=>whnf))))
        refine Exists.intro () (And.intro trivial (Sub.of [] [] rfl ?_))
        ((repeat' (refine And.intro ?_ ?_)) <;> first | rfl | exact True.intro | omega)
      ((conv=>whnf);(repeat(refine And.intro ?_ ?_;(focus((first|omega|exact⟨rfl,True.intro⟩|exact⟨rfl,rfl,True.intro⟩|rfl|(simp only[List.length_set];first|omega|(refine⟨?_,?_⟩<;>omega)|(refine⟨?_,?_,?_⟩<;>omega))|(intro hg;(try simp only[bB]at hg);first|omega|(refine⟨?_,?_⟩<;>omega)|(refine⟨?_,?_,?_⟩<;>first|omega|(show _<_;(try simp only[List.length_set]);omega)|exact leT rfl))|(refine⟨?_,?_⟩<;>omega)|(refine⟨?_,?_,?_⟩<;>first|omega|(show _<_;(try simp only[List.length_set]);omega)|exact leT rfl)|(simp only[show rI.d=(0:Int)from rfl];omega));done));(conv=>whnf))))
      refine Exists.intro () (And.intro trivial (Sub.of [(4, 5), (5, 4)] [] rfl ?_))
      ((repeat' (refine And.intro ?_ ?_)) <;> first | rfl | exact True.intro | omega)
    intro _ _
    ((conv=>whnf);repeat(refine And.intro (by omega) ?_;(conv=>whnf)))
    refine EvIf.neg rfl ?_
    ((conv=>whnf);repeat(refine And.intro (by omega) ?_;(conv=>whnf)))
    refine EvIf.neg rfl ?_
    ((conv=>whnf);repeat(refine And.intro (by omega) ?_;(conv=>whnf)))
    refine EvCall.plain Try.call74 (feS (mulF x.lo y.lo)) rfl (fun ρ W hp => by rw [feS_den]; exact mul_s x.lo y.lo W) ?_
    ((conv=>whnf);repeat(refine And.intro (by omega) ?_;(conv=>whnf)))
    refine EvIf.split (fun g1 => ?_) (fun g1 => ?_)
    · have g2 : (mulF x.lo y.lo).2 ≠ 0 := by simpa using g1
      ((conv=>whnf);repeat(refine And.intro (by omega) ?_;(conv=>whnf)))
      exact EvRet.ret (fun _ => by unfold crnF; rw [if_pos g2]; rfl)
    have g2 : (mulF x.lo y.lo).2 = 0 := by simpa using g1
    ((conv=>whnf);repeat(refine And.intro (by omega) ?_;(conv=>whnf)))
    refine LoopI.back 1 ⟨by omega, fun _ => g2, by omega, by omega, by omega⟩ (by decide) (Sub.of [] [] rfl ?_)
    rw [← hz0]
    ((repeat' (refine And.intro ?_ ?_)) <;> first | rfl | exact True.intro | omega)
  | 1, _, c0, _, _, _ =>
    have c0 := c0 (by omega)
    ((conv=>whnf);repeat(refine And.intro (by omega) ?_;(conv=>whnf)))
    refine EvIf.pos rfl ?_
    ((conv=>whnf);repeat(refine And.intro (by omega) ?_;(conv=>whnf)))
    refine EvDraw.meetR (.q 0 (.q 1 (.q 2 (.q 3 (.n 4 false (.n 5 false (.n 6 true (.n 7 true (.z) (.e)) (.e)) (.e)) (.n 5 false (.n 4 false (.n 6 true (.n 7 true (.z) (.e)) (.e)) (.e)) (.e))))))) [1,3] [0,1] (by kernel_rfl) (α := Unit) (fun _ => True) (fun _ => [(9, [], .v (.int .i64 (((1 : Nat) : Int)))), (10, [], .p 4 0), (11, [], .p 5 0), (14, [], .v (.int .i64 (((1 : Nat) : Int)))), (2, [], .f 74 []), (3, [], .p 0 0), (4, [], .p 1 0), (6, [], .p 2 0), (7, [], .v (.int .i64 (0))), (8, [], .p 3 0)])
      (fun _ => [⟨4, true, 25, 2, 1, .cs (fS x.lo)⟩, ⟨5, true, 25, 2, 1, .cs (fS y.lo)⟩, ⟨0, true, 27, 4, 1, .cs (iS x)⟩, ⟨1, true, 27, 4, 1, .cs (iS y)⟩, ⟨2, true, 27, 4, 1, .cs (iS iv0)⟩, ⟨3, true, 105, 8, 1, .rows Fq rF (zsF z0 z1 z2 z3 1)⟩]) 6 ?_ ?_
    · ((conv=>whnf);repeat(refine And.intro (by omega) ?_;(conv=>whnf)))
      refine And.intro ?_ ?_
      · ((conv=>whnf);(repeat(refine And.intro ?_ ?_;(focus((first|omega|exact⟨rfl,True.intro⟩|exact⟨rfl,rfl,True.intro⟩|rfl|(simp only[List.length_set];first|omega|(refine⟨?_,?_⟩<;>omega)|(refine⟨?_,?_,?_⟩<;>omega))|(intro hg;(try simp only[bB]at hg);first|omega|(refine⟨?_,?_⟩<;>omega)|(refine⟨?_,?_,?_⟩<;>first|omega|(show _<_;(try simp only[List.length_set]);omega)|exact leT rfl))|(refine⟨?_,?_⟩<;>omega)|(refine⟨?_,?_,?_⟩<;>first|omega|(show _<_;(try simp only[List.length_set]);omega)|exact leT rfl)|(simp only[show rI.d=(0:Int)from rfl];omega));done));(conv=>whnf))))
        refine Exists.intro () (And.intro trivial (Sub.of [] [] rfl ?_))
        ((repeat' (refine And.intro ?_ ?_)) <;> first | rfl | exact True.intro | omega)
      ((conv=>whnf);(repeat(refine And.intro ?_ ?_;(focus((first|omega|exact⟨rfl,True.intro⟩|exact⟨rfl,rfl,True.intro⟩|rfl|(simp only[List.length_set];first|omega|(refine⟨?_,?_⟩<;>omega)|(refine⟨?_,?_,?_⟩<;>omega))|(intro hg;(try simp only[bB]at hg);first|omega|(refine⟨?_,?_⟩<;>omega)|(refine⟨?_,?_,?_⟩<;>first|omega|(show _<_;(try simp only[List.length_set]);omega)|exact leT rfl))|(refine⟨?_,?_⟩<;>omega)|(refine⟨?_,?_,?_⟩<;>first|omega|(show _<_;(try simp only[List.length_set]);omega)|exact leT rfl)|(simp only[show rI.d=(0:Int)from rfl];omega));done));(conv=>whnf))))
      refine Exists.intro () (And.intro trivial (Sub.of [(4, 5), (5, 4)] [] rfl ?_))
      ((repeat' (refine And.intro ?_ ?_)) <;> first | rfl | exact True.intro | omega)
    intro _ _
    ((conv=>whnf);repeat(refine And.intro (by omega) ?_;(conv=>whnf)))
    refine EvIf.pos rfl ?_
    ((conv=>whnf);repeat(refine And.intro (by omega) ?_;(conv=>whnf)))
    refine EvIf.neg rfl ?_
    ((conv=>whnf);repeat(refine And.intro (by omega) ?_;(conv=>whnf)))
    refine EvCall.plain Try.call74 (feS (mulF x.hi y.lo)) rfl (fun ρ W hp => by rw [feS_den]; exact mul_s x.hi y.lo W) ?_
    ((conv=>whnf);repeat(refine And.intro (by omega) ?_;(conv=>whnf)))
    refine EvIf.split (fun g1 => ?_) (fun g1 => ?_)
    · have g2 : (mulF x.hi y.lo).2 ≠ 0 := by simpa using g1
      ((conv=>whnf);repeat(refine And.intro (by omega) ?_;(conv=>whnf)))
      exact EvRet.ret (fun _ => by unfold crnF; rw [if_neg (by rw [c0]; simp), if_pos g2]; rfl)
    have g2 : (mulF x.hi y.lo).2 = 0 := by simpa using g1
    ((conv=>whnf);repeat(refine And.intro (by omega) ?_;(conv=>whnf)))
    refine LoopI.back 2 ⟨by omega, fun _ => c0, fun _ => g2, by omega, by omega⟩ (by decide) (Sub.of [] [] rfl ?_)
    rw [← hz1]
    ((repeat' (refine And.intro ?_ ?_)) <;> first | rfl | exact True.intro | omega)
  | 2, _, c0, c1, _, _ =>
    have c0 := c0 (by omega)
    have c1 := c1 (by omega)
    ((conv=>whnf);repeat(refine And.intro (by omega) ?_;(conv=>whnf)))
    refine EvIf.pos rfl ?_
    ((conv=>whnf);repeat(refine And.intro (by omega) ?_;(conv=>whnf)))
    refine EvDraw.meetR (.q 0 (.q 1 (.q 2 (.q 3 (.n 4 false (.n 5 false (.n 6 true (.n 7 true (.z) (.e)) (.e)) (.e)) (.n 5 false (.n 4 false (.n 6 true (.n 7 true (.z) (.e)) (.e)) (.e)) (.e))))))) [1,3] [0,1] (by kernel_rfl) (α := Unit) (fun _ => True) (fun _ => [(9, [], .v (.int .i64 (((2 : Nat) : Int)))), (10, [], .p 4 0), (11, [], .p 5 0), (14, [], .v (.int .i64 (((2 : Nat) : Int)))), (2, [], .f 74 []), (3, [], .p 0 0), (4, [], .p 1 0), (6, [], .p 2 0), (7, [], .v (.int .i64 (0))), (8, [], .p 3 0)])
      (fun _ => [⟨4, true, 25, 2, 1, .cs (fS x.lo)⟩, ⟨5, true, 25, 2, 1, .cs (fS y.lo)⟩, ⟨0, true, 27, 4, 1, .cs (iS x)⟩, ⟨1, true, 27, 4, 1, .cs (iS y)⟩, ⟨2, true, 27, 4, 1, .cs (iS iv0)⟩, ⟨3, true, 105, 8, 1, .rows Fq rF (zsF z0 z1 z2 z3 2)⟩]) 6 ?_ ?_
    · ((conv=>whnf);repeat(refine And.intro (by omega) ?_;(conv=>whnf)))
      refine And.intro ?_ ?_
      · ((conv=>whnf);(repeat(refine And.intro ?_ ?_;(focus((first|omega|exact⟨rfl,True.intro⟩|exact⟨rfl,rfl,True.intro⟩|rfl|(simp only[List.length_set];first|omega|(refine⟨?_,?_⟩<;>omega)|(refine⟨?_,?_,?_⟩<;>omega))|(intro hg;(try simp only[bB]at hg);first|omega|(refine⟨?_,?_⟩<;>omega)|(refine⟨?_,?_,?_⟩<;>first|omega|(show _<_;(try simp only[List.length_set]);omega)|exact leT rfl))|(refine⟨?_,?_⟩<;>omega)|(refine⟨?_,?_,?_⟩<;>first|omega|(show _<_;(try simp only[List.length_set]);omega)|exact leT rfl)|(simp only[show rI.d=(0:Int)from rfl];omega));done));(conv=>whnf))))
        refine Exists.intro () (And.intro trivial (Sub.of [] [] rfl ?_))
        ((repeat' (refine And.intro ?_ ?_)) <;> first | rfl | exact True.intro | omega)
      ((conv=>whnf);(repeat(refine And.intro ?_ ?_;(focus((first|omega|exact⟨rfl,True.intro⟩|exact⟨rfl,rfl,True.intro⟩|rfl|(simp only[List.length_set];first|omega|(refine⟨?_,?_⟩<;>omega)|(refine⟨?_,?_,?_⟩<;>omega))|(intro hg;(try simp only[bB]at hg);first|omega|(refine⟨?_,?_⟩<;>omega)|(refine⟨?_,?_,?_⟩<;>first|omega|(show _<_;(try simp only[List.length_set]);omega)|exact leT rfl))|(refine⟨?_,?_⟩<;>omega)|(refine⟨?_,?_,?_⟩<;>first|omega|(show _<_;(try simp only[List.length_set]);omega)|exact leT rfl)|(simp only[show rI.d=(0:Int)from rfl];omega));done));(conv=>whnf))))
      refine Exists.intro () (And.intro trivial (Sub.of [(4, 5), (5, 4)] [] rfl ?_))
      ((repeat' (refine And.intro ?_ ?_)) <;> first | rfl | exact True.intro | omega)
    intro _ _
    ((conv=>whnf);repeat(refine And.intro (by omega) ?_;(conv=>whnf)))
    refine EvIf.neg rfl ?_
    ((conv=>whnf);repeat(refine And.intro (by omega) ?_;(conv=>whnf)))
    refine EvIf.pos rfl ?_
    ((conv=>whnf);repeat(refine And.intro (by omega) ?_;(conv=>whnf)))
    refine EvCall.plain Try.call74 (feS (mulF x.lo y.hi)) rfl (fun ρ W hp => by rw [feS_den]; exact mul_s x.lo y.hi W) ?_
    ((conv=>whnf);repeat(refine And.intro (by omega) ?_;(conv=>whnf)))
    refine EvIf.split (fun g1 => ?_) (fun g1 => ?_)
    · have g2 : (mulF x.lo y.hi).2 ≠ 0 := by simpa using g1
      ((conv=>whnf);repeat(refine And.intro (by omega) ?_;(conv=>whnf)))
      exact EvRet.ret (fun _ => by unfold crnF; rw [if_neg (by rw [c0]; simp), if_neg (by rw [c1]; simp), if_pos g2]; rfl)
    have g2 : (mulF x.lo y.hi).2 = 0 := by simpa using g1
    ((conv=>whnf);repeat(refine And.intro (by omega) ?_;(conv=>whnf)))
    refine LoopI.back 3 ⟨by omega, fun _ => c0, fun _ => c1, fun _ => g2, by omega⟩ (by decide) (Sub.of [] [] rfl ?_)
    rw [← hz2]
    ((repeat' (refine And.intro ?_ ?_)) <;> first | rfl | exact True.intro | omega)
  | 3, _, c0, c1, c2, _ =>
    have c0 := c0 (by omega)
    have c1 := c1 (by omega)
    have c2 := c2 (by omega)
    ((conv=>whnf);repeat(refine And.intro (by omega) ?_;(conv=>whnf)))
    refine EvIf.pos rfl ?_
    ((conv=>whnf);repeat(refine And.intro (by omega) ?_;(conv=>whnf)))
    refine EvDraw.meetR (.q 0 (.q 1 (.q 2 (.q 3 (.n 4 false (.n 5 false (.n 6 true (.n 7 true (.z) (.e)) (.e)) (.e)) (.n 5 false (.n 4 false (.n 6 true (.n 7 true (.z) (.e)) (.e)) (.e)) (.e))))))) [1,3] [0,1] (by kernel_rfl) (α := Unit) (fun _ => True) (fun _ => [(9, [], .v (.int .i64 (((3 : Nat) : Int)))), (10, [], .p 4 0), (11, [], .p 5 0), (14, [], .v (.int .i64 (((3 : Nat) : Int)))), (2, [], .f 74 []), (3, [], .p 0 0), (4, [], .p 1 0), (6, [], .p 2 0), (7, [], .v (.int .i64 (0))), (8, [], .p 3 0)])
      (fun _ => [⟨4, true, 25, 2, 1, .cs (fS x.lo)⟩, ⟨5, true, 25, 2, 1, .cs (fS y.lo)⟩, ⟨0, true, 27, 4, 1, .cs (iS x)⟩, ⟨1, true, 27, 4, 1, .cs (iS y)⟩, ⟨2, true, 27, 4, 1, .cs (iS iv0)⟩, ⟨3, true, 105, 8, 1, .rows Fq rF (zsF z0 z1 z2 z3 3)⟩]) 6 ?_ ?_
    · ((conv=>whnf);repeat(refine And.intro (by omega) ?_;(conv=>whnf)))
      refine And.intro ?_ ?_
      · ((conv=>whnf);(repeat(refine And.intro ?_ ?_;(focus((first|omega|exact⟨rfl,True.intro⟩|exact⟨rfl,rfl,True.intro⟩|rfl|(simp only[List.length_set];first|omega|(refine⟨?_,?_⟩<;>omega)|(refine⟨?_,?_,?_⟩<;>omega))|(intro hg;(try simp only[bB]at hg);first|omega|(refine⟨?_,?_⟩<;>omega)|(refine⟨?_,?_,?_⟩<;>first|omega|(show _<_;(try simp only[List.length_set]);omega)|exact leT rfl))|(refine⟨?_,?_⟩<;>omega)|(refine⟨?_,?_,?_⟩<;>first|omega|(show _<_;(try simp only[List.length_set]);omega)|exact leT rfl)|(simp only[show rI.d=(0:Int)from rfl];omega));done));(conv=>whnf))))
        refine Exists.intro () (And.intro trivial (Sub.of [] [] rfl ?_))
        ((repeat' (refine And.intro ?_ ?_)) <;> first | rfl | exact True.intro | omega)
      ((conv=>whnf);(repeat(refine And.intro ?_ ?_;(focus((first|omega|exact⟨rfl,True.intro⟩|exact⟨rfl,rfl,True.intro⟩|rfl|(simp only[List.length_set];first|omega|(refine⟨?_,?_⟩<;>omega)|(refine⟨?_,?_,?_⟩<;>omega))|(intro hg;(try simp only[bB]at hg);first|omega|(refine⟨?_,?_⟩<;>omega)|(refine⟨?_,?_,?_⟩<;>first|omega|(show _<_;(try simp only[List.length_set]);omega)|exact leT rfl))|(refine⟨?_,?_⟩<;>omega)|(refine⟨?_,?_,?_⟩<;>first|omega|(show _<_;(try simp only[List.length_set]);omega)|exact leT rfl)|(simp only[show rI.d=(0:Int)from rfl];omega));done));(conv=>whnf))))
      refine Exists.intro () (And.intro trivial (Sub.of [(4, 5), (5, 4)] [] rfl ?_))
      ((repeat' (refine And.intro ?_ ?_)) <;> first | rfl | exact True.intro | omega)
    intro _ _
    ((conv=>whnf);repeat(refine And.intro (by omega) ?_;(conv=>whnf)))
    refine EvIf.pos rfl ?_
    ((conv=>whnf);repeat(refine And.intro (by omega) ?_;(conv=>whnf)))
    refine EvIf.pos rfl ?_
    ((conv=>whnf);repeat(refine And.intro (by omega) ?_;(conv=>whnf)))
    refine EvCall.plain Try.call74 (feS (mulF x.hi y.hi)) rfl (fun ρ W hp => by rw [feS_den]; exact mul_s x.hi y.hi W) ?_
    ((conv=>whnf);repeat(refine And.intro (by omega) ?_;(conv=>whnf)))
    refine EvIf.split (fun g1 => ?_) (fun g1 => ?_)
    · have g2 : (mulF x.hi y.hi).2 ≠ 0 := by simpa using g1
      ((conv=>whnf);repeat(refine And.intro (by omega) ?_;(conv=>whnf)))
      exact EvRet.ret (fun _ => by unfold crnF; rw [if_neg (by rw [c0]; simp), if_neg (by rw [c1]; simp), if_neg (by rw [c2]; simp), if_pos g2]; rfl)
    have g2 : (mulF x.hi y.hi).2 = 0 := by simpa using g1
    ((conv=>whnf);repeat(refine And.intro (by omega) ?_;(conv=>whnf)))
    refine LoopI.back 4 ⟨by omega, fun _ => c0, fun _ => c1, fun _ => c2, fun _ => g2⟩ (by decide) (Sub.of [] [] rfl ?_)
    rw [← hz3]
    ((repeat' (refine And.intro ?_ ?_)) <;> first | rfl | exact True.intro | omega)
  | 4, _, c0, c1, c2, c3 =>
    have c0 := c0 (by omega)
    have c1 := c1 (by omega)
    have c2 := c2 (by omega)
    have c3 := c3 (by omega)
    have hcr : crnF mulF x y = (⟨lstF z0 [z1, z2, z3], grtF z0 [z1, z2, z3]⟩, 0) := by
      unfold crnF
      rw [if_neg (by rw [c0]; simp), if_neg (by rw [c1]; simp), if_neg (by rw [c2]; simp), if_neg (by rw [c3]; simp), hz0, hz1, hz2, hz3]
    ((conv=>whnf);repeat(refine And.intro (by omega) ?_;(conv=>whnf)))
    refine EvIf.neg rfl ?_
    ((conv=>whnf);repeat(refine And.intro (by omega) ?_;(conv=>whnf)))
    (refine EvDraw.one (.q 0 (.q 1 (.q 2 (.q 4 (.q 5 (.q 6 (.n 3 false (.n 7 true (.q 8 (.n 9 true (.q 10 (.z)) (.e))) (.e)) (.e)))))))) (by kernel_rfl) ?_)
    ((conv=>whnf);(repeat(refine And.intro ?_ ?_;(focus((first|omega|exact⟨rfl,True.intro⟩|exact⟨rfl,rfl,True.intro⟩|rfl|(simp only[List.length_set];first|omega|(refine⟨?_,?_⟩<;>omega)|(refine⟨?_,?_,?_⟩<;>omega))|(intro hg;(try simp only[bB]at hg);first|omega|(refine⟨?_,?_⟩<;>omega)|(refine⟨?_,?_,?_⟩<;>first|omega|(show _<_;(try simp only[List.length_set]);omega)|exact leT rfl))|(refine⟨?_,?_⟩<;>omega)|(refine⟨?_,?_,?_⟩<;>first|omega|(show _<_;(try simp only[List.length_set]);omega)|exact leT rfl)|(simp only[show rI.d=(0:Int)from rfl];omega));done));(conv=>whnf))))
    refine EvCall.plain Try.call65 (.a (fS (lstF z0 [z1, z2, z3]))) rfl (fun ρ W hp => by
      rw [fS_den]
      exact least_s z0 _ [z1, z2, z3] W (hp.part (R := rF) (n := 3) (xs := [z0, z1, z2, z3]) (c := 4) rfl (by decide) (by simp) (by omega) 1 4 (by omega) (by simp)) (by simp)) ?_
    ((conv=>whnf);repeat(refine And.intro (by omega) ?_;(conv=>whnf)))
    refine EvCall.plain Try.call64 (.a (fS (grtF z0 [z1, z2, z3]))) rfl (fun ρ W hp => by
      rw [fS_den]
      exact greatest_s z0 _ [z1, z2, z3] W (hp.part (R := rF) (n := 3) (xs := [z0, z1, z2, z3]) (c := 4) rfl (by decide) (by simp) (by omega) 1 4 (by omega) (by simp)) (by simp)) ?_
    ((conv=>whnf);repeat(refine And.intro (by omega) ?_;(conv=>whnf)))
    exact EvRet.ret (fun _ => by rw [hcr]; rfl)
set_option maxRecDepth 10000 in
theorem cornD_s (x y : Iv) (w : World) : Con Try.prog 73 #[iV x, iV y, .func (.func 75) #[] #[]] w (Ret w (ieV (crnF divF x y))) := by
  obtain ⟨z0, hz0⟩ : ∃ z, (divF x.lo y.lo).1 = z := ⟨_, rfl⟩
  obtain ⟨z1, hz1⟩ : ∃ z, (divF x.hi y.lo).1 = z := ⟨_, rfl⟩
  obtain ⟨z2, hz2⟩ : ∃ z, (divF x.lo y.hi).1 = z := ⟨_, rfl⟩
  obtain ⟨z3, hz3⟩ : ∃ z, (divF x.hi y.hi).1 = z := ⟨_, rfl⟩
  refine enter tabOk mixed Try.func73 rfl Try.ntmps73 Try.results73 [.a (iS x), .a (iS y), .f 75 []] (fun _ => none) [] 0 rfl rfl (hp0 _ _ _) ?_
  ((conv=>whnf);repeat(refine And.intro (by omega) ?_;(conv=>whnf)))
  refine EvLoop.inv (α := Nat) (fun i => i ≤ 4 ∧ (0 < i → (divF x.lo y.lo).2 = 0) ∧ (1 < i → (divF x.hi y.lo).2 = 0) ∧ (2 < i → (divF x.lo y.hi).2 = 0) ∧ (3 < i → (divF x.hi y.hi).2 = 0)) (fun i => 4 - i) (fun i => [(14, [], .v (.int .i64 ((i : Int)))), (2, [], .f 75 []), (3, [], .p 0 0), (4, [], .p 1 0), (6, [], .p 2 0), (7, [], .v (.int .i64 (0))), (8, [], .p 3 0)])
    (fun i => [⟨0, true, 27, 4, 1, .cs (iS x)⟩, ⟨1, true, 27, 4, 1, .cs (iS y)⟩, ⟨2, true, 27, 4, 1, .cs (iS iv0)⟩, ⟨3, true, 105, 8, 1, .rows Fq rF (zsF z0 z1 z2 z3 i)⟩]) 4 0 ⟨by omega, by omega, by omega, by omega, by omega⟩ (Sub.of [] [] rfl ?_) ?_
  · (repeat' (refine And.intro ?_ ?_)) <;> first | rfl | exact True.intro | (intro ρ; rfl) | omega
  intro i ⟨hi, h0, h1, h2, h3⟩
  have l0 : (zsF z0 z1 z2 z3 0).length = 4 := rfl
  have l1 : (zsF z0 z1 z2 z3 1).length = 4 := rfl
  have l2 : (zsF z0 z1 z2 z3 2).length = 4 := rfl
  have l3 : (zsF z0 z1 z2 z3 3).length = 4 := rfl
  have l4 : (zsF z0 z1 z2 z3 4).length = 4 := rfl
  match i, hi, h0, h1, h2, h3 with
  | 0, _, _, _, _, _ =>
    ((conv=>whnf);repeat(refine And.intro (by omega) ?_;(conv=>whnf)))
    refine EvIf.pos rfl ?_
    ((conv=>whnf);repeat(refine And.intro (by omega) ?_;(conv=>whnf)))
    refine EvDraw.meetR (.q 0 (.q 1 (.q 2 (.q 3 (.n 4 false (.n 5 false (.n 6 true (.n 7 true (.z) (.e)) (.e)) (.e)) (.n 5 false (.n 4 false (.n 6 true (.n 7 true (.z) (.e)) (.e)) (.e)) (.e))))))) [1,3] [0,1] (by kernel_rfl) (α := Unit) (fun _ => True) (fun _ => [(9, [], .v (.int .i64 (((0 : Nat) : Int)))), (10, [], .p 4 0), (11, [], .p 5 0), (14, [], .v (.int .i64 (((0 : Nat) : Int)))), (2, [], .f 75 []), (3, [], .p 0 0), (4, [], .p 1 0), (6, [], .p 2 0), (7, [], .v (.int .i64 (0))), (8, [], .p 3 0)])
      (fun _ => [⟨4, true, 25, 2, 1, .cs (fS x.lo)⟩, ⟨5, true, 25, 2, 1, .cs (fS y.lo)⟩, ⟨0, true, 27, 4, 1, .cs (iS x)⟩, ⟨1, true, 27, 4, 1, .cs (iS y)⟩, ⟨2, true, 27, 4, 1, .cs (iS iv0)⟩, ⟨3, true, 105, 8, 1, .rows Fq rF (zsF z0 z1 z2 z3 0)⟩]) 6 ?_ ?_
    · ((conv=>whnf);repeat(refine And.intro (by omega) ?_;(conv=>whnf)))
      refine And.intro ?_ ?_
      · ((conv=>whnf);(repeat(refine And.intro ?_ ?_;(focus((first|omega|exact⟨rfl,True.intro⟩|exact⟨rfl,rfl,True.intro⟩|rfl|(simp only[List.length_set];first|omega|(refine⟨?_,?_⟩<;>omega)|(refine⟨?_,?_,?_⟩<;>omega))|(intro hg;(try simp only[bB]at hg);first|omega|(refine⟨?_,?_⟩<;>omega)|(refine⟨?_,?_,?_⟩<;>first|omega|(show _<_;(try simp only[List.length_set]);omega)|exact leT rfl))|(refine⟨?_,?_⟩<;>omega)|(refine⟨?_,?_,?_⟩<;>first|omega|(show _<_;(try simp only[List.length_set]);omega)|exact leT rfl)|(simp only[show rI.d=(0:Int)from rfl];omega));done));(conv=>whnf))))
        refine Exists.intro () (And.intro trivial (Sub.of [] [] rfl ?_))
        ((repeat' (refine And.intro ?_ ?_)) <;> first | rfl | exact True.intro | omega)
      ((conv=>whnf);(repeat(refine And.intro ?_ ?_;(focus((first|omega|exact⟨rfl,True.intro⟩|exact⟨rfl,rfl,True.intro⟩|rfl|(simp only[List.length_set];first|omega|(refine⟨?_,?_⟩<;>omega)|(refine⟨?_,?_,?_⟩<;>omega))|(intro hg;(try simp only[bB]at hg);first|omega|(refine⟨?_,?_⟩<;>omega)|(refine⟨?_,?_,?_⟩<;>first|omega|(show _<_;(try simp only[List.length_set]);omega)|exact leT rfl))|(refine⟨?_,?_⟩<;>omega)|(refine⟨?_,?_,?_⟩<;>first|omega|(show _<_;(try simp only[List.length_set]);omega)|exact leT rfl)|(simp only[show rI.d=(0:Int)from rfl];omega));done));(conv=>whnf))))
      refine Exists.intro () (And.intro trivial (Sub.of [(4, 5), (5, 4)] [] rfl ?_))
      ((repeat' (refine And.intro ?_ ?_)) <;> first | rfl | exact True.intro | omega)
    intro _ _
    ((conv=>whnf);repeat(refine And.intro (by omega) ?_;(conv=>whnf)))
    refine EvIf.neg rfl ?_
    ((conv=>whnf);repeat(refine And.intro (by omega) ?_;(conv=>whnf)))
    refine EvIf.neg rfl ?_
    ((conv=>whnf);repeat(refine And.intro (by omega) ?_;(conv=>whnf)))
    refine EvCall.plain Try.call75 (feS (divF x.lo y.lo)) rfl (fun ρ W hp => by rw [feS_den]; exact div_s x.lo y.lo W) ?_
    ((conv=>whnf);repeat(refine And.intro (by omega) ?_;(conv=>whnf)))
    refine EvIf.split (fun g1 => ?_) (fun g1 => ?_)
    · have g2 : (divF x.lo y.lo).2 ≠ 0 := by simpa using g1
      ((conv=>whnf);repeat(refine And.intro (by omega) ?_;(conv=>whnf)))
      exact EvRet.ret (fun _ => by unfold crnF; rw [if_pos g2]; rfl)
    have g2 : (divF x.lo y.lo).2 = 0 := by simpa using g1
    ((conv=>whnf);repeat(refine And.intro (by omega) ?_;(conv=>whnf)))
    refine LoopI.back 1 ⟨by omega, fun _ => g2, by omega, by omega, by omega⟩ (by decide) (Sub.of [] [] rfl ?_)
    rw [← hz0]
    ((repeat' (refine And.intro ?_ ?_)) <;> first | rfl | exact True.intro | omega)
  | 1, _, c0, _, _, _ =>
    have c0 := c0 (by omega)
    ((conv=>whnf);repeat(refine And.intro (by omega) ?_;(conv=>whnf)))
    refine EvIf.pos rfl ?_
    ((conv=>whnf);repeat(refine And.intro (by omega) ?_;(conv=>whnf)))
    refine EvDraw.meetR (.q 0 (.q 1 (.q 2 (.q 3 (.n 4 false (.n 5 false (.n 6 true (.n 7 true (.z) (.e)) (.e)) (.e)) (.n 5 false (.n 4 false (.n 6 true (.n 7 true (.z) (.e)) (.e)) (.e)) (.e))))))) [1,3] [0,1] (by kernel_rfl) (α := Unit) (fun _ => True) (fun _ => [(9, [], .v (.int .i64 (((1 : Nat) : Int)))), (10, [], .p 4 0), (11, [], .p 5 0), (14, [], .v (.int .i64 (((1 : Nat) : Int)))), (2, [], .f 75 []), (3, [], .p 0 0), (4, [], .p 1 0), (6, [], .p 2 0), (7, [], .v (.int .i64 (0))), (8, [], .p 3 0)])
      (fun _ => [⟨4, true, 25, 2, 1, .cs (fS x.lo)⟩, ⟨5, true, 25, 2, 1, .cs (fS y.lo)⟩, ⟨0, true, 27, 4, 1, .cs (iS x)⟩, ⟨1, true, 27, 4, 1, .cs (iS y)⟩, ⟨2, true, 27, 4, 1, .cs (iS iv0)⟩, ⟨3, true, 105, 8, 1, .rows Fq rF (zsF z0 z1 z2 z3 1)⟩]) 6 ?_ ?_
    · ((conv=>whnf);repeat(refine And.intro (by omega) ?_;(conv=>whnf)))
      refine And.intro ?_ ?_
      · ((conv=>whnf);(repeat(refine And.intro ?_ ?_;(focus((first|omega|exact⟨rfl,True.intro⟩|exact⟨rfl,rfl,True.intro⟩|rfl|(simp only[List.length_set];first|omega|(refine⟨?_,?_⟩<;>omega)|(refine⟨?_,?_,?_⟩<;>omega))|(intro hg;(try simp only[bB]at hg);first|omega|(refine⟨?_,?_⟩<;>omega)|(refine⟨?_,?_,?_⟩<;>first|omega|(show _<_;(try simp only[List.length_set]);omega)|exact leT rfl))|(refine⟨?_,?_⟩<;>omega)|(refine⟨?_,?_,?_⟩<;>first|omega|(show _<_;(try simp only[List.length_set]);omega)|exact leT rfl)|(simp only[show rI.d=(0:Int)from rfl];omega));done));(conv=>whnf))))
        refine Exists.intro () (And.intro trivial (Sub.of [] [] rfl ?_))
        ((repeat' (refine And.intro ?_ ?_)) <;> first | rfl | exact True.intro | omega)
      ((conv=>whnf);(repeat(refine And.intro ?_ ?_;(focus((first|omega|exact⟨rfl,True.intro⟩|exact⟨rfl,rfl,True.intro⟩|rfl|(simp only[List.length_set];first|omega|(refine⟨?_,?_⟩<;>omega)|(refine⟨?_,?_,?_⟩<;>omega))|(intro hg;(try simp only[bB]at hg);first|omega|(refine⟨?_,?_⟩<;>omega)|(refine⟨?_,?_,?_⟩<;>first|omega|(show _<_;(try simp only[List.length_set]);omega)|exact leT rfl))|(refine⟨?_,?_⟩<;>omega)|(refine⟨?_,?_,?_⟩<;>first|omega|(show _<_;(try simp only[List.length_set]);omega)|exact leT rfl)|(simp only[show rI.d=(0:Int)from rfl];omega));done));(conv=>whnf))))
      refine Exists.intro () (And.intro trivial (Sub.of [(4, 5), (5, 4)] [] rfl ?_))
      ((repeat' (refine And.intro ?_ ?_)) <;> first | rfl | exact True.intro | omega)
    intro _ _
    ((conv=>whnf);repeat(refine And.intro (by omega) ?_;(conv=>whnf)))
    refine EvIf.pos rfl ?_
    ((conv=>whnf);repeat(refine And.intro (by omega) ?_;(conv=>whnf)))
    refine EvIf.neg rfl ?_
    ((conv=>whnf);repeat(refine And.intro (by omega) ?_;(conv=>whnf)))
    refine EvCall.plain Try.call75 (feS (divF x.hi y.lo)) rfl (fun ρ W hp => by rw [feS_den]; exact div_s x.hi y.lo W) ?_
    ((conv=>whnf);repeat(refine And.intro (by omega) ?_;(conv=>whnf)))
    refine EvIf.split (fun g1 => ?_) (fun g1 => ?_)
    · have g2 : (divF x.hi y.lo).2 ≠ 0 := by simpa using g1
      ((conv=>whnf);repeat(refine And.intro (by omega) ?_;(conv=>whnf)))
      exact EvRet.ret (fun _ => by unfold crnF; rw [if_neg (by rw [c0]; simp), if_pos g2]; rfl)
    have g2 : (divF x.hi y.lo).2 = 0 := by simpa using g1
    ((conv=>whnf);repeat(refine And.intro (by omega) ?_;(conv=>whnf)))
    refine LoopI.back 2 ⟨by omega, fun _ => c0, fun _ => g2, by omega, by omega⟩ (by decide) (Sub.of [] [] rfl ?_)
    rw [← hz1]
    ((repeat' (refine And.intro ?_ ?_)) <;> first | rfl | exact True.intro | omega)
  | 2, _, c0, c1, _, _ =>
    have c0 := c0 (by omega)
    have c1 := c1 (by omega)
    ((conv=>whnf);repeat(refine And.intro (by omega) ?_;(conv=>whnf)))
    refine EvIf.pos rfl ?_
    ((conv=>whnf);repeat(refine And.intro (by omega) ?_;(conv=>whnf)))
    refine EvDraw.meetR (.q 0 (.q 1 (.q 2 (.q 3 (.n 4 false (.n 5 false (.n 6 true (.n 7 true (.z) (.e)) (.e)) (.e)) (.n 5 false (.n 4 false (.n 6 true (.n 7 true (.z) (.e)) (.e)) (.e)) (.e))))))) [1,3] [0,1] (by kernel_rfl) (α := Unit) (fun _ => True) (fun _ => [(9, [], .v (.int .i64 (((2 : Nat) : Int)))), (10, [], .p 4 0), (11, [], .p 5 0), (14, [], .v (.int .i64 (((2 : Nat) : Int)))), (2, [], .f 75 []), (3, [], .p 0 0), (4, [], .p 1 0), (6, [], .p 2 0), (7, [], .v (.int .i64 (0))), (8, [], .p 3 0)])
      (fun _ => [⟨4, true, 25, 2, 1, .cs (fS x.lo)⟩, ⟨5, true, 25, 2, 1, .cs (fS y.lo)⟩, ⟨0, true, 27, 4, 1, .cs (iS x)⟩, ⟨1, true, 27, 4, 1, .cs (iS y)⟩, ⟨2, true, 27, 4, 1, .cs (iS iv0)⟩, ⟨3, true, 105, 8, 1, .rows Fq rF (zsF z0 z1 z2 z3 2)⟩]) 6 ?_ ?_
    · ((conv=>whnf);repeat(refine And.intro (by omega) ?_;(conv=>whnf)))
      refine And.intro ?_ ?_
      · ((conv=>whnf);(repeat(refine And.intro ?_ ?_;(focus((first|omega|exact⟨rfl,True.intro⟩|exact⟨rfl,rfl,True.intro⟩|rfl|(simp only[List.length_set];first|omega|(refine⟨?_,?_⟩<;>omega)|(refine⟨?_,?_,?_⟩<;>omega))|(intro hg;(try simp only[bB]at hg);first|omega|(refine⟨?_,?_⟩<;>omega)|(refine⟨?_,?_,?_⟩<;>first|omega|(show _<_;(try simp only[List.length_set]);omega)|exact leT rfl))|(refine⟨?_,?_⟩<;>omega)|(refine⟨?_,?_,?_⟩<;>first|omega|(show _<_;(try simp only[List.length_set]);omega)|exact leT rfl)|(simp only[show rI.d=(0:Int)from rfl];omega));done));(conv=>whnf))))
        refine Exists.intro () (And.intro trivial (Sub.of [] [] rfl ?_))
        ((repeat' (refine And.intro ?_ ?_)) <;> first | rfl | exact True.intro | omega)
      ((conv=>whnf);(repeat(refine And.intro ?_ ?_;(focus((first|omega|exact⟨rfl,True.intro⟩|exact⟨rfl,rfl,True.intro⟩|rfl|(simp only[List.length_set];first|omega|(refine⟨?_,?_⟩<;>omega)|(refine⟨?_,?_,?_⟩<;>omega))|(intro hg;(try simp only[bB]at hg);first|omega|(refine⟨?_,?_⟩<;>omega)|(refine⟨?_,?_,?_⟩<;>first|omega|(show _<_;(try simp only[List.length_set]);omega)|exact leT rfl))|(refine⟨?_,?_⟩<;>omega)|(refine⟨?_,?_,?_⟩<;>first|omega|(show _<_;(try simp only[List.length_set]);omega)|exact leT rfl)|(simp only[show rI.d=(0:Int)from rfl];omega));done));(conv=>whnf))))
      refine Exists.intro () (And.intro trivial (Sub.of [(4, 5), (5, 4)] [] rfl ?_))
      ((repeat' (refine And.intro ?_ ?_)) <;> first | rfl | exact True.intro | omega)
    intro _ _
    ((conv=>whnf);repeat(refine And.intro (by omega) ?_;(conv=>whnf)))
    refine EvIf.neg rfl ?_
    ((conv=>whnf);repeat(refine And.intro (by omega) ?_;(conv=>whnf)))
    refine EvIf.pos rfl ?_
    ((conv=>whnf);repeat(refine And.intro (by omega) ?_;(conv=>whnf)))
    refine EvCall.plain Try.call75 (feS (divF x.lo y.hi)) rfl (fun ρ W hp => by rw [feS_den]; exact div_s x.lo y.hi W) ?_
    ((conv=>whnf);repeat(refine And.intro (by omega) ?_;(conv=>whnf)))
    refine EvIf.split (fun g1 => ?_) (fun g1 => ?_)
    · have g2 : (divF x.lo y.hi).2 ≠ 0 := by simpa using g1
      ((conv=>whnf);repeat(refine And.intro (by omega) ?_;(conv=>whnf)))
      exact EvRet.ret (fun _ => by unfold crnF; rw [if_neg (by rw [c0]; simp), if_neg (by rw [c1]; simp), if_pos g2]; rfl)
    have g2 : (divF x.lo y.hi).2 = 0 := by simpa using g1
    ((conv=>whnf);repeat(refine And.intro (by omega) ?_;(conv=>whnf)))
    refine LoopI.back 3 ⟨by omega, fun _ => c0, fun _ => c1, fun _ => g2, by omega⟩ (by decide) (Sub.of [] [] rfl ?_)
    rw [← hz2]
    ((repeat' (refine And.intro ?_ ?_)) <;> first | rfl | exact True.intro | omega)
  | 3, _, c0, c1, c2, _ =>
    have c0 := c0 (by omega)
    have c1 := c1 (by omega)
    have c2 := c2 (by omega)
    ((conv=>whnf);repeat(refine And.intro (by omega) ?_;(conv=>whnf)))
    refine EvIf.pos rfl ?_
    ((conv=>whnf);repeat(refine And.intro (by omega) ?_;(conv=>whnf)))
    refine EvDraw.meetR (.q 0 (.q 1 (.q 2 (.q 3 (.n 4 false (.n 5 false (.n 6 true (.n 7 true (.z) (.e)) (.e)) (.e)) (.n 5 false (.n 4 false (.n 6 true (.n 7 true (.z) (.e)) (.e)) (.e)) (.e))))))) [1,3] [0,1] (by kernel_rfl) (α := Unit) (fun _ => True) (fun _ => [(9, [], .v (.int .i64 (((3 : Nat) : Int)))), (10, [], .p 4 0), (11, [], .p 5 0), (14, [], .v (.int .i64 (((3 : Nat) : Int)))), (2, [], .f 75 []), (3, [], .p 0 0), (4, [], .p 1 0), (6, [], .p 2 0), (7, [], .v (.int .i64 (0))), (8, [], .p 3 0)])
      (fun _ => [⟨4, true, 25, 2, 1, .cs (fS x.lo)⟩, ⟨5, true, 25, 2, 1, .cs (fS y.lo)⟩, ⟨0, true, 27, 4, 1, .cs (iS x)⟩, ⟨1, true, 27, 4, 1, .cs (iS y)⟩, ⟨2, true, 27, 4, 1, .cs (iS iv0)⟩, ⟨3, true, 105, 8, 1, .rows Fq rF (zsF z0 z1 z2 z3 3)⟩]) 6 ?_ ?_
    · ((conv=>whnf);repeat(refine And.intro (by omega) ?_;(conv=>whnf)))
      refine And.intro ?_ ?_
      · ((conv=>whnf);(repeat(refine And.intro ?_ ?_;(focus((first|omega|exact⟨rfl,True.intro⟩|exact⟨rfl,rfl,True.intro⟩|rfl|(simp only[List.length_set];first|omega|(refine⟨?_,?_⟩<;>omega)|(refine⟨?_,?_,?_⟩<;>omega))|(intro hg;(try simp only[bB]at hg);first|omega|(refine⟨?_,?_⟩<;>omega)|(refine⟨?_,?_,?_⟩<;>first|omega|(show _<_;(try simp only[List.length_set]);omega)|exact leT rfl))|(refine⟨?_,?_⟩<;>omega)|(refine⟨?_,?_,?_⟩<;>first|omega|(show _<_;(try simp only[List.length_set]);omega)|exact leT rfl)|(simp only[show rI.d=(0:Int)from rfl];omega));done));(conv=>whnf))))
        refine Exists.intro () (And.intro trivial (Sub.of [] [] rfl ?_))
        ((repeat' (refine And.intro ?_ ?_)) <;> first | rfl | exact True.intro | omega)
      ((conv=>whnf);(repeat(refine And.intro ?_ ?_;(focus((first|omega|exact⟨rfl,True.intro⟩|exact⟨rfl,rfl,True.intro⟩|rfl|(simp only[List.length_set];first|omega|(refine⟨?_,?_⟩<;>omega)|(refine⟨?_,?_,?_⟩<;>omega))|(intro hg;(try simp only[bB]at hg);first|omega|(refine⟨?_,?_⟩<;>omega)|(refine⟨?_,?_,?_⟩<;>first|omega|(show _<_;(try simp only[List.length_set]);omega)|exact leT rfl))|(refine⟨?_,?_⟩<;>omega)|(refine⟨?_,?_,?_⟩<;>first|omega|(show _<_;(try simp only[List.length_set]);omega)|exact leT rfl)|(simp only[show rI.d=(0:Int)from rfl];omega));done));(conv=>whnf))))
      refine Exists.intro () (And.intro trivial (Sub.of [(4, 5), (5, 4)] [] rfl ?_))
      ((repeat' (refine And.intro ?_ ?_)) <;> first | rfl | exact True.intro | omega)
    intro _ _
    ((conv=>whnf);repeat(refine And.intro (by omega) ?_;(conv=>whnf)))
    refine EvIf.pos rfl ?_
    ((conv=>whnf);repeat(refine And.intro (by omega) ?_;(conv=>whnf)))
    refine EvIf.pos rfl ?_
    ((conv=>whnf);repeat(refine And.intro (by omega) ?_;(conv=>whnf)))
    refine EvCall.plain Try.call75 (feS (divF x.hi y.hi)) rfl (fun ρ W hp => by rw [feS_den]; exact div_s x.hi y.hi W) ?_
    ((conv=>whnf);repeat(refine And.intro (by omega) ?_;(conv=>whnf)))
    refine EvIf.split (fun g1 => ?_) (fun g1 => ?_)
    · have g2 : (divF x.hi y.hi).2 ≠ 0 := by simpa using g1
      ((conv=>whnf);repeat(refine And.intro (by omega) ?_;(conv=>whnf)))
      exact EvRet.ret (fun _ => by unfold crnF; rw [if_neg (by rw [c0]; simp), if_neg (by rw [c1]; simp), if_neg (by rw [c2]; simp), if_pos g2]; rfl)
    have g2 : (divF x.hi y.hi).2 = 0 := by simpa using g1
    ((conv=>whnf);repeat(refine And.intro (by omega) ?_;(conv=>whnf)))
    refine LoopI.back 4 ⟨by omega, fun _ => c0, fun _ => c1, fun _ => c2, fun _ => g2⟩ (by decide) (Sub.of [] [] rfl ?_)
    rw [← hz3]
    ((repeat' (refine And.intro ?_ ?_)) <;> first | rfl | exact True.intro | omega)
  | 4, _, c0, c1, c2, c3 =>
    have c0 := c0 (by omega)
    have c1 := c1 (by omega)
    have c2 := c2 (by omega)
    have c3 := c3 (by omega)
    have hcr : crnF divF x y = (⟨lstF z0 [z1, z2, z3], grtF z0 [z1, z2, z3]⟩, 0) := by
      unfold crnF
      rw [if_neg (by rw [c0]; simp), if_neg (by rw [c1]; simp), if_neg (by rw [c2]; simp), if_neg (by rw [c3]; simp), hz0, hz1, hz2, hz3]
    ((conv=>whnf);repeat(refine And.intro (by omega) ?_;(conv=>whnf)))
    refine EvIf.neg rfl ?_
    ((conv=>whnf);repeat(refine And.intro (by omega) ?_;(conv=>whnf)))
    (refine EvDraw.one (.q 0 (.q 1 (.q 2 (.q 4 (.q 5 (.q 6 (.n 3 false (.n 7 true (.q 8 (.n 9 true (.q 10 (.z)) (.e))) (.e)) (.e)))))))) (by kernel_rfl) ?_)
    ((conv=>whnf);(repeat(refine And.intro ?_ ?_;(focus((first|omega|exact⟨rfl,True.intro⟩|exact⟨rfl,rfl,True.intro⟩|rfl|(simp only[List.length_set];first|omega|(refine⟨?_,?_⟩<;>omega)|(refine⟨?_,?_,?_⟩<;>omega))|(intro hg;(try simp only[bB]at hg);first|omega|(refine⟨?_,?_⟩<;>omega)|(refine⟨?_,?_,?_⟩<;>first|omega|(show _<_;(try simp only[List.length_set]);omega)|exact leT rfl))|(refine⟨?_,?_⟩<;>omega)|(refine⟨?_,?_,?_⟩<;>first|omega|(show _<_;(try simp only[List.length_set]);omega)|exact leT rfl)|(simp only[show rI.d=(0:Int)from rfl];omega));done));(conv=>whnf))))
    refine EvCall.plain Try.call65 (.a (fS (lstF z0 [z1, z2, z3]))) rfl (fun ρ W hp => by
      rw [fS_den]
      exact least_s z0 _ [z1, z2, z3] W (hp.part (R := rF) (n := 3) (xs := [z0, z1, z2, z3]) (c := 4) rfl (by decide) (by simp) (by omega) 1 4 (by omega) (by simp)) (by simp)) ?_
    ((conv=>whnf);repeat(refine And.intro (by omega) ?_;(conv=>whnf)))
    refine EvCall.plain Try.call64 (.a (fS (grtF z0 [z1, z2, z3]))) rfl (fun ρ W hp => by
      rw [fS_den]
      exact greatest_s z0 _ [z1, z2, z3] W (hp.part (R := rF) (n := 3) (xs := [z0, z1, z2, z3]) (c := 4) rfl (by decide) (by simp) (by omega) 1 4 (by omega) (by simp)) (by simp)) ?_
    ((conv=>whnf);repeat(refine And.intro (by omega) ?_;(conv=>whnf)))
    exact EvRet.ret (fun _ => by rw [hcr]; rfl)
end Go.Proofs.Ythknflclfmnciaa
