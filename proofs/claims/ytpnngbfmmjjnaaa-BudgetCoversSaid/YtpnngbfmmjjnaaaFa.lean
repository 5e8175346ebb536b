
/- Envelopes: alike, Within. -/
import Derived.Test.YtpnngbfmmjjnaaaEf
namespace Go.Proofs.Ytpnngbfmmjjnaaa
open Go.RowKit
set_option linter.unusedVariables false
set_option linter.unusedSimpArgs false

def alikeB (a b : Env12) : Bool := decide (a.f = b.f) && decide (a.hi.length = a.lo.length) && decide (b.lo.length = a.lo.length) && decide (b.hi.length = a.lo.length)
def withinB (a b : Env12) : Bool := alikeB a b && (List.range a.lo.length).all fun i => decide (b.lo.getD i 0 ≤ a.lo.getD i 0) && decide (a.hi.getD i 0 ≤ b.hi.getD i 0)
set_option maxRecDepth 10000 in
theorem alike_s (a b : Env12) (A1 A2 B1 B2 : Option Addr) (c1 c2 d1 d2 : Nat) (w : World) :
    Con Try.prog 53 #[envV a.f (.slice A1 a.lo.length c1) (.slice A2 a.hi.length c2), envV b.f (.slice B1 b.lo.length d1) (.slice B2 b.hi.length d2)] w (Ret w (.bool (alikeB a b))) := by
  refine enter tabOk mixed Try.func53 rfl Try.ntmps53 Try.results53 [.a [.v (.int .i64 a.f), .v (.slice A1 a.lo.length c1), .v (.slice A2 a.hi.length c2)], .a [.v (.int .i64 b.f), .v (.slice B1 b.lo.length d1), .v (.slice B2 b.hi.length d2)]] (fun _ => none) [] 0 rfl rfl (hp0 _ _ _) ?_
  ((conv=>whnf);repeat(refine And.intro (by omega) ?_;(conv=>whnf)))
  refine EvRet.ret (fun _ => ?_)
  simp only [den, alikeB, Int.natCast_inj]
set_option maxRecDepth 10000 in
theorem within_s (a b : Env12) (A1 A2 B1 B2 : Option Addr) (n1 n2 m1 m2 c1 c2 d1 d2 : Nat) (w : World) (h1 : RowsIn rI w (.slice A1 n1 c1) a.lo) (h2 : RowsIn rI w (.slice A2 n2 c2) a.hi) (h3 : RowsIn rI w (.slice B1 m1 d1) b.lo) (h4 : RowsIn rI w (.slice B2 m2 d2) b.hi) :
    Con Try.prog 37 #[envV a.f (.slice A1 n1 c1) (.slice A2 n2 c2), envV b.f (.slice B1 m1 d1) (.slice B2 m2 d2)] w (Ret w (.bool (withinB a b))) := by
  obtain ⟨_, _, ee, e1, e2⟩ := h1.form
  simp at ee
  obtain ⟨rfl, rfl, rfl⟩ := ee
  obtain ⟨_, _, ee, e3, e4⟩ := h2.form
  simp at ee
  obtain ⟨rfl, rfl, rfl⟩ := ee
  obtain ⟨_, _, ee, e5, e6⟩ := h3.form
  simp at ee
  obtain ⟨rfl, rfl, rfl⟩ := ee
  obtain ⟨_, _, ee, e7, e8⟩ := h4.form
  simp at ee
  obtain ⟨rfl, rfl, rfl⟩ := ee
  refine enter tabOk mixed Try.func37 rfl Try.ntmps37 Try.results37 [.a [.v (.int .i64 a.f), .s 0 1 a.lo.length c1, .s 1 1 a.hi.length c2], .a [.v (.int .i64 b.f), .s 2 1 b.lo.length d1, .s 3 1 b.hi.length d2]] (fun n => if n = 0 then A1 else if n = 1 then A2 else if n = 2 then B1 else B2) [⟨3, false, 3, 1, d2, .rows Int rI (b.hi)⟩, ⟨2, false, 3, 1, d1, .rows Int rI (b.lo)⟩, ⟨1, false, 3, 1, c2, .rows Int rI (a.hi)⟩, ⟨0, false, 3, 1, c1, .rows Int rI (a.lo)⟩] 4 rfl rfl (.ro (.ro (.ro (.ro (hp0 _ _ _) _ rfl rfl rfl (ro_rows h1 rfl _)) _ rfl rfl rfl (ro_rows h2 rfl _)) _ rfl rfl rfl (ro_rows h3 rfl _)) _ rfl rfl rfl (ro_rows h4 rfl _)) ?_
  ((conv=>whnf);repeat(refine And.intro (by omega) ?_;(conv=>whnf)))
  refine EvCall.plain Try.call53 (.v (.bool (alikeB a b))) rfl (fun ρ W hp => alike_s a b _ _ _ _ _ _ _ _ W) ?_
  ((conv=>whnf);repeat(refine And.intro (by omega) ?_;(conv=>whnf)))
  refine EvIf.split (fun g => ?_) (fun g => ?_)
  · simp only [Bool.not_eq_true'] at g
    ((conv=>whnf);repeat(refine And.intro (by omega) ?_;(conv=>whnf)))
    refine EvRet.ret (fun _ => ?_)
    rw [withinB, g]
    rfl
  simp only [Bool.not_eq_false'] at g
  have g' := g
  simp only [alikeB, Bool.and_eq_true, decide_eq_true_eq] at g
  ((conv=>whnf);repeat(refine And.intro (by omega) ?_;(conv=>whnf)))
  refine EvLoop.inv (α := Nat) (fun i => i ≤ a.lo.length ∧ ∀ j, j < i → b.lo.getD j 0 ≤ a.lo.getD j 0 ∧ a.hi.getD j 0 ≤ b.hi.getD j 0) (fun i => a.lo.length - i) (fun i => [(13, [], .v (.int .i64 ((i : Int)))), (12, [], .v (.int .i64 ((a.lo.length : Int)))), (2, [], .p 4 0), (3, [], .p 5 0)])
    (fun i => [⟨5, true, 33, 3, 1, .cs [.v (.int .i64 b.f), .s 2 1 b.lo.length d1, .s 3 1 b.hi.length d2]⟩, ⟨4, true, 33, 3, 1, .cs [.v (.int .i64 a.f), .s 0 1 a.lo.length c1, .s 1 1 a.hi.length c2]⟩, ⟨3, false, 3, 1, d2, .rows Int rI b.hi⟩, ⟨2, false, 3, 1, d1, .rows Int rI b.lo⟩, ⟨1, false, 3, 1, c2, .rows Int rI a.hi⟩, ⟨0, false, 3, 1, c1, .rows Int rI a.lo⟩]) 6 0 ⟨by omega, fun j hj => by omega⟩ (Sub.of [] [] rfl ?_) ?_
  · ((repeat' (refine And.intro ?_ ?_)) <;> first | rfl | exact True.intro | omega)
  intro i ⟨hi, hi2⟩
  ((conv=>whnf);repeat(refine And.intro (by omega) ?_;(conv=>whnf)))
  refine EvIf.split (fun g1 => ?_) (fun g1 => ?_)
  · simp only [decide_eq_true_eq] at g1
    ((conv=>whnf);repeat(refine And.intro (by omega) ?_;(conv=>whnf)))
    (refine EvDraw.one (.q 0 (.q 1 (.q 2 (.q 3 (.q 4 (.q 5 (.q 6 (.q 7 (.q 8 (.q 9 (.q 10 (.q 11 (.q 12 (.q 13 (.q 14 (.q 15 (.q 16 (.q 17 (.q 18 (.q 19 (.q 20 (.q 21 (.q 22 (.q 23 (.z))))))))))))))))))))))))) (by kernel_rfl) ?_)
    ((conv=>whnf);(repeat(refine And.intro ?_ ?_;(focus((first|omega|exact⟨rfl,True.intro⟩|exact⟨rfl,rfl,True.intro⟩|rfl|(simp only[List.length_set];first|omega|(refine⟨?_,?_⟩<;>omega)|(refine⟨?_,?_,?_⟩<;>omega))|(intro hg;(try simp only[bB]at hg);first|omega|(refine⟨?_,?_⟩<;>omega)|(refine⟨?_,?_,?_⟩<;>first|omega|(show _<_;(try simp only[List.length_set]);omega)|exact leT rfl))|(refine⟨?_,?_⟩<;>omega)|(refine⟨?_,?_,?_⟩<;>first|omega|(show _<_;(try simp only[List.length_set]);omega)|exact leT rfl)|(simp only[show rI.d=(0:Int)from rfl];omega));done));(conv=>whnf))))
    refine EvIf.split (fun g2 => ?_) (fun g2 => ?_)
    · simp only [Bool.or_eq_true, decide_eq_true_eq] at g2
      have g3 : a.lo.getD i 0 < b.lo.getD i 0 ∨ b.hi.getD i 0 < a.hi.getD i 0 := g2
      have hw : withinB a b = false := by
        rw [← Bool.not_eq_true]
        intro hh
        simp only [withinB, Bool.and_eq_true, List.all_eq_true, List.mem_range, decide_eq_true_eq] at hh
        have := hh.2 i (by omega)
        omega
      ((conv=>whnf);repeat(refine And.intro (by omega) ?_;(conv=>whnf)))
      refine EvRet.ret (fun _ => ?_)
      rw [hw]
      rfl
    · simp only [Bool.or_eq_false_iff, decide_eq_false_iff_not] at g2
      have g3 : ¬ a.lo.getD i 0 < b.lo.getD i 0 ∧ ¬ b.hi.getD i 0 < a.hi.getD i 0 := g2
      ((conv=>whnf);repeat(refine And.intro (by omega) ?_;(conv=>whnf)))
      refine LoopI.back (i + 1) ⟨by omega, fun j hj => ?_⟩ (by omega) (Sub.of [] [] rfl ?_)
      · by_cases hij : j = i
        · subst hij; omega
        · exact hi2 j (by omega)
      · ((repeat' (refine And.intro ?_ ?_)) <;> first | rfl | exact True.intro | omega)
  · simp only [decide_eq_false_iff_not] at g1
    have hw : withinB a b = true := by
      simp only [withinB, g', Bool.true_and, List.all_eq_true, List.mem_range, Bool.and_eq_true, decide_eq_true_eq]
      intro j hj
      exact hi2 j (by omega)
    ((conv=>whnf);repeat(refine And.intro (by omega) ?_;(conv=>whnf)))
    refine EvRet.ret (fun _ => ?_)
    rw [hw]
    rfl
end Go.Proofs.Ytpnngbfmmjjnaaa
