
/- Envelopes: Growth of arbitrary numbers, walked. -/
import Derived.Test.YtpnngbfmmjjnaaaFa
namespace Go.Proofs.Ytpnngbfmmjjnaaa
open Go.RowKit
set_option linter.unusedVariables false
set_option linter.unusedSimpArgs false

theorem w64_in (z : Int) (h : -9223372036854775808 ≤ z ∧ z ≤ 9223372036854775807) : IntKind.i64.wrap z = z := IntWalk.i64_in z h
def grW (a b : Env12) (i : Nat) : Int := IntKind.i64.wrap (IntKind.i64.wrap (b.hi.getD i 0 - b.lo.getD i 0) - IntKind.i64.wrap (a.hi.getD i 0 - a.lo.getD i 0))
def grM (g : Nat → Int) : Nat → Int
  | 0 => 0
  | i + 1 => if i = 0 ∨ grM g i < g i then g i else grM g i
def growthR (a b : Env12) : Int × Int := if alikeB a b = true ∧ a.lo.length ≠ 0 then (grM (grW a b) a.lo.length, 0) else (0, 1)
set_option maxRecDepth 10000 in
theorem growth_s (a b : Env12) (A1 A2 B1 B2 : Option Addr) (n1 n2 m1 m2 c1 c2 d1 d2 : Nat) (w : World) (h1 : RowsIn rI w (.slice A1 n1 c1) a.lo) (h2 : RowsIn rI w (.slice A2 n2 c2) a.hi) (h3 : RowsIn rI w (.slice B1 m1 d1) b.lo) (h4 : RowsIn rI w (.slice B2 m2 d2) b.hi) (hl : a.lo.length ≤ 2000000) :
    Con Try.prog 23 #[envV a.f (.slice A1 n1 c1) (.slice A2 n2 c2), envV b.f (.slice B1 m1 d1) (.slice B2 m2 d2)] w (Ret w (.tuple #[.int .i64 (growthR a b).1, .int .i64 (growthR a b).2])) := by
  obtain ⟨_, _, ee, e1, e2⟩ := h1.form
  simp at ee
  obtain ⟨rfl, rfl, rfl⟩ := ee
  obtain ⟨_, _, ee, e3, e4⟩ := h2.form
  simp at ee
  obtain ⟨rfl, rfl, rfl⟩ := ee
  obtain ⟨_, _, ee, e5, e6⟩ := h3.form
  simp at ee
  obtain ⟨rfl, rfl, rfl⟩ := ee
  obtain ⟨_, _, ee, e7, e8⟩ := h4.form
  simp at ee
  obtain ⟨rfl, rfl, rfl⟩ := ee
  refine enter tabOkW mixed Try.func23 rfl Try.ntmps23 Try.results23 [.a [.v (.int .i64 a.f), .s 0 1 a.lo.length c1, .s 1 1 a.hi.length c2], .a [.v (.int .i64 b.f), .s 2 1 b.lo.length d1, .s 3 1 b.hi.length d2]] (fun n => if n = 0 then A1 else if n = 1 then A2 else if n = 2 then B1 else B2) [⟨3, false, 3, 1, d2, .rows Int rI (b.hi)⟩, ⟨2, false, 3, 1, d1, .rows Int rI (b.lo)⟩, ⟨1, false, 3, 1, c2, .rows Int rI (a.hi)⟩, ⟨0, false, 3, 1, c1, .rows Int rI (a.lo)⟩] 4 rfl rfl (.ro (.ro (.ro (.ro (hp0 _ _ _) _ rfl rfl rfl (ro_rows h1 rfl _)) _ rfl rfl rfl (ro_rows h2 rfl _)) _ rfl rfl rfl (ro_rows h3 rfl _)) _ rfl rfl rfl (ro_rows h4 rfl _)) ?_
  ((conv=>whnf);(repeat(refine And.intro ?_ ?_;(focus((first|omega|exact⟨rfl,True.intro⟩|exact⟨rfl,rfl,True.intro⟩|rfl|(simp only[List.length_set];first|omega|(refine⟨?_,?_⟩<;>omega)|(refine⟨?_,?_,?_⟩<;>omega))|(intro hg;(try simp only[bB]at hg);first|omega|(refine⟨?_,?_⟩<;>omega)|(refine⟨?_,?_,?_⟩<;>first|omega|(show _<_;(try simp only[List.length_set]);omega)|exact leT rfl))|(refine⟨?_,?_⟩<;>omega)|(refine⟨?_,?_,?_⟩<;>first|omega|(show _<_;(try simp only[List.length_set]);omega)|exact leT rfl)|(simp only[show rI.d=(0:Int)from rfl];omega));done));(conv=>whnf))))
  refine EvCall.plain Try.call53 (.v (.bool (alikeB a b))) rfl (fun ρ W hp => alike_s a b _ _ _ _ _ _ _ _ W) ?_
  ((conv=>whnf);(repeat(refine And.intro ?_ ?_;(focus((first|omega|exact⟨rfl,True.intro⟩|exact⟨rfl,rfl,True.intro⟩|rfl|(simp only[List.length_set];first|omega|(refine⟨?_,?_⟩<;>omega)|(refine⟨?_,?_,?_⟩<;>omega))|(intro hg;(try simp only[bB]at hg);first|omega|(refine⟨?_,?_⟩<;>omega)|(refine⟨?_,?_,?_⟩<;>first|omega|(show _<_;(try simp only[List.length_set]);omega)|exact leT rfl))|(refine⟨?_,?_⟩<;>omega)|(refine⟨?_,?_,?_⟩<;>first|omega|(show _<_;(try simp only[List.length_set]);omega)|exact leT rfl)|(simp only[show rI.d=(0:Int)from rfl];omega));done));(conv=>whnf))))
  refine EvIf.split (fun g => ?_) (fun g => ?_)
  · have hr : growthR a b = (0, 1) := if_neg (fun h => by
      rw [h.1] at g
      have h2 := h.2
      simp only [Bool.not_true, Bool.false_or, decide_eq_true_eq] at g
      omega)
    rw [hr]
    ((conv=>whnf);(repeat(refine And.intro ?_ ?_;(focus((first|omega|exact⟨rfl,True.intro⟩|exact⟨rfl,rfl,True.intro⟩|rfl|(simp only[List.length_set];first|omega|(refine⟨?_,?_⟩<;>omega)|(refine⟨?_,?_,?_⟩<;>omega))|(intro hg;(try simp only[bB]at hg);first|omega|(refine⟨?_,?_⟩<;>omega)|(refine⟨?_,?_,?_⟩<;>first|omega|(show _<_;(try simp only[List.length_set]);omega)|exact leT rfl))|(refine⟨?_,?_⟩<;>omega)|(refine⟨?_,?_,?_⟩<;>first|omega|(show _<_;(try simp only[List.length_set]);omega)|exact leT rfl)|(simp only[show rI.d=(0:Int)from rfl];omega));done));(conv=>whnf))))
    exact EvRet.ret (fun _ => rfl)
  have g0 : alikeB a b = true ∧ a.lo.length ≠ 0 := by
    cases hh : alikeB a b with
    | false => rw [hh] at g; simp at g
    | true => rw [hh] at g; simp only [Bool.not_true, Bool.false_or, decide_eq_false_iff_not] at g; exact ⟨rfl, fun h => g (by omega)⟩
  have hr : growthR a b = (grM (grW a b) a.lo.length, 0) := if_pos g0
  rw [hr]
  have g' := g0.1
  simp only [alikeB, Bool.and_eq_true, decide_eq_true_eq] at g'
  ((conv=>whnf);(repeat(refine And.intro ?_ ?_;(focus((first|omega|exact⟨rfl,True.intro⟩|exact⟨rfl,rfl,True.intro⟩|rfl|(simp only[List.length_set];first|omega|(refine⟨?_,?_⟩<;>omega)|(refine⟨?_,?_,?_⟩<;>omega))|(intro hg;(try simp only[bB]at hg);first|omega|(refine⟨?_,?_⟩<;>omega)|(refine⟨?_,?_,?_⟩<;>first|omega|(show _<_;(try simp only[List.length_set]);omega)|exact leT rfl))|(refine⟨?_,?_⟩<;>omega)|(refine⟨?_,?_,?_⟩<;>first|omega|(show _<_;(try simp only[List.length_set]);omega)|exact leT rfl)|(simp only[show rI.d=(0:Int)from rfl];omega));done));(conv=>whnf))))
  refine EvLoop.inv (α := Nat) (fun i => i ≤ a.lo.length) (fun i => a.lo.length - i) (fun i => [(22, [], .v (.int .i64 ((i : Int)))), (21, [], .v (.int .i64 ((a.lo.length : Int)))), (6, [], .v (.int .i64 (grM (grW a b) i))), (2, [], .p 4 0), (3, [], .p 5 0)])
    (fun i => [⟨5, true, 33, 3, 1, .cs [.v (.int .i64 b.f), .s 2 1 b.lo.length d1, .s 3 1 b.hi.length d2]⟩, ⟨4, true, 33, 3, 1, .cs [.v (.int .i64 a.f), .s 0 1 a.lo.length c1, .s 1 1 a.hi.length c2]⟩, ⟨3, false, 3, 1, d2, .rows Int rI b.hi⟩, ⟨2, false, 3, 1, d1, .rows Int rI b.lo⟩, ⟨1, false, 3, 1, c2, .rows Int rI a.hi⟩, ⟨0, false, 3, 1, c1, .rows Int rI a.lo⟩]) 6 0 (by omega) (Sub.of [] [] rfl ?_) ?_
  · ((repeat' (refine And.intro ?_ ?_)) <;> first | rfl | exact True.intro | omega)
  intro i hi
  ((conv=>whnf);(repeat(refine And.intro ?_ ?_;(focus((first|omega|exact⟨rfl,True.intro⟩|exact⟨rfl,rfl,True.intro⟩|rfl|(simp only[List.length_set];first|omega|(refine⟨?_,?_⟩<;>omega)|(refine⟨?_,?_,?_⟩<;>omega))|(intro hg;(try simp only[bB]at hg);first|omega|(refine⟨?_,?_⟩<;>omega)|(refine⟨?_,?_,?_⟩<;>first|omega|(show _<_;(try simp only[List.length_set]);omega)|exact leT rfl))|(refine⟨?_,?_⟩<;>omega)|(refine⟨?_,?_,?_⟩<;>first|omega|(show _<_;(try simp only[List.length_set]);omega)|exact leT rfl)|(simp only[show rI.d=(0:Int)from rfl];omega));done));(conv=>whnf))))
  refine EvIf.split (fun g1 => ?_) (fun g1 => ?_)
  · simp only [decide_eq_true_eq] at g1
    have hw : IntKind.i64.wrap ((i : Int) + 1) = ((i + 1 : Nat) : Int) := by rw [w64_in _ (by omega)]; omega
    ((conv=>whnf);(repeat(refine And.intro ?_ ?_;(focus((first|omega|exact⟨rfl,True.intro⟩|exact⟨rfl,rfl,True.intro⟩|rfl|(simp only[List.length_set];first|omega|(refine⟨?_,?_⟩<;>omega)|(refine⟨?_,?_,?_⟩<;>omega))|(intro hg;(try simp only[bB]at hg);first|omega|(refine⟨?_,?_⟩<;>omega)|(refine⟨?_,?_,?_⟩<;>first|omega|(show _<_;(try simp only[List.length_set]);omega)|exact leT rfl))|(refine⟨?_,?_⟩<;>omega)|(refine⟨?_,?_,?_⟩<;>first|omega|(show _<_;(try simp only[List.length_set]);omega)|exact leT rfl)|(simp only[show rI.d=(0:Int)from rfl];omega));done));(conv=>whnf))))
    (refine EvDraw.one (.q 0 (.q 1 (.q 2 (.q 3 (.q 4 (.q 5 (.q 6 (.q 7 (.q 8 (.q 9 (.q 10 (.q 11 (.q 12 (.q 13 (.q 14 (.q 15 (.q 16 (.q 17 (.q 18 (.q 19 (.q 20 (.q 21 (.q 22 (.q 23 (.z))))))))))))))))))))))))) (by kernel_rfl) ?_)
    ((conv=>whnf);(repeat(refine And.intro ?_ ?_;(focus((first|omega|exact⟨rfl,True.intro⟩|exact⟨rfl,rfl,True.intro⟩|rfl|(simp only[List.length_set];first|omega|(refine⟨?_,?_⟩<;>omega)|(refine⟨?_,?_,?_⟩<;>omega))|(intro hg;(try simp only[bB]at hg);first|omega|(refine⟨?_,?_⟩<;>omega)|(refine⟨?_,?_,?_⟩<;>first|omega|(show _<_;(try simp only[List.length_set]);omega)|exact leT rfl))|(refine⟨?_,?_⟩<;>omega)|(refine⟨?_,?_,?_⟩<;>first|omega|(show _<_;(try simp only[List.length_set]);omega)|exact leT rfl)|(simp only[show rI.d=(0:Int)from rfl];omega));done));(conv=>whnf))))
    refine EvIf.split (fun g2 => ?_) (fun g2 => ?_)
    · simp only [Bool.or_eq_true, decide_eq_true_eq] at g2
      have hm : grM (grW a b) (i + 1) = grW a b i := if_pos (by
        rcases g2 with g2 | g2
        · exact .inl (by omega)
        · exact .inr g2)
      ((conv=>whnf);(repeat(refine And.intro ?_ ?_;(focus((first|omega|exact⟨rfl,True.intro⟩|exact⟨rfl,rfl,True.intro⟩|rfl|(simp only[List.length_set];first|omega|(refine⟨?_,?_⟩<;>omega)|(refine⟨?_,?_,?_⟩<;>omega))|(intro hg;(try simp only[bB]at hg);first|omega|(refine⟨?_,?_⟩<;>omega)|(refine⟨?_,?_,?_⟩<;>first|omega|(show _<_;(try simp only[List.length_set]);omega)|exact leT rfl))|(refine⟨?_,?_⟩<;>omega)|(refine⟨?_,?_,?_⟩<;>first|omega|(show _<_;(try simp only[List.length_set]);omega)|exact leT rfl)|(simp only[show rI.d=(0:Int)from rfl];omega));done));(conv=>whnf))))
      refine LoopI.back (i + 1) (by omega) (by omega) (Sub.of [] [] rfl ?_)
      (repeat' (refine And.intro ?_ ?_)) <;> first | rfl | exact True.intro | exact hw | exact hw.symm | exact hm | exact hm.symm | omega
    · simp only [Bool.or_eq_false_iff, decide_eq_false_iff_not] at g2
      have hm : grM (grW a b) (i + 1) = grM (grW a b) i := if_neg (fun h => by
        rcases h with h | h
        · exact g2.1 (by omega)
        · exact g2.2 h)
      ((conv=>whnf);(repeat(refine And.intro ?_ ?_;(focus((first|omega|exact⟨rfl,True.intro⟩|exact⟨rfl,rfl,True.intro⟩|rfl|(simp only[List.length_set];first|omega|(refine⟨?_,?_⟩<;>omega)|(refine⟨?_,?_,?_⟩<;>omega))|(intro hg;(try simp only[bB]at hg);first|omega|(refine⟨?_,?_⟩<;>omega)|(refine⟨?_,?_,?_⟩<;>first|omega|(show _<_;(try simp only[List.length_set]);omega)|exact leT rfl))|(refine⟨?_,?_⟩<;>omega)|(refine⟨?_,?_,?_⟩<;>first|omega|(show _<_;(try simp only[List.length_set]);omega)|exact leT rfl)|(simp only[show rI.d=(0:Int)from rfl];omega));done));(conv=>whnf))))
      refine LoopI.back (i + 1) (by omega) (by omega) (Sub.of [] [] rfl ?_)
      (repeat' (refine And.intro ?_ ?_)) <;> first | rfl | exact True.intro | exact hw | exact hw.symm | exact hm | exact hm.symm | omega
  · simp only [decide_eq_false_iff_not] at g1
    obtain rfl : i = a.lo.length := by omega
    ((conv=>whnf);(repeat(refine And.intro ?_ ?_;(focus((first|omega|exact⟨rfl,True.intro⟩|exact⟨rfl,rfl,True.intro⟩|rfl|(simp only[List.length_set];first|omega|(refine⟨?_,?_⟩<;>omega)|(refine⟨?_,?_,?_⟩<;>omega))|(intro hg;(try simp only[bB]at hg);first|omega|(refine⟨?_,?_⟩<;>omega)|(refine⟨?_,?_,?_⟩<;>first|omega|(show _<_;(try simp only[List.length_set]);omega)|exact leT rfl))|(refine⟨?_,?_⟩<;>omega)|(refine⟨?_,?_,?_⟩<;>first|omega|(show _<_;(try simp only[List.length_set]);omega)|exact leT rfl)|(simp only[show rI.d=(0:Int)from rfl];omega));done));(conv=>whnf))))
    exact EvRet.ret (fun _ => rfl)
end Go.Proofs.Ytpnngbfmmjjnaaa
