
/- Envelopes: the claims of an envelope. -/
import Derived.Test.YtpnngbfmmjjnaaaEn
namespace Go.Proofs.Ytpnngbfmmjjnaaa
open Go.RowKit
set_option linter.unusedVariables false
set_option linter.unusedSimpArgs false

/-- The claims of an envelope: runs of equal bounds. -/
def envC (e : Env12) : List Cl := runsG e.f (fun i => e.lo.getD i 0) (fun i => e.hi.getD i 0) (min e.lo.length e.hi.length)
set_option maxRecDepth 10000 in
theorem envclaims_s (e : Env12) (A B : Option Addr) (n1 n2 c1 c2 : Nat) (w : World) (h1 : RowsIn rI w (.slice A n1 c1) e.lo) (h2 : RowsIn rI w (.slice B n2 c2) e.hi) (hf : -1000000000 ≤ e.f ∧ e.f ≤ 1000000000) (hl : e.lo.length ≤ 1000000) :
    Con Try.prog 68 #[envV e.f (.slice A n1 c1) (.slice B n2 c2)] w (RetRows rC 62 w (envC e)) := by
  obtain ⟨A', c, ee, e1, e2⟩ := h1.form
  simp at ee
  obtain ⟨rfl, rfl, rfl⟩ := ee
  obtain ⟨B', c', ee, e3, e4⟩ := h2.form
  simp at ee
  obtain ⟨rfl, rfl, rfl⟩ := ee
  obtain ⟨N, hN⟩ : ∃ N : Nat, min e.lo.length e.hi.length = N := ⟨_, rfl⟩
  have hN' : (N : Int) = min (e.lo.length : Int) (e.hi.length : Int) := by omega
  unfold envC
  rw [hN]
  refine enter tabOk mixed Try.func68 rfl Try.ntmps68 Try.results68 [.a [.v (.int .i64 e.f), .s 0 1 e.lo.length c1, .s 1 1 e.hi.length c2]] (fun n => if n = 0 then A else B) [⟨1, false, 3, 1, c2, .rows Int rI (e.hi)⟩, ⟨0, false, 3, 1, c1, .rows Int rI (e.lo)⟩] 2 rfl rfl (.ro (.ro (hp0 _ _ _) _ rfl rfl rfl (ro_rows h1 rfl _)) _ rfl rfl rfl (ro_rows h2 rfl _)) ?_
  ((conv=>whnf);repeat(refine And.intro (by omega) ?_;(conv=>whnf)))
  refine EvCall.plain Try.call60 (.v (.int .i64 (N : Int))) rfl (fun ρ W hp => by rw [hN']; exact envlen_s e.f _ _ _ _ _ _ W) ?_
  ((conv=>whnf);repeat(refine And.intro (by omega) ?_;(conv=>whnf)))
  refine EvLoop.inv (α := Nat × List Cl × Nat) (fun p => p.1 ≤ N ∧ runsG e.f (fun i => e.lo.getD i 0) (fun i => e.hi.getD i 0) p.1 = p.2.1 ∧ p.2.1.length ≤ p.2.2 ∧ p.2.2 ≤ 9223372036854775807) (fun p => N - p.1) (fun p => [(10, [], .v (.int .i64 ((p.1 : Int)))), (9, [], .v (.int .i64 ((N : Int)))), (3, [], .s 3 4 p.2.1.length p.2.2), (1, [], .p 2 0)])
    (fun p => [⟨3, true, 62, 4, p.2.2, .rows Cl rC p.2.1⟩, ⟨2, true, 33, 3, 1, .cs [.v (.int .i64 e.f), .s 0 1 e.lo.length c1, .s 1 1 e.hi.length c2]⟩, ⟨1, false, 3, 1, c2, .rows Int rI e.hi⟩, ⟨0, false, 3, 1, c1, .rows Int rI e.lo⟩]) 4 (0, [], 0) ⟨by simp, rfl, by simp, by decide⟩ (Sub.of [] [3] rfl ?_) ?_
  · (repeat' (refine And.intro ?_ ?_)) <;> first | rfl | exact True.intro | omega | (show _ = _ ; simp)
  intro p ⟨hi1, hi3, hi4, hi5⟩
  have hrun := runs_ok e.f (fun i => e.lo.getD i 0) (fun i => e.hi.getD i 0) p.1
  rw [hi3] at hrun
  have hrl := hrun.len
  have hlst := hrun.lst
  have hrs : runsG e.f (fun i => e.lo.getD i 0) (fun i => e.hi.getD i 0) (p.1 + 1) = addR p.2.1 (e.f + p.1) (e.lo.getD p.1 0) (e.hi.getD p.1 0) := by
    simp only [runsG, hi3]
  have hxx : (p.2.1.getD (Int.toNat ((p.2.1.length : Int) - 1)) rC.d) = lastC p.2.1 := by
    show _ = p.2.1.getD (p.2.1.length - 1) cl0
    congr 1
    omega
  ((conv=>whnf);repeat(refine And.intro (by omega) ?_;(conv=>whnf)))
  refine EvIf.split (fun g1 => ?_) (fun g1 => ?_)
  · simp only [decide_eq_true_eq] at g1
    ((conv=>whnf);repeat(refine And.intro (by omega) ?_;(conv=>whnf)))
    (refine EvDraw.one (.q 0 (.q 1 (.q 2 (.q 3 (.q 4 (.q 5 (.q 6 (.q 7 (.q 8 (.q 9 (.q 10 (.q 11 (.z))))))))))))) (by kernel_rfl) ?_)
    ((conv=>whnf);(repeat(refine And.intro ?_ ?_;(focus((first|omega|exact⟨rfl,True.intro⟩|exact⟨rfl,rfl,True.intro⟩|rfl|(simp only[List.length_set];first|omega|(refine⟨?_,?_⟩<;>omega)|(refine⟨?_,?_,?_⟩<;>omega))|(intro hg;(try simp only[bB]at hg);first|omega|(refine⟨?_,?_⟩<;>omega)|(refine⟨?_,?_,?_⟩<;>first|omega|(show _<_;(try simp only[List.length_set]);omega)|exact leT rfl))|(refine⟨?_,?_⟩<;>omega)|(refine⟨?_,?_,?_⟩<;>first|omega|(show _<_;(try simp only[List.length_set]);omega)|exact leT rfl)|(simp only[show rI.d=(0:Int)from rfl];omega));done));(conv=>whnf))))
    refine EvIf.split (fun g2 => ?_) (fun g2 => ?_)
    · rw [hxx] at g2
      simp only [Bool.and_eq_true, decide_eq_true_eq] at g2
      have g3 : (lastC p.2.1).lo = e.lo.getD p.1 0 ∧ (lastC p.2.1).hi = e.hi.getD p.1 0 := ⟨g2.1.2, g2.2⟩
      have hlt := hlst (by omega)
      have hlt2 : (p.2.1.getD (Int.toNat ((p.2.1.length : Int) - 1)) rC.d).t = e.f + p.1 - 1 := by rw [hxx]; exact hlt
      have hA : addR p.2.1 (e.f + p.1) (e.lo.getD p.1 0) (e.hi.getD p.1 0) = p.2.1.set (Int.toNat ((p.2.1.length : Int) - 1)) ⟨(p.2.1.getD (Int.toNat ((p.2.1.length : Int) - 1)) rC.d).f, (p.2.1.getD (Int.toNat ((p.2.1.length : Int) - 1)) rC.d).t + 1, (p.2.1.getD (Int.toNat ((p.2.1.length : Int) - 1)) rC.d).lo, (p.2.1.getD (Int.toNat ((p.2.1.length : Int) - 1)) rC.d).hi⟩ := by
        rw [hlt2, hxx, addR, if_pos ⟨by omega, g3.1, g3.2⟩, show Int.toNat ((p.2.1.length : Int) - 1) = p.2.1.length - 1 by omega, show e.f + (p.1 : Int) - 1 + 1 = e.f + p.1 by omega]
      rw [hA] at hrs
      ((conv=>whnf);(repeat(refine And.intro ?_ ?_;(focus((first|omega|exact⟨rfl,True.intro⟩|exact⟨rfl,rfl,True.intro⟩|rfl|(simp only[List.length_set];first|omega|(refine⟨?_,?_⟩<;>omega)|(refine⟨?_,?_,?_⟩<;>omega))|(intro hg;(try simp only[bB]at hg);first|omega|(refine⟨?_,?_⟩<;>omega)|(refine⟨?_,?_,?_⟩<;>first|omega|(show _<_;(try simp only[List.length_set]);omega)|exact leT rfl))|(refine⟨?_,?_⟩<;>omega)|(refine⟨?_,?_,?_⟩<;>first|omega|(show _<_;(try simp only[List.length_set]);omega)|exact leT rfl)|(simp only[show rI.d=(0:Int)from rfl];omega));done));(conv=>whnf))))
      refine LoopI.back (p.1 + 1, _, p.2.2) ⟨by show p.1 + 1 ≤ N; omega, hrs, by simpa using hi4, hi5⟩ (by show N - (p.1 + 1) < N - p.1; omega) (Sub.of [] [] rfl ?_)
      (repeat' (refine And.intro ?_ ?_)) <;> first | rfl | exact True.intro | exact List.length_set .. | exact (List.length_set ..).symm | omega
    · rw [hxx] at g2
      simp only [Bool.and_eq_false_iff, decide_eq_false_iff_not] at g2
      have g3 : (¬ (0 : Int) < (p.2.1.length : Int) ∨ ¬ (lastC p.2.1).lo = e.lo.getD p.1 0) ∨ ¬ (lastC p.2.1).hi = e.hi.getD p.1 0 := g2
      have hA : addR p.2.1 (e.f + p.1) (e.lo.getD p.1 0) (e.hi.getD p.1 0) = p.2.1 ++ [⟨e.f + p.1, e.f + p.1, e.lo.getD p.1 0, e.hi.getD p.1 0⟩] := by
        rw [addR, if_neg]
        rintro ⟨q1, q2, q3⟩
        rcases g3 with (g3 | g3) | g3
        · omega
        · exact g3 q2
        · exact g3 q3
      rw [hA] at hrs
      ((conv=>whnf);repeat(refine And.intro (by omega) ?_;(conv=>whnf)))
      refine EvBi.append (R := rC) tyok29 rfl tyok62 rfl (by decide) rfl rfl rfl hi4 [⟨e.f + p.1, e.f + p.1, e.lo.getD p.1 0, e.hi.getD p.1 0⟩] (fun ρ W hp => hp.lit (R := rC) (ys := [⟨e.f + p.1, e.f + p.1, e.lo.getD p.1 0, e.hi.getD p.1 0⟩]) rfl (by decide) (by simp) (by omega) rfl) (by show (_ + 1) * 32 ≤ _; omega) (by show _ + 1 ≤ _; omega) (fun cap' hq1 hq2 => ?_)
      ((conv=>whnf);repeat(refine And.intro (by omega) ?_;(conv=>whnf)))
      refine LoopI.back (p.1 + 1, _, cap') ⟨by show p.1 + 1 ≤ N; omega, hrs, by simpa using hq1, hq2⟩ (by show N - (p.1 + 1) < N - p.1; omega) (Sub.of [(3, 5)] [] rfl ?_)
      (repeat' (refine And.intro ?_ ?_)) <;> first | rfl | exact True.intro | exact List.length_append .. | exact (List.length_append ..).symm | omega
  · simp only [decide_eq_false_iff_not] at g1
    obtain ⟨i, out, cp⟩ := p
    obtain rfl : i = N := by simp only at g1 hi1; omega
    simp only at hi3
    rw [hi3]
    ((conv=>whnf);repeat(refine And.intro (by omega) ?_;(conv=>whnf)))
    exact EvRet.rows (R := rC) rfl hi4 rfl rfl
end Go.Proofs.Ytpnngbfmmjjnaaa
