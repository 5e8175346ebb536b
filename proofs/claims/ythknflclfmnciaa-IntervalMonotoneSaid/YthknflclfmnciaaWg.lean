
/- The reference of fractions: sums, differences and halves of wide numbers, walked. -/
import Derived.Test.YthknflclfmnciaaWf
import Derived.Test.YthknflclfmnciaaWd
namespace Go.Proofs.Ythknflclfmnciaa
open Go.RowKit
set_option linter.unusedVariables false
set_option linter.unusedSimpArgs false

theorem nn_mod (z : Int) (h : 0 ≤ z) : z.tmod 4294967296 = z % 4294967296 := Int.tmod_eq_emod_of_nonneg h
theorem nn_div (z : Int) (h : 0 ≤ z) : z.tdiv 4294967296 = z / 4294967296 := Int.tdiv_eq_ediv_of_nonneg h
set_option maxRecDepth 10000 in
theorem plus_s (a b : List Int) (w : World) (ha : DgL a) (hb : DgL b) (la : a.length = 8) (lb : b.length = 8) (hlt : vl a + vl b < pw 8) : Con Try.prog 81 #[nV a, nV b] w (Ret w (nV (dgN 8 (vl a + vl b)))) := by
  rw [← nS_den (fun _ => none) a, ← nS_den (fun _ => none) b]
  refine enter tabOk mixed Try.func81 rfl Try.ntmps81 Try.results81 [.a (nS a), .a (nS b)] (fun _ => none) [] 0 rfl rfl (hp0 _ _ _) ?_
  ((conv=>whnf);(repeat(refine And.intro ?_ ?_;(focus((first|omega|exact⟨rfl,True.intro⟩|exact⟨rfl,rfl,True.intro⟩|rfl|(simp only[List.length_set];first|omega|(refine⟨?_,?_⟩<;>omega)|(refine⟨?_,?_,?_⟩<;>omega))|(intro hg;(try simp only[bB]at hg);first|omega|(refine⟨?_,?_⟩<;>omega)|(refine⟨?_,?_,?_⟩<;>first|omega|(show _<_;(try simp only[List.length_set]);omega)|exact leT rfl))|(refine⟨?_,?_⟩<;>omega)|(refine⟨?_,?_,?_⟩<;>first|omega|(show _<_;(try simp only[List.length_set]);omega)|exact leT rfl)|(simp only[show rI.d=(0:Int)from rfl];omega));done));(conv=>whnf))))
  refine EvLoop.inv (α := Nat × Int × List Int) (fun p => p.1 ≤ 8 ∧ PluP a b p.1 p.2.1 p.2.2) (fun p => 8 - p.1) (fun p => [(2, [], .p 0 0), (3, [], .p 1 0), (4, [], .p 2 0), (5, [], .v (.int .u64 p.2.1)), (6, [], .v (.int .i64 ((p.1 : Int))))])
    (fun p => [⟨0, true, 83, 8, 1, .rows Int rW p.2.2⟩, ⟨1, true, 83, 8, 1, .rows Int rW b⟩, ⟨2, true, 83, 8, 1, .cs (nS [0, 0, 0, 0, 0, 0, 0, 0])⟩]) 3 (0, 0, a) ⟨by omega, PluP.zero la ha⟩ (Sub.of [] [] rfl ?_) ?_
  · (repeat' (refine And.intro ?_ ?_)) <;> first | rfl | exact True.intro | exact nS_rows la | exact nS_rows lb | omega
  intro ⟨i, c, out⟩ ⟨hi, hP⟩
  simp only at hi hP
  have ol := hP.1
  have oc := hP.2.2.2
  have db := fun h => hb.at (i := i) h
  have dd := fun h => hP.2.1.at (i := i) h
  ((conv=>whnf);(repeat(refine And.intro ?_ ?_;(focus((first|omega|exact⟨rfl,True.intro⟩|exact⟨rfl,rfl,True.intro⟩|rfl|(simp only[List.length_set];first|omega|(refine⟨?_,?_⟩<;>omega)|(refine⟨?_,?_,?_⟩<;>omega))|(intro hg;(try simp only[bB]at hg);first|omega|(refine⟨?_,?_⟩<;>omega)|(refine⟨?_,?_,?_⟩<;>first|omega|(show _<_;(try simp only[List.length_set]);omega)|exact leT rfl))|(refine⟨?_,?_⟩<;>omega)|(refine⟨?_,?_,?_⟩<;>first|omega|(show _<_;(try simp only[List.length_set]);omega)|exact leT rfl)|(simp only[show rI.d=(0:Int)from rfl];omega));done));(conv=>whnf))))
  refine EvIf.split (fun g1 => ?_) (fun g1 => ?_)
  · have g2 : i < 8 := by have := of_decide_eq_true g1; omega
    have db := db (by omega)
    have dd := dd (by omega)
    have hS := hP.step ha hb la lb g2
    have r1 : IntKind.u64.wrap (IntKind.u64.wrap (c + out.getD i 0) + b.getD i 0) = c + out.getD i 0 + b.getD i 0 := by
      rw [u64_in (c + out.getD i 0) (by omega), u64_in _ (by omega)]
    have r3 : IntKind.u64.wrap ((IntKind.u64.wrap (IntKind.u64.wrap (c + out.getD i 0) + b.getD i 0)).tdiv 4294967296) = (c + out.getD i 0 + b.getD i 0) / 4294967296 := by
      rw [r1, nn_div _ (by omega), u64_in _ (by omega)]
    have r4 : (IntKind.u64.wrap (IntKind.u64.wrap (c + out.getD i 0) + b.getD i 0)).tmod 4294967296 = (c + out.getD i 0 + b.getD i 0) % 4294967296 := by
      rw [r1, nn_mod _ (by omega)]
    ((conv=>whnf);(repeat(refine And.intro ?_ ?_;(focus((first|omega|exact⟨rfl,True.intro⟩|exact⟨rfl,rfl,True.intro⟩|rfl|(simp only[List.length_set];first|omega|(refine⟨?_,?_⟩<;>omega)|(refine⟨?_,?_,?_⟩<;>omega))|(intro hg;(try simp only[bB]at hg);first|omega|(refine⟨?_,?_⟩<;>omega)|(refine⟨?_,?_,?_⟩<;>first|omega|(show _<_;(try simp only[List.length_set]);omega)|exact leT rfl))|(refine⟨?_,?_⟩<;>omega)|(refine⟨?_,?_,?_⟩<;>first|omega|(show _<_;(try simp only[List.length_set]);omega)|exact leT rfl)|(simp only[show rI.d=(0:Int)from rfl];omega));done));(conv=>whnf))))
    (refine EvDraw.one (.q 0 (.q 1 (.q 2 (.q 3 (.q 4 (.q 5 (.q 6 (.q 7 (.q 8 (.q 9 (.z))))))))))) (by kernel_rfl) ?_)
    ((conv=>whnf);(repeat(refine And.intro ?_ ?_;(focus((first|omega|exact⟨rfl,True.intro⟩|exact⟨rfl,rfl,True.intro⟩|rfl|(simp only[List.length_set];first|omega|(refine⟨?_,?_⟩<;>omega)|(refine⟨?_,?_,?_⟩<;>omega))|(intro hg;(try simp only[bB]at hg);first|omega|(refine⟨?_,?_⟩<;>omega)|(refine⟨?_,?_,?_⟩<;>first|omega|(show _<_;(try simp only[List.length_set]);omega)|exact leT rfl))|(refine⟨?_,?_⟩<;>omega)|(refine⟨?_,?_,?_⟩<;>first|omega|(show _<_;(try simp only[List.length_set]);omega)|exact leT rfl)|(simp only[show rI.d=(0:Int)from rfl];omega));done));(conv=>whnf))))
    refine LoopI.back (i + 1, (c + out.getD i 0 + b.getD i 0) / 4294967296, out.set i ((c + out.getD i 0 + b.getD i 0) % 4294967296)) ⟨by simp only; omega, hS⟩ (by simp only; omega) (Sub.of [] [] rfl ?_)
    (repeat' (refine And.intro ?_ ?_)) <;> first | rfl | exact True.intro | exact r3 | exact r3.symm | exact congrArg (fun z => Ct.rows Int rW (out.set i z)) r4 | (simp only; omega)
  · have g2 : i = 8 := by have h := of_decide_eq_false g1; simp only at h; omega
    subst g2
    have hd := hP.done la lb hlt
    ((conv=>whnf);(repeat(refine And.intro ?_ ?_;(focus((first|omega|exact⟨rfl,True.intro⟩|exact⟨rfl,rfl,True.intro⟩|rfl|(simp only[List.length_set];first|omega|(refine⟨?_,?_⟩<;>omega)|(refine⟨?_,?_,?_⟩<;>omega))|(intro hg;(try simp only[bB]at hg);first|omega|(refine⟨?_,?_⟩<;>omega)|(refine⟨?_,?_,?_⟩<;>first|omega|(show _<_;(try simp only[List.length_set]);omega)|exact leT rfl))|(refine⟨?_,?_⟩<;>omega)|(refine⟨?_,?_,?_⟩<;>first|omega|(show _<_;(try simp only[List.length_set]);omega)|exact leT rfl)|(simp only[show rI.d=(0:Int)from rfl];omega));done));(conv=>whnf))))
    refine And.intro (by show 8 ≤ out.length; omega) ?_
    ((conv=>whnf);(repeat(refine And.intro ?_ ?_;(focus((first|omega|exact⟨rfl,True.intro⟩|exact⟨rfl,rfl,True.intro⟩|rfl|(simp only[List.length_set];first|omega|(refine⟨?_,?_⟩<;>omega)|(refine⟨?_,?_,?_⟩<;>omega))|(intro hg;(try simp only[bB]at hg);first|omega|(refine⟨?_,?_⟩<;>omega)|(refine⟨?_,?_,?_⟩<;>first|omega|(show _<_;(try simp only[List.length_set]);omega)|exact leT rfl))|(refine⟨?_,?_⟩<;>omega)|(refine⟨?_,?_,?_⟩<;>first|omega|(show _<_;(try simp only[List.length_set]);omega)|exact leT rfl)|(simp only[show rI.d=(0:Int)from rfl];omega));done));(conv=>whnf))))
    exact EvRet.ret (fun ρ => by rw [← hd]; exact nS_den ρ out)
set_option maxRecDepth 10000 in
theorem minus_s (a b : List Int) (w : World) (ha : DgL a) (hb : DgL b) (la : a.length = 8) (lb : b.length = 8) (hle : vl b ≤ vl a) : Con Try.prog 83 #[nV a, nV b] w (Ret w (nV (dgN 8 (vl a - vl b)))) := by
  rw [← nS_den (fun _ => none) a, ← nS_den (fun _ => none) b]
  refine enter tabOk mixed Try.func83 rfl Try.ntmps83 Try.results83 [.a (nS a), .a (nS b)] (fun _ => none) [] 0 rfl rfl (hp0 _ _ _) ?_
  ((conv=>whnf);(repeat(refine And.intro ?_ ?_;(focus((first|omega|exact⟨rfl,True.intro⟩|exact⟨rfl,rfl,True.intro⟩|rfl|(simp only[List.length_set];first|omega|(refine⟨?_,?_⟩<;>omega)|(refine⟨?_,?_,?_⟩<;>omega))|(intro hg;(try simp only[bB]at hg);first|omega|(refine⟨?_,?_⟩<;>omega)|(refine⟨?_,?_,?_⟩<;>first|omega|(show _<_;(try simp only[List.length_set]);omega)|exact leT rfl))|(refine⟨?_,?_⟩<;>omega)|(refine⟨?_,?_,?_⟩<;>first|omega|(show _<_;(try simp only[List.length_set]);omega)|exact leT rfl)|(simp only[show rI.d=(0:Int)from rfl];omega));done));(conv=>whnf))))
  refine EvLoop.inv (α := Nat × Int × List Int) (fun p => p.1 ≤ 8 ∧ MinP a b p.1 p.2.1 p.2.2) (fun p => 8 - p.1) (fun p => [(2, [], .p 0 0), (3, [], .p 1 0), (4, [], .p 2 0), (5, [], .v (.int .u64 p.2.1)), (6, [], .v (.int .i64 ((p.1 : Int))))])
    (fun p => [⟨0, true, 83, 8, 1, .rows Int rW p.2.2⟩, ⟨1, true, 83, 8, 1, .rows Int rW b⟩, ⟨2, true, 83, 8, 1, .cs (nS [0, 0, 0, 0, 0, 0, 0, 0])⟩]) 3 (0, 0, a) ⟨by omega, MinP.zero la ha⟩ (Sub.of [] [] rfl ?_) ?_
  · (repeat' (refine And.intro ?_ ?_)) <;> first | rfl | exact True.intro | exact nS_rows la | exact nS_rows lb | omega
  intro ⟨i, c, out⟩ ⟨hi, hP⟩
  simp only at hi hP
  have ol := hP.1
  have oc := hP.2.2.2
  have db := fun h => hb.at (i := i) h
  have dd := fun h => hP.2.1.at (i := i) h
  ((conv=>whnf);(repeat(refine And.intro ?_ ?_;(focus((first|omega|exact⟨rfl,True.intro⟩|exact⟨rfl,rfl,True.intro⟩|rfl|(simp only[List.length_set];first|omega|(refine⟨?_,?_⟩<;>omega)|(refine⟨?_,?_,?_⟩<;>omega))|(intro hg;(try simp only[bB]at hg);first|omega|(refine⟨?_,?_⟩<;>omega)|(refine⟨?_,?_,?_⟩<;>first|omega|(show _<_;(try simp only[List.length_set]);omega)|exact leT rfl))|(refine⟨?_,?_⟩<;>omega)|(refine⟨?_,?_,?_⟩<;>first|omega|(show _<_;(try simp only[List.length_set]);omega)|exact leT rfl)|(simp only[show rI.d=(0:Int)from rfl];omega));done));(conv=>whnf))))
  refine EvIf.split (fun g1 => ?_) (fun g1 => ?_)
  · have g2 : i < 8 := by have := of_decide_eq_true g1; omega
    have db := db (by omega)
    have dd := dd (by omega)
    have hS := hP.step ha hb la lb g2
    have r1 : IntKind.u64.wrap (IntKind.u64.wrap (IntKind.u64.wrap (out.getD i 0 + 4294967296) - b.getD i 0) - c) = out.getD i 0 + 4294967296 - b.getD i 0 - c := by
      rw [u64_in (out.getD i 0 + 4294967296) (by omega), u64_in (out.getD i 0 + 4294967296 - b.getD i 0) (by omega), u64_in _ (by omega)]
    have r3 : IntKind.u64.wrap (1 - IntKind.u64.wrap ((IntKind.u64.wrap (IntKind.u64.wrap (IntKind.u64.wrap (out.getD i 0 + 4294967296) - b.getD i 0) - c)).tdiv 4294967296)) = 1 - (out.getD i 0 + 4294967296 - b.getD i 0 - c) / 4294967296 := by
      rw [r1, nn_div _ (by omega), u64_in ((out.getD i 0 + 4294967296 - b.getD i 0 - c) / 4294967296) (by omega), u64_in _ (by omega)]
    have r4 : (IntKind.u64.wrap (IntKind.u64.wrap (IntKind.u64.wrap (out.getD i 0 + 4294967296) - b.getD i 0) - c)).tmod 4294967296 = (out.getD i 0 + 4294967296 - b.getD i 0 - c) % 4294967296 := by
      rw [r1, nn_mod _ (by omega)]
    ((conv=>whnf);(repeat(refine And.intro ?_ ?_;(focus((first|omega|exact⟨rfl,True.intro⟩|exact⟨rfl,rfl,True.intro⟩|rfl|(simp only[List.length_set];first|omega|(refine⟨?_,?_⟩<;>omega)|(refine⟨?_,?_,?_⟩<;>omega))|(intro hg;(try simp only[bB]at hg);first|omega|(refine⟨?_,?_⟩<;>omega)|(refine⟨?_,?_,?_⟩<;>first|omega|(show _<_;(try simp only[List.length_set]);omega)|exact leT rfl))|(refine⟨?_,?_⟩<;>omega)|(refine⟨?_,?_,?_⟩<;>first|omega|(show _<_;(try simp only[List.length_set]);omega)|exact leT rfl)|(simp only[show rI.d=(0:Int)from rfl];omega));done));(conv=>whnf))))
    (refine EvDraw.one (.q 0 (.q 1 (.q 2 (.q 3 (.q 4 (.q 5 (.q 6 (.q 7 (.q 8 (.q 9 (.q 10 (.z)))))))))))) (by kernel_rfl) ?_)
    ((conv=>whnf);(repeat(refine And.intro ?_ ?_;(focus((first|omega|exact⟨rfl,True.intro⟩|exact⟨rfl,rfl,True.intro⟩|rfl|(simp only[List.length_set];first|omega|(refine⟨?_,?_⟩<;>omega)|(refine⟨?_,?_,?_⟩<;>omega))|(intro hg;(try simp only[bB]at hg);first|omega|(refine⟨?_,?_⟩<;>omega)|(refine⟨?_,?_,?_⟩<;>first|omega|(show _<_;(try simp only[List.length_set]);omega)|exact leT rfl))|(refine⟨?_,?_⟩<;>omega)|(refine⟨?_,?_,?_⟩<;>first|omega|(show _<_;(try simp only[List.length_set]);omega)|exact leT rfl)|(simp only[show rI.d=(0:Int)from rfl];omega));done));(conv=>whnf))))
    refine LoopI.back (i + 1, 1 - (out.getD i 0 + 4294967296 - b.getD i 0 - c) / 4294967296, out.set i ((out.getD i 0 + 4294967296 - b.getD i 0 - c) % 4294967296)) ⟨by simp only; omega, hS⟩ (by simp only; omega) (Sub.of [] [] rfl ?_)
    (repeat' (refine And.intro ?_ ?_)) <;> first | rfl | exact True.intro | exact r3 | exact r3.symm | exact congrArg (fun z => Ct.rows Int rW (out.set i z)) r4 | (simp only; omega)
  · have g2 : i = 8 := by have h := of_decide_eq_false g1; simp only at h; omega
    subst g2
    have hd := hP.done la lb hle
    ((conv=>whnf);(repeat(refine And.intro ?_ ?_;(focus((first|omega|exact⟨rfl,True.intro⟩|exact⟨rfl,rfl,True.intro⟩|rfl|(simp only[List.length_set];first|omega|(refine⟨?_,?_⟩<;>omega)|(refine⟨?_,?_,?_⟩<;>omega))|(intro hg;(try simp only[bB]at hg);first|omega|(refine⟨?_,?_⟩<;>omega)|(refine⟨?_,?_,?_⟩<;>first|omega|(show _<_;(try simp only[List.length_set]);omega)|exact leT rfl))|(refine⟨?_,?_⟩<;>omega)|(refine⟨?_,?_,?_⟩<;>first|omega|(show _<_;(try simp only[List.length_set]);omega)|exact leT rfl)|(simp only[show rI.d=(0:Int)from rfl];omega));done));(conv=>whnf))))
    refine And.intro (by show 8 ≤ out.length; omega) ?_
    ((conv=>whnf);(repeat(refine And.intro ?_ ?_;(focus((first|omega|exact⟨rfl,True.intro⟩|exact⟨rfl,rfl,True.intro⟩|rfl|(simp only[List.length_set];first|omega|(refine⟨?_,?_⟩<;>omega)|(refine⟨?_,?_,?_⟩<;>omega))|(intro hg;(try simp only[bB]at hg);first|omega|(refine⟨?_,?_⟩<;>omega)|(refine⟨?_,?_,?_⟩<;>first|omega|(show _<_;(try simp only[List.length_set]);omega)|exact leT rfl))|(refine⟨?_,?_⟩<;>omega)|(refine⟨?_,?_,?_⟩<;>first|omega|(show _<_;(try simp only[List.length_set]);omega)|exact leT rfl)|(simp only[show rI.d=(0:Int)from rfl];omega));done));(conv=>whnf))))
    exact EvRet.ret (fun ρ => by rw [← hd]; exact nS_den ρ out)
set_option maxRecDepth 10000 in
theorem half_s (a : List Int) (w : World) (ha : DgL a) (la : a.length = 8) : Con Try.prog 113 #[nV a] w (Ret w (nV (dgN 8 (vl a / 2)))) := by
  rw [← nS_den (fun _ => none) a]
  refine enter tabOk mixed Try.func113 rfl Try.ntmps113 Try.results113 [.a (nS a)] (fun _ => none) [] 0 rfl rfl (hp0 _ _ _) ?_
  ((conv=>whnf);(repeat(refine And.intro ?_ ?_;(focus((first|omega|exact⟨rfl,True.intro⟩|exact⟨rfl,rfl,True.intro⟩|rfl|(simp only[List.length_set];first|omega|(refine⟨?_,?_⟩<;>omega)|(refine⟨?_,?_,?_⟩<;>omega))|(intro hg;(try simp only[bB]at hg);first|omega|(refine⟨?_,?_⟩<;>omega)|(refine⟨?_,?_,?_⟩<;>first|omega|(show _<_;(try simp only[List.length_set]);omega)|exact leT rfl))|(refine⟨?_,?_⟩<;>omega)|(refine⟨?_,?_,?_⟩<;>first|omega|(show _<_;(try simp only[List.length_set]);omega)|exact leT rfl)|(simp only[show rI.d=(0:Int)from rfl];omega));done));(conv=>whnf))))
  refine EvLoop.inv (α := Nat × List Int) (fun p => p.1 ≤ 8 ∧ HalP a p.1 p.2) (fun p => 8 - p.1) (fun p => [(1, [], .p 0 0), (2, [], .p 1 0), (3, [], .v (.int .i64 ((p.1 : Int))))])
    (fun p => [⟨0, true, 83, 8, 1, .rows Int rW p.2⟩, ⟨1, true, 83, 8, 1, .cs (nS [0, 0, 0, 0, 0, 0, 0, 0])⟩]) 2 (0, a) ⟨by omega, HalP.zero la ha⟩ (Sub.of [] [] rfl ?_) ?_
  · (repeat' (refine And.intro ?_ ?_)) <;> first | rfl | exact True.intro | exact nS_rows la | omega
  intro ⟨i, out⟩ ⟨hi, hP⟩
  simp only at hi hP
  have ol := hP.1
  have dd := fun h => hP.2.1.at (i := i) h
  have de := fun h => hP.2.1.at (i := i + 1) h
  ((conv=>whnf);(repeat(refine And.intro ?_ ?_;(focus((first|omega|exact⟨rfl,True.intro⟩|exact⟨rfl,rfl,True.intro⟩|rfl|(simp only[List.length_set];first|omega|(refine⟨?_,?_⟩<;>omega)|(refine⟨?_,?_,?_⟩<;>omega))|(intro hg;(try simp only[bB]at hg);first|omega|(refine⟨?_,?_⟩<;>omega)|(refine⟨?_,?_,?_⟩<;>first|omega|(show _<_;(try simp only[List.length_set]);omega)|exact leT rfl))|(refine⟨?_,?_⟩<;>omega)|(refine⟨?_,?_,?_⟩<;>first|omega|(show _<_;(try simp only[List.length_set]);omega)|exact leT rfl)|(simp only[show rI.d=(0:Int)from rfl];omega));done));(conv=>whnf))))
  refine EvIf.split (fun g1 => ?_) (fun g1 => ?_)
  · have g2 : i < 8 := by have := of_decide_eq_true g1; omega
    have dd := dd (by omega)
    have hS := hP.step ha la g2
    have r0 : (out.getD i 0).tdiv 2 = out.getD i 0 / 2 := Int.tdiv_eq_ediv_of_nonneg dd.1
    have q1 : IntKind.u64.wrap (out.getD i 0 / 2) = out.getD i 0 / 2 := u64_in _ (by omega)
    have q2 : ∀ z, 0 ≤ z ∧ z ≤ 1 → IntKind.u64.wrap (out.getD i 0 / 2 + IntKind.u64.wrap (2147483648 * z)) = out.getD i 0 / 2 + 2147483648 * z := fun z hz => by
      rw [u64_in (2147483648 * z) (by omega), u64_in _ (by omega)]
    ((conv=>whnf);(repeat(refine And.intro ?_ ?_;(focus((first|omega|exact⟨rfl,True.intro⟩|exact⟨rfl,rfl,True.intro⟩|rfl|(simp only[List.length_set];first|omega|(refine⟨?_,?_⟩<;>omega)|(refine⟨?_,?_,?_⟩<;>omega))|(intro hg;(try simp only[bB]at hg);first|omega|(refine⟨?_,?_⟩<;>omega)|(refine⟨?_,?_,?_⟩<;>first|omega|(show _<_;(try simp only[List.length_set]);omega)|exact leT rfl))|(refine⟨?_,?_⟩<;>omega)|(refine⟨?_,?_,?_⟩<;>first|omega|(show _<_;(try simp only[List.length_set]);omega)|exact leT rfl)|(simp only[show rI.d=(0:Int)from rfl];omega));done));(conv=>whnf))))
    refine EvIf.split (fun g3 => ?_) (fun g3 => ?_)
    · have g4 : i < 7 := by have := of_decide_eq_true g3; omega
      have de := de (by omega)
      have r2 : (out.getD (i + 1) 0).tmod 2 = out.getD (i + 1) 0 % 2 := Int.tmod_eq_emod_of_nonneg de.1
      have r4 : IntKind.u64.wrap (IntKind.u64.wrap ((out.getD i 0).tdiv 2) + IntKind.u64.wrap (2147483648 * (out.getD (i + 1) 0).tmod 2)) = out.getD i 0 / 2 + 2147483648 * (out.getD (i + 1) 0 % 2) := by
        rw [r0, r2, q1, q2 _ (by omega)]
      ((conv=>whnf);(repeat(refine And.intro ?_ ?_;(focus((first|omega|exact⟨rfl,True.intro⟩|exact⟨rfl,rfl,True.intro⟩|rfl|(simp only[List.length_set];first|omega|(refine⟨?_,?_⟩<;>omega)|(refine⟨?_,?_,?_⟩<;>omega))|(intro hg;(try simp only[bB]at hg);first|omega|(refine⟨?_,?_⟩<;>omega)|(refine⟨?_,?_,?_⟩<;>first|omega|(show _<_;(try simp only[List.length_set]);omega)|exact leT rfl))|(refine⟨?_,?_⟩<;>omega)|(refine⟨?_,?_,?_⟩<;>first|omega|(show _<_;(try simp only[List.length_set]);omega)|exact leT rfl)|(simp only[show rI.d=(0:Int)from rfl];omega));done));(conv=>whnf))))
      refine LoopI.back (i + 1, out.set i (out.getD i 0 / 2 + 2147483648 * (out.getD (i + 1) 0 % 2))) ⟨by simp only; omega, hS⟩ (by simp only; omega) (Sub.of [] [] rfl ?_)
      (repeat' (refine And.intro ?_ ?_)) <;> first | rfl | exact True.intro | exact congrArg (fun z => Ct.rows Int rW (out.set i z)) r4 | (simp only; omega)
    · have g4 : i = 7 := by have := of_decide_eq_false g3; omega
      subst g4
      have e8 : out.getD (7 + 1) 0 = 0 := by simp [List.getD_eq_getElem?_getD, ol]
      rw [e8] at hS
      have r4 : IntKind.u64.wrap (IntKind.u64.wrap ((out.getD 7 0).tdiv 2) + IntKind.u64.wrap (2147483648 * 0)) = out.getD 7 0 / 2 + 2147483648 * (0 % 2) := by
        rw [r0, q1, q2 _ (by omega)]
        rfl
      ((conv=>whnf);(repeat(refine And.intro ?_ ?_;(focus((first|omega|exact⟨rfl,True.intro⟩|exact⟨rfl,rfl,True.intro⟩|rfl|(simp only[List.length_set];first|omega|(refine⟨?_,?_⟩<;>omega)|(refine⟨?_,?_,?_⟩<;>omega))|(intro hg;(try simp only[bB]at hg);first|omega|(refine⟨?_,?_⟩<;>omega)|(refine⟨?_,?_,?_⟩<;>first|omega|(show _<_;(try simp only[List.length_set]);omega)|exact leT rfl))|(refine⟨?_,?_⟩<;>omega)|(refine⟨?_,?_,?_⟩<;>first|omega|(show _<_;(try simp only[List.length_set]);omega)|exact leT rfl)|(simp only[show rI.d=(0:Int)from rfl];omega));done));(conv=>whnf))))
      refine LoopI.back (7 + 1, out.set 7 (out.getD 7 0 / 2 + 2147483648 * (0 % 2))) ⟨by simp only; omega, hS⟩ (by simp only; omega) (Sub.of [] [] rfl ?_)
      (repeat' (refine And.intro ?_ ?_)) <;> first | rfl | exact True.intro | exact congrArg (fun z => Ct.rows Int rW (out.set 7 z)) r4 | (simp only; omega)
  · have g2 : i = 8 := by have h := of_decide_eq_false g1; simp only at h; omega
    subst g2
    have hd := hP.done la
    ((conv=>whnf);(repeat(refine And.intro ?_ ?_;(focus((first|omega|exact⟨rfl,True.intro⟩|exact⟨rfl,rfl,True.intro⟩|rfl|(simp only[List.length_set];first|omega|(refine⟨?_,?_⟩<;>omega)|(refine⟨?_,?_,?_⟩<;>omega))|(intro hg;(try simp only[bB]at hg);first|omega|(refine⟨?_,?_⟩<;>omega)|(refine⟨?_,?_,?_⟩<;>first|omega|(show _<_;(try simp only[List.length_set]);omega)|exact leT rfl))|(refine⟨?_,?_⟩<;>omega)|(refine⟨?_,?_,?_⟩<;>first|omega|(show _<_;(try simp only[List.length_set]);omega)|exact leT rfl)|(simp only[show rI.d=(0:Int)from rfl];omega));done));(conv=>whnf))))
    refine And.intro (by show 8 ≤ out.length; omega) ?_
    ((conv=>whnf);(repeat(refine And.intro ?_ ?_;(focus((first|omega|exact⟨rfl,True.intro⟩|exact⟨rfl,rfl,True.intro⟩|rfl|(simp only[List.length_set];first|omega|(refine⟨?_,?_⟩<;>omega)|(refine⟨?_,?_,?_⟩<;>omega))|(intro hg;(try simp only[bB]at hg);first|omega|(refine⟨?_,?_⟩<;>omega)|(refine⟨?_,?_,?_⟩<;>first|omega|(show _<_;(try simp only[List.length_set]);omega)|exact leT rfl))|(refine⟨?_,?_⟩<;>omega)|(refine⟨?_,?_,?_⟩<;>first|omega|(show _<_;(try simp only[List.length_set]);omega)|exact leT rfl)|(simp only[show rI.d=(0:Int)from rfl];omega));done));(conv=>whnf))))
    exact EvRet.ret (fun ρ => by rw [← hd]; exact nS_den ρ out)
theorem plusN (x y : Int) (w : World) (hx : 0 ≤ x) (hy : 0 ≤ y) (h : x + y < pw 8) : Con Try.prog 81 #[nV (dgN 8 x), nV (dgN 8 y)] w (Ret w (nV (dgN 8 (x + y)))) := by
  have e1 := vl_dgN 8 x hx (by omega)
  have e2 := vl_dgN 8 y hy (by omega)
  have := plus_s (dgN 8 x) (dgN 8 y) w (dgN_dg 8 x) (dgN_dg 8 y) (dgN_len 8 x) (dgN_len 8 y) (by rw [e1, e2]; exact h)
  rw [e1, e2] at this
  exact this
theorem minusN (x y : Int) (w : World) (hx : 0 ≤ x ∧ x < pw 8) (hy : 0 ≤ y) (h : y ≤ x) : Con Try.prog 83 #[nV (dgN 8 x), nV (dgN 8 y)] w (Ret w (nV (dgN 8 (x - y)))) := by
  have e1 := vl_dgN 8 x hx.1 hx.2
  have e2 := vl_dgN 8 y hy (by omega)
  have := minus_s (dgN 8 x) (dgN 8 y) w (dgN_dg 8 x) (dgN_dg 8 y) (dgN_len 8 x) (dgN_len 8 y) (by rw [e1, e2]; exact h)
  rw [e1, e2] at this
  exact this
theorem halfN (x : Int) (w : World) (hx : 0 ≤ x ∧ x < pw 8) : Con Try.prog 113 #[nV (dgN 8 x)] w (Ret w (nV (dgN 8 (x / 2)))) := by
  have e1 := vl_dgN 8 x hx.1 hx.2
  have := half_s (dgN 8 x) w (dgN_dg 8 x) (dgN_len 8 x)
  rw [e1] at this
  exact this
end Go.Proofs.Ythknflclfmnciaa
