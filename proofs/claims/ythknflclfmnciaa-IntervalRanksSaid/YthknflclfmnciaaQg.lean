
/- Lists of fractions: the least, the greatest, sorted; walked. -/
import Derived.Test.YthknflclfmnciaaQf
import Derived.Test.YthknflclfmnciaaQm
namespace Go.Proofs.Ythknflclfmnciaa
open Go.RowKit
set_option linter.unusedVariables false
set_option linter.unusedSimpArgs false

def ofF (cs : List Value) : Option Fq :=
  match cs with
  | [.int .i64 n, .int .i64 d] => some ⟨n, d⟩
  | _ => none
theorem ofF_law (cs : List Value) (x : Fq) (h : ofF cs = some x) : [Value.int .i64 x.n, Value.int .i64 x.d] = cs := by
  unfold ofF at h
  split at h
  · simp at h
    subst h
    rfl
  · cases h
def rF : RowS Fq := { cols := [fun e => .int .i64 e.n, fun e => .int .i64 e.d], d := fr0, of := ofF, law := fun cs x h => ofF_law cs x h, one := fun x f hf => by simp at hf; rcases hf with rfl | rfl <;> rfl }
theorem lstF_take (f : Fq) (l : List Fq) (i : Nat) (h : i < l.length) : lstF f (l.take (i + 1)) = lesF (lstF f (l.take i)) (l.getD i fr0) := by
  rw [take_snoc l i fr0 h]
  simp [lstF, List.foldl_append]
theorem grtF_take (f : Fq) (l : List Fq) (i : Nat) (h : i < l.length) : grtF f (l.take (i + 1)) = greF (grtF f (l.take i)) (l.getD i fr0) := by
  rw [take_snoc l i fr0 h]
  simp [grtF, List.foldl_append]
set_option maxRecDepth 10000 in
theorem least_s (f : Fq) (v : Value) (l : List Fq) (w : World) (hv : RowsIn rF w v l) (hn : l.length ≤ 1000) : Con Try.prog 65 #[fV f, v] w (Ret w (fV (lstF f l))) := by
  obtain ⟨A1, c1, rfl, e1, e2⟩ := hv.form
  refine enter tabOk mixed Try.func65 rfl Try.ntmps65 Try.results65 [.a (fS f), .s 0 2 l.length c1] (fun _ => A1) [⟨0, false, 25, 2, c1, .rows Fq rF l⟩] 1 rfl rfl (.ro (hp0 _ _ _) _ rfl rfl rfl (ro_rows hv rfl _)) ?_
  ((conv=>whnf);(repeat(refine And.intro ?_ ?_;(focus((first|omega|exact⟨rfl,True.intro⟩|exact⟨rfl,rfl,True.intro⟩|rfl|(simp only[List.length_set];first|omega|(refine⟨?_,?_⟩<;>omega)|(refine⟨?_,?_,?_⟩<;>omega))|(intro hg;(try simp only[bB]at hg);first|omega|(refine⟨?_,?_⟩<;>omega)|(refine⟨?_,?_,?_⟩<;>first|omega|(show _<_;(try simp only[List.length_set]);omega)|exact leT rfl))|(refine⟨?_,?_⟩<;>omega)|(refine⟨?_,?_,?_⟩<;>first|omega|(show _<_;(try simp only[List.length_set]);omega)|exact leT rfl)|(simp only[show rI.d=(0:Int)from rfl];omega));done));(conv=>whnf))))
  refine EvLoop.inv (α := Nat) (fun i => i ≤ l.length) (fun i => l.length - i) (fun i => [(9, [], .v (.int .i64 ((i : Int)))), (8, [], .v (.int .i64 ((l.length : Int)))), (7, [], .s 0 2 l.length c1), (2, [], .p 1 0), (4, [], .p 2 0)])
    (fun i => [⟨1, true, 25, 2, 1, .cs (fS (lstF f (l.take i)))⟩, ⟨2, true, 25, 2, 1, .cs (fS fr0)⟩, ⟨0, false, 25, 2, c1, .rows Fq rF l⟩]) 3 0 (Nat.zero_le _) (Sub.of [] [] rfl ?_) ?_
  · ((repeat' (refine And.intro ?_ ?_)) <;> first | rfl | exact True.intro | omega)
  intro i hi
  ((conv=>whnf);(repeat(refine And.intro ?_ ?_;(focus((first|omega|exact⟨rfl,True.intro⟩|exact⟨rfl,rfl,True.intro⟩|rfl|(simp only[List.length_set];first|omega|(refine⟨?_,?_⟩<;>omega)|(refine⟨?_,?_,?_⟩<;>omega))|(intro hg;(try simp only[bB]at hg);first|omega|(refine⟨?_,?_⟩<;>omega)|(refine⟨?_,?_,?_⟩<;>first|omega|(show _<_;(try simp only[List.length_set]);omega)|exact leT rfl))|(refine⟨?_,?_⟩<;>omega)|(refine⟨?_,?_,?_⟩<;>first|omega|(show _<_;(try simp only[List.length_set]);omega)|exact leT rfl)|(simp only[show rI.d=(0:Int)from rfl];omega));done));(conv=>whnf))))
  refine EvIf.split (fun g1 => ?_) (fun g1 => ?_)
  · simp only [decide_eq_true_eq] at g1
    have hstep := lstF_take f l i (by omega)
    obtain ⟨m, hm⟩ : ∃ m, lstF f (l.take i) = m := ⟨_, rfl⟩
    rw [hm] at hstep
    rw [hm]
    ((conv=>whnf);(repeat(refine And.intro ?_ ?_;(focus((first|omega|exact⟨rfl,True.intro⟩|exact⟨rfl,rfl,True.intro⟩|rfl|(simp only[List.length_set];first|omega|(refine⟨?_,?_⟩<;>omega)|(refine⟨?_,?_,?_⟩<;>omega))|(intro hg;(try simp only[bB]at hg);first|omega|(refine⟨?_,?_⟩<;>omega)|(refine⟨?_,?_,?_⟩<;>first|omega|(show _<_;(try simp only[List.length_set]);omega)|exact leT rfl))|(refine⟨?_,?_⟩<;>omega)|(refine⟨?_,?_,?_⟩<;>first|omega|(show _<_;(try simp only[List.length_set]);omega)|exact leT rfl)|(simp only[show rI.d=(0:Int)from rfl];omega));done));(conv=>whnf))))
    refine EvCall.plain Try.call22 (.v (.int .i64 (cmpF (l.getD i fr0) m))) rfl (fun ρ W hp => compare_s (l.getD i fr0) m W) ?_
    ((conv=>whnf);(repeat(refine And.intro ?_ ?_;(focus((first|omega|exact⟨rfl,True.intro⟩|exact⟨rfl,rfl,True.intro⟩|rfl|(simp only[List.length_set];first|omega|(refine⟨?_,?_⟩<;>omega)|(refine⟨?_,?_,?_⟩<;>omega))|(intro hg;(try simp only[bB]at hg);first|omega|(refine⟨?_,?_⟩<;>omega)|(refine⟨?_,?_,?_⟩<;>first|omega|(show _<_;(try simp only[List.length_set]);omega)|exact leT rfl))|(refine⟨?_,?_⟩<;>omega)|(refine⟨?_,?_,?_⟩<;>first|omega|(show _<_;(try simp only[List.length_set]);omega)|exact leT rfl)|(simp only[show rI.d=(0:Int)from rfl];omega));done));(conv=>whnf))))
    refine EvIf.split (fun g2 => ?_) (fun g2 => ?_)
    · simp only [decide_eq_true_eq] at g2
      have hs2 : lstF f (l.take (i + 1)) = l.getD i fr0 := by rw [hstep]; unfold lesF; rw [if_pos g2]
      ((conv=>whnf);(repeat(refine And.intro ?_ ?_;(focus((first|omega|exact⟨rfl,True.intro⟩|exact⟨rfl,rfl,True.intro⟩|rfl|(simp only[List.length_set];first|omega|(refine⟨?_,?_⟩<;>omega)|(refine⟨?_,?_,?_⟩<;>omega))|(intro hg;(try simp only[bB]at hg);first|omega|(refine⟨?_,?_⟩<;>omega)|(refine⟨?_,?_,?_⟩<;>first|omega|(show _<_;(try simp only[List.length_set]);omega)|exact leT rfl))|(refine⟨?_,?_⟩<;>omega)|(refine⟨?_,?_,?_⟩<;>first|omega|(show _<_;(try simp only[List.length_set]);omega)|exact leT rfl)|(simp only[show rI.d=(0:Int)from rfl];omega));done));(conv=>whnf))))
      refine LoopI.back (i + 1) (by show i + 1 ≤ _; omega) (by show l.length - (i + 1) < l.length - i; omega) (Sub.of [] [] rfl ?_)
      rw [hs2]
      ((repeat' (refine And.intro ?_ ?_)) <;> first | rfl | exact True.intro | omega)
    · simp only [decide_eq_false_iff_not] at g2
      have hs2 : lstF f (l.take (i + 1)) = m := by rw [hstep]; unfold lesF; rw [if_neg g2]
      ((conv=>whnf);(repeat(refine And.intro ?_ ?_;(focus((first|omega|exact⟨rfl,True.intro⟩|exact⟨rfl,rfl,True.intro⟩|rfl|(simp only[List.length_set];first|omega|(refine⟨?_,?_⟩<;>omega)|(refine⟨?_,?_,?_⟩<;>omega))|(intro hg;(try simp only[bB]at hg);first|omega|(refine⟨?_,?_⟩<;>omega)|(refine⟨?_,?_,?_⟩<;>first|omega|(show _<_;(try simp only[List.length_set]);omega)|exact leT rfl))|(refine⟨?_,?_⟩<;>omega)|(refine⟨?_,?_,?_⟩<;>first|omega|(show _<_;(try simp only[List.length_set]);omega)|exact leT rfl)|(simp only[show rI.d=(0:Int)from rfl];omega));done));(conv=>whnf))))
      refine LoopI.back (i + 1) (by show i + 1 ≤ _; omega) (by show l.length - (i + 1) < l.length - i; omega) (Sub.of [] [] rfl ?_)
      rw [hs2]
      ((repeat' (refine And.intro ?_ ?_)) <;> first | rfl | exact True.intro | omega)
  · simp only [decide_eq_false_iff_not] at g1
    rw [List.take_of_length_le (by omega)]
    ((conv=>whnf);(repeat(refine And.intro ?_ ?_;(focus((first|omega|exact⟨rfl,True.intro⟩|exact⟨rfl,rfl,True.intro⟩|rfl|(simp only[List.length_set];first|omega|(refine⟨?_,?_⟩<;>omega)|(refine⟨?_,?_,?_⟩<;>omega))|(intro hg;(try simp only[bB]at hg);first|omega|(refine⟨?_,?_⟩<;>omega)|(refine⟨?_,?_,?_⟩<;>first|omega|(show _<_;(try simp only[List.length_set]);omega)|exact leT rfl))|(refine⟨?_,?_⟩<;>omega)|(refine⟨?_,?_,?_⟩<;>first|omega|(show _<_;(try simp only[List.length_set]);omega)|exact leT rfl)|(simp only[show rI.d=(0:Int)from rfl];omega));done));(conv=>whnf))))
    exact EvRet.ret (fun _ => rfl)
set_option maxRecDepth 10000 in
theorem greatest_s (f : Fq) (v : Value) (l : List Fq) (w : World) (hv : RowsIn rF w v l) (hn : l.length ≤ 1000) : Con Try.prog 64 #[fV f, v] w (Ret w (fV (grtF f l))) := by
  obtain ⟨A1, c1, rfl, e1, e2⟩ := hv.form
  refine enter tabOk mixed Try.func64 rfl Try.ntmps64 Try.results64 [.a (fS f), .s 0 2 l.length c1] (fun _ => A1) [⟨0, false, 25, 2, c1, .rows Fq rF l⟩] 1 rfl rfl (.ro (hp0 _ _ _) _ rfl rfl rfl (ro_rows hv rfl _)) ?_
  ((conv=>whnf);(repeat(refine And.intro ?_ ?_;(focus((first|omega|exact⟨rfl,True.intro⟩|exact⟨rfl,rfl,True.intro⟩|rfl|(simp only[List.length_set];first|omega|(refine⟨?_,?_⟩<;>omega)|(refine⟨?_,?_,?_⟩<;>omega))|(intro hg;(try simp only[bB]at hg);first|omega|(refine⟨?_,?_⟩<;>omega)|(refine⟨?_,?_,?_⟩<;>first|omega|(show _<_;(try simp only[List.length_set]);omega)|exact leT rfl))|(refine⟨?_,?_⟩<;>omega)|(refine⟨?_,?_,?_⟩<;>first|omega|(show _<_;(try simp only[List.length_set]);omega)|exact leT rfl)|(simp only[show rI.d=(0:Int)from rfl];omega));done));(conv=>whnf))))
  refine EvLoop.inv (α := Nat) (fun i => i ≤ l.length) (fun i => l.length - i) (fun i => [(9, [], .v (.int .i64 ((i : Int)))), (8, [], .v (.int .i64 ((l.length : Int)))), (7, [], .s 0 2 l.length c1), (2, [], .p 1 0), (4, [], .p 2 0)])
    (fun i => [⟨1, true, 25, 2, 1, .cs (fS (grtF f (l.take i)))⟩, ⟨2, true, 25, 2, 1, .cs (fS fr0)⟩, ⟨0, false, 25, 2, c1, .rows Fq rF l⟩]) 3 0 (Nat.zero_le _) (Sub.of [] [] rfl ?_) ?_
  · ((repeat' (refine And.intro ?_ ?_)) <;> first | rfl | exact True.intro | omega)
  intro i hi
  ((conv=>whnf);(repeat(refine And.intro ?_ ?_;(focus((first|omega|exact⟨rfl,True.intro⟩|exact⟨rfl,rfl,True.intro⟩|rfl|(simp only[List.length_set];first|omega|(refine⟨?_,?_⟩<;>omega)|(refine⟨?_,?_,?_⟩<;>omega))|(intro hg;(try simp only[bB]at hg);first|omega|(refine⟨?_,?_⟩<;>omega)|(refine⟨?_,?_,?_⟩<;>first|omega|(show _<_;(try simp only[List.length_set]);omega)|exact leT rfl))|(refine⟨?_,?_⟩<;>omega)|(refine⟨?_,?_,?_⟩<;>first|omega|(show _<_;(try simp only[List.length_set]);omega)|exact leT rfl)|(simp only[show rI.d=(0:Int)from rfl];omega));done));(conv=>whnf))))
  refine EvIf.split (fun g1 => ?_) (fun g1 => ?_)
  · simp only [decide_eq_true_eq] at g1
    have hstep := grtF_take f l i (by omega)
    obtain ⟨m, hm⟩ : ∃ m, grtF f (l.take i) = m := ⟨_, rfl⟩
    rw [hm] at hstep
    rw [hm]
    ((conv=>whnf);(repeat(refine And.intro ?_ ?_;(focus((first|omega|exact⟨rfl,True.intro⟩|exact⟨rfl,rfl,True.intro⟩|rfl|(simp only[List.length_set];first|omega|(refine⟨?_,?_⟩<;>omega)|(refine⟨?_,?_,?_⟩<;>omega))|(intro hg;(try simp only[bB]at hg);first|omega|(refine⟨?_,?_⟩<;>omega)|(refine⟨?_,?_,?_⟩<;>first|omega|(show _<_;(try simp only[List.length_set]);omega)|exact leT rfl))|(refine⟨?_,?_⟩<;>omega)|(refine⟨?_,?_,?_⟩<;>first|omega|(show _<_;(try simp only[List.length_set]);omega)|exact leT rfl)|(simp only[show rI.d=(0:Int)from rfl];omega));done));(conv=>whnf))))
    refine EvCall.plain Try.call22 (.v (.int .i64 (cmpF (l.getD i fr0) m))) rfl (fun ρ W hp => compare_s (l.getD i fr0) m W) ?_
    ((conv=>whnf);(repeat(refine And.intro ?_ ?_;(focus((first|omega|exact⟨rfl,True.intro⟩|exact⟨rfl,rfl,True.intro⟩|rfl|(simp only[List.length_set];first|omega|(refine⟨?_,?_⟩<;>omega)|(refine⟨?_,?_,?_⟩<;>omega))|(intro hg;(try simp only[bB]at hg);first|omega|(refine⟨?_,?_⟩<;>omega)|(refine⟨?_,?_,?_⟩<;>first|omega|(show _<_;(try simp only[List.length_set]);omega)|exact leT rfl))|(refine⟨?_,?_⟩<;>omega)|(refine⟨?_,?_,?_⟩<;>first|omega|(show _<_;(try simp only[List.length_set]);omega)|exact leT rfl)|(simp only[show rI.d=(0:Int)from rfl];omega));done));(conv=>whnf))))
    refine EvIf.split (fun g2 => ?_) (fun g2 => ?_)
    · simp only [decide_eq_true_eq] at g2
      have hs2 : grtF f (l.take (i + 1)) = l.getD i fr0 := by rw [hstep]; unfold greF; rw [if_pos g2]
      ((conv=>whnf);(repeat(refine And.intro ?_ ?_;(focus((first|omega|exact⟨rfl,True.intro⟩|exact⟨rfl,rfl,True.intro⟩|rfl|(simp only[List.length_set];first|omega|(refine⟨?_,?_⟩<;>omega)|(refine⟨?_,?_,?_⟩<;>omega))|(intro hg;(try simp only[bB]at hg);first|omega|(refine⟨?_,?_⟩<;>omega)|(refine⟨?_,?_,?_⟩<;>first|omega|(show _<_;(try simp only[List.length_set]);omega)|exact leT rfl))|(refine⟨?_,?_⟩<;>omega)|(refine⟨?_,?_,?_⟩<;>first|omega|(show _<_;(try simp only[List.length_set]);omega)|exact leT rfl)|(simp only[show rI.d=(0:Int)from rfl];omega));done));(conv=>whnf))))
      refine LoopI.back (i + 1) (by show i + 1 ≤ _; omega) (by show l.length - (i + 1) < l.length - i; omega) (Sub.of [] [] rfl ?_)
      rw [hs2]
      ((repeat' (refine And.intro ?_ ?_)) <;> first | rfl | exact True.intro | omega)
    · simp only [decide_eq_false_iff_not] at g2
      have hs2 : grtF f (l.take (i + 1)) = m := by rw [hstep]; unfold greF; rw [if_neg g2]
      ((conv=>whnf);(repeat(refine And.intro ?_ ?_;(focus((first|omega|exact⟨rfl,True.intro⟩|exact⟨rfl,rfl,True.intro⟩|rfl|(simp only[List.length_set];first|omega|(refine⟨?_,?_⟩<;>omega)|(refine⟨?_,?_,?_⟩<;>omega))|(intro hg;(try simp only[bB]at hg);first|omega|(refine⟨?_,?_⟩<;>omega)|(refine⟨?_,?_,?_⟩<;>first|omega|(show _<_;(try simp only[List.length_set]);omega)|exact leT rfl))|(refine⟨?_,?_⟩<;>omega)|(refine⟨?_,?_,?_⟩<;>first|omega|(show _<_;(try simp only[List.length_set]);omega)|exact leT rfl)|(simp only[show rI.d=(0:Int)from rfl];omega));done));(conv=>whnf))))
      refine LoopI.back (i + 1) (by show i + 1 ≤ _; omega) (by show l.length - (i + 1) < l.length - i; omega) (Sub.of [] [] rfl ?_)
      rw [hs2]
      ((repeat' (refine And.intro ?_ ?_)) <;> first | rfl | exact True.intro | omega)
  · simp only [decide_eq_false_iff_not] at g1
    rw [List.take_of_length_le (by omega)]
    ((conv=>whnf);(repeat(refine And.intro ?_ ?_;(focus((first|omega|exact⟨rfl,True.intro⟩|exact⟨rfl,rfl,True.intro⟩|rfl|(simp only[List.length_set];first|omega|(refine⟨?_,?_⟩<;>omega)|(refine⟨?_,?_,?_⟩<;>omega))|(intro hg;(try simp only[bB]at hg);first|omega|(refine⟨?_,?_⟩<;>omega)|(refine⟨?_,?_,?_⟩<;>first|omega|(show _<_;(try simp only[List.length_set]);omega)|exact leT rfl))|(refine⟨?_,?_⟩<;>omega)|(refine⟨?_,?_,?_⟩<;>first|omega|(show _<_;(try simp only[List.length_set]);omega)|exact leT rfl)|(simp only[show rI.d=(0:Int)from rfl];omega));done));(conv=>whnf))))
    exact EvRet.ret (fun _ => rfl)
end Go.Proofs.Ythknflclfmnciaa
