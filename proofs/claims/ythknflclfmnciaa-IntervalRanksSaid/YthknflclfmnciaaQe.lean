
/- The reference of fractions: wide numbers and comparing, walked. -/
import Derived.Test.YthknflclfmnciaaQd
import Derived.Test.YthknflclfmnciaaQn
namespace Go.Proofs.Ythknflclfmnciaa
open Go.RowKit
set_option linter.unusedVariables false
set_option linter.unusedSimpArgs false

def ofW (cs : List Value) : Option Int :=
  match cs with
  | [.int .u64 z] => some z
  | _ => none
theorem ofW_law (cs : List Value) (x : Int) (h : ofW cs = some x) : [Value.int .u64 x] = cs := by
  unfold ofW at h
  split at h
  · simp at h
    subst h
    rfl
  · cases h
def rW : RowS Int := { cols := [fun z => .int .u64 z], d := 0, of := ofW, law := fun cs x h => ofW_law cs x h, one := fun x f hf => by simp at hf; subst hf; rfl }
def nS (l : List Int) : List SV := [.v (.int .u64 (l.getD 0 0)), .v (.int .u64 (l.getD 1 0)), .v (.int .u64 (l.getD 2 0)), .v (.int .u64 (l.getD 3 0)), .v (.int .u64 (l.getD 4 0)), .v (.int .u64 (l.getD 5 0)), .v (.int .u64 (l.getD 6 0)), .v (.int .u64 (l.getD 7 0))]
def nV (l : List Int) : Value := .agg #[.int .u64 (l.getD 0 0), .int .u64 (l.getD 1 0), .int .u64 (l.getD 2 0), .int .u64 (l.getD 3 0), .int .u64 (l.getD 4 0), .int .u64 (l.getD 5 0), .int .u64 (l.getD 6 0), .int .u64 (l.getD 7 0)]
theorem nS_den (ρ : Rho) (l : List Int) : den ρ (.a (nS l)) = nV l := by simp [nS, nV, den, denL]
theorem eight {l : List Int} (h : l.length = 8) : ∃ a b c d e f g i, l = [a, b, c, d, e, f, g, i] := by
  match l, h with
  | [a, b, c, d, e, f, g, i], _ => exact ⟨a, b, c, d, e, f, g, i, rfl⟩
theorem nS_rows {l : List Int} (h : l.length = 8) (ρ : Rho) : denL ρ (nS l) = (Ct.rows Int rW l).cells ρ := by
  obtain ⟨a, b, c, d, e, f, g, i, rfl⟩ := eight h
  rfl
theorem from_s (n : Int) (w : World) (h : 0 ≤ n ∧ n < 18446744073709551616) : Con Try.prog 78 #[.int .u64 n] w (Ret w (nV (dgN 8 n))) := by
  have h1 : n.tmod 4294967296 = n % 4294967296 := Int.tmod_eq_emod_of_nonneg h.1
  have h2 : n.tdiv 4294967296 = n / 4294967296 := Int.tdiv_eq_ediv_of_nonneg h.1
  refine enter tabOk mixed Try.func78 rfl Try.ntmps78 Try.results78 [.v (.int .u64 n)] (fun _ => none) [] 0 rfl rfl (hp0 _ _ _) ?_
  ((conv=>whnf);(repeat(refine And.intro ?_ ?_;(focus((first|omega|exact⟨rfl,True.intro⟩|exact⟨rfl,rfl,True.intro⟩|rfl|(simp only[List.length_set];first|omega|(refine⟨?_,?_⟩<;>omega)|(refine⟨?_,?_,?_⟩<;>omega))|(intro hg;(try simp only[bB]at hg);first|omega|(refine⟨?_,?_⟩<;>omega)|(refine⟨?_,?_,?_⟩<;>first|omega|(show _<_;(try simp only[List.length_set]);omega)|exact leT rfl))|(refine⟨?_,?_⟩<;>omega)|(refine⟨?_,?_,?_⟩<;>first|omega|(show _<_;(try simp only[List.length_set]);omega)|exact leT rfl)|(simp only[show rI.d=(0:Int)from rfl];omega));done));(conv=>whnf))))
  refine EvRet.ret (fun _ => ?_)
  rw [h1, h2, u64_in _ (by omega)]
  have e : dgN 8 n = [n % 4294967296, n / 4294967296, 0, 0, 0, 0, 0, 0] := by
    simp only [dgN]
    rw [show n / 4294967296 % 4294967296 = n / 4294967296 by omega, show n / 4294967296 / 4294967296 = 0 by omega]
    rfl
  rw [e]
  rfl
set_option maxRecDepth 10000 in
theorem less_s (a b : List Int) (w : World) (ha : DgL a) (hb : DgL b) (la : a.length = 8) (lb : b.length = 8) : Con Try.prog 82 #[nV a, nV b] w (Ret w (.int .i64 (sgI (vl a - vl b)))) := by
  rw [← nS_den (fun _ => none) a, ← nS_den (fun _ => none) b]
  refine enter tabOk mixed Try.func82 rfl Try.ntmps82 Try.results82 [.a (nS a), .a (nS b)] (fun _ => none) [] 0 rfl rfl (hp0 _ _ _) ?_
  ((conv=>whnf);(repeat(refine And.intro ?_ ?_;(focus((first|omega|exact⟨rfl,True.intro⟩|exact⟨rfl,rfl,True.intro⟩|rfl|(simp only[List.length_set];first|omega|(refine⟨?_,?_⟩<;>omega)|(refine⟨?_,?_,?_⟩<;>omega))|(intro hg;(try simp only[bB]at hg);first|omega|(refine⟨?_,?_⟩<;>omega)|(refine⟨?_,?_,?_⟩<;>first|omega|(show _<_;(try simp only[List.length_set]);omega)|exact leT rfl))|(refine⟨?_,?_⟩<;>omega)|(refine⟨?_,?_,?_⟩<;>first|omega|(show _<_;(try simp only[List.length_set]);omega)|exact leT rfl)|(simp only[show rI.d=(0:Int)from rfl];omega));done));(conv=>whnf))))
  refine EvLoop.inv (α := Nat) (fun i => i ≤ 8 ∧ a.drop i = b.drop i) (fun i => i) (fun i => [(2, [], .p 0 0), (3, [], .p 1 0), (5, [], .v (.int .i64 (((i : Int) - 1))))]) (fun i => [⟨0, true, 83, 8, 1, .rows Int rW a⟩, ⟨1, true, 83, 8, 1, .rows Int rW b⟩]) 2 8 ⟨by omega, by rw [List.drop_of_length_le (by omega), List.drop_of_length_le (by omega)]⟩ (Sub.of [] [] rfl ?_) ?_
  · (repeat' (refine And.intro ?_ ?_)) <;> first | rfl | exact True.intro | exact nS_rows la | exact nS_rows lb | omega
  intro i ⟨hi, he⟩
  ((conv=>whnf);(repeat(refine And.intro ?_ ?_;(focus((first|omega|exact⟨rfl,True.intro⟩|exact⟨rfl,rfl,True.intro⟩|rfl|(simp only[List.length_set];first|omega|(refine⟨?_,?_⟩<;>omega)|(refine⟨?_,?_,?_⟩<;>omega))|(intro hg;(try simp only[bB]at hg);first|omega|(refine⟨?_,?_⟩<;>omega)|(refine⟨?_,?_,?_⟩<;>first|omega|(show _<_;(try simp only[List.length_set]);omega)|exact leT rfl))|(refine⟨?_,?_⟩<;>omega)|(refine⟨?_,?_,?_⟩<;>first|omega|(show _<_;(try simp only[List.length_set]);omega)|exact leT rfl)|(simp only[show rI.d=(0:Int)from rfl];omega));done));(conv=>whnf))))
  refine EvIf.split (fun g1 => ?_) (fun g1 => ?_)
  · obtain ⟨j, rfl⟩ : ∃ j, i = j + 1 := ⟨i - 1, by have := of_decide_eq_true g1; omega⟩
    rw [show ((j + 1 : Nat) : Int) - 1 = (j : Int) by omega]
    ((conv=>whnf);(repeat(refine And.intro ?_ ?_;(focus((first|omega|exact⟨rfl,True.intro⟩|exact⟨rfl,rfl,True.intro⟩|rfl|(simp only[List.length_set];first|omega|(refine⟨?_,?_⟩<;>omega)|(refine⟨?_,?_,?_⟩<;>omega))|(intro hg;(try simp only[bB]at hg);first|omega|(refine⟨?_,?_⟩<;>omega)|(refine⟨?_,?_,?_⟩<;>first|omega|(show _<_;(try simp only[List.length_set]);omega)|exact leT rfl))|(refine⟨?_,?_⟩<;>omega)|(refine⟨?_,?_,?_⟩<;>first|omega|(show _<_;(try simp only[List.length_set]);omega)|exact leT rfl)|(simp only[show rI.d=(0:Int)from rfl];omega));done));(conv=>whnf))))
    (refine EvDraw.one (.q 0 (.q 1 (.q 2 (.q 3 (.q 4 (.q 5 (.q 6 (.z)))))))) (by kernel_rfl) ?_)
    ((conv=>whnf);(repeat(refine And.intro ?_ ?_;(focus((first|omega|exact⟨rfl,True.intro⟩|exact⟨rfl,rfl,True.intro⟩|rfl|(simp only[List.length_set];first|omega|(refine⟨?_,?_⟩<;>omega)|(refine⟨?_,?_,?_⟩<;>omega))|(intro hg;(try simp only[bB]at hg);first|omega|(refine⟨?_,?_⟩<;>omega)|(refine⟨?_,?_,?_⟩<;>first|omega|(show _<_;(try simp only[List.length_set]);omega)|exact leT rfl))|(refine⟨?_,?_⟩<;>omega)|(refine⟨?_,?_,?_⟩<;>first|omega|(show _<_;(try simp only[List.length_set]);omega)|exact leT rfl)|(simp only[show rI.d=(0:Int)from rfl];omega));done));(conv=>whnf))))
    refine EvIf.split (fun g2 => ?_) (fun g2 => ?_)
    · have := vl_lt_of ha hb (i := j) (by omega) (by omega) he (of_decide_eq_true g2)
      ((conv=>whnf);(repeat(refine And.intro ?_ ?_;(focus((first|omega|exact⟨rfl,True.intro⟩|exact⟨rfl,rfl,True.intro⟩|rfl|(simp only[List.length_set];first|omega|(refine⟨?_,?_⟩<;>omega)|(refine⟨?_,?_,?_⟩<;>omega))|(intro hg;(try simp only[bB]at hg);first|omega|(refine⟨?_,?_⟩<;>omega)|(refine⟨?_,?_,?_⟩<;>first|omega|(show _<_;(try simp only[List.length_set]);omega)|exact leT rfl))|(refine⟨?_,?_⟩<;>omega)|(refine⟨?_,?_,?_⟩<;>first|omega|(show _<_;(try simp only[List.length_set]);omega)|exact leT rfl)|(simp only[show rI.d=(0:Int)from rfl];omega));done));(conv=>whnf))))
      exact ret_code (by unfold sgI; rw [if_neg (by omega), if_pos (by omega)])
    · ((conv=>whnf);(repeat(refine And.intro ?_ ?_;(focus((first|omega|exact⟨rfl,True.intro⟩|exact⟨rfl,rfl,True.intro⟩|rfl|(simp only[List.length_set];first|omega|(refine⟨?_,?_⟩<;>omega)|(refine⟨?_,?_,?_⟩<;>omega))|(intro hg;(try simp only[bB]at hg);first|omega|(refine⟨?_,?_⟩<;>omega)|(refine⟨?_,?_,?_⟩<;>first|omega|(show _<_;(try simp only[List.length_set]);omega)|exact leT rfl))|(refine⟨?_,?_⟩<;>omega)|(refine⟨?_,?_,?_⟩<;>first|omega|(show _<_;(try simp only[List.length_set]);omega)|exact leT rfl)|(simp only[show rI.d=(0:Int)from rfl];omega));done));(conv=>whnf))))
      (refine EvDraw.one (.q 0 (.q 1 (.q 2 (.q 3 (.q 4 (.q 5 (.q 6 (.z)))))))) (by kernel_rfl) ?_)
      ((conv=>whnf);(repeat(refine And.intro ?_ ?_;(focus((first|omega|exact⟨rfl,True.intro⟩|exact⟨rfl,rfl,True.intro⟩|rfl|(simp only[List.length_set];first|omega|(refine⟨?_,?_⟩<;>omega)|(refine⟨?_,?_,?_⟩<;>omega))|(intro hg;(try simp only[bB]at hg);first|omega|(refine⟨?_,?_⟩<;>omega)|(refine⟨?_,?_,?_⟩<;>first|omega|(show _<_;(try simp only[List.length_set]);omega)|exact leT rfl))|(refine⟨?_,?_⟩<;>omega)|(refine⟨?_,?_,?_⟩<;>first|omega|(show _<_;(try simp only[List.length_set]);omega)|exact leT rfl)|(simp only[show rI.d=(0:Int)from rfl];omega));done));(conv=>whnf))))
      refine EvIf.split (fun g3 => ?_) (fun g3 => ?_)
      · have := vl_lt_of hb ha (i := j) (by omega) (by omega) he.symm (of_decide_eq_true g3)
        ((conv=>whnf);(repeat(refine And.intro ?_ ?_;(focus((first|omega|exact⟨rfl,True.intro⟩|exact⟨rfl,rfl,True.intro⟩|rfl|(simp only[List.length_set];first|omega|(refine⟨?_,?_⟩<;>omega)|(refine⟨?_,?_,?_⟩<;>omega))|(intro hg;(try simp only[bB]at hg);first|omega|(refine⟨?_,?_⟩<;>omega)|(refine⟨?_,?_,?_⟩<;>first|omega|(show _<_;(try simp only[List.length_set]);omega)|exact leT rfl))|(refine⟨?_,?_⟩<;>omega)|(refine⟨?_,?_,?_⟩<;>first|omega|(show _<_;(try simp only[List.length_set]);omega)|exact leT rfl)|(simp only[show rI.d=(0:Int)from rfl];omega));done));(conv=>whnf))))
        exact ret_code (by unfold sgI; rw [if_neg (by omega), if_neg (by omega)])
      · ((conv=>whnf);(repeat(refine And.intro ?_ ?_;(focus((first|omega|exact⟨rfl,True.intro⟩|exact⟨rfl,rfl,True.intro⟩|rfl|(simp only[List.length_set];first|omega|(refine⟨?_,?_⟩<;>omega)|(refine⟨?_,?_,?_⟩<;>omega))|(intro hg;(try simp only[bB]at hg);first|omega|(refine⟨?_,?_⟩<;>omega)|(refine⟨?_,?_,?_⟩<;>first|omega|(show _<_;(try simp only[List.length_set]);omega)|exact leT rfl))|(refine⟨?_,?_⟩<;>omega)|(refine⟨?_,?_,?_⟩<;>first|omega|(show _<_;(try simp only[List.length_set]);omega)|exact leT rfl)|(simp only[show rI.d=(0:Int)from rfl];omega));done));(conv=>whnf))))
        refine LoopI.back j ⟨by omega, ?_⟩ (Nat.lt_succ_self j) (Sub.of [] [] rfl ?_)
        · rw [drop_getD (l := a) (by omega), drop_getD (l := b) (by omega), he]
          have h2 : ¬ a.getD j 0 < b.getD j 0 := of_decide_eq_false g2
          have h3 : ¬ b.getD j 0 < a.getD j 0 := of_decide_eq_false g3
          rw [show a.getD j 0 = b.getD j 0 by omega]
        · ((repeat' (refine And.intro ?_ ?_)) <;> first | rfl | exact True.intro | omega)
  · have g2 : i = 0 := by have := of_decide_eq_false g1; omega
    subst g2
    have g3 : a = b := by simpa using he
    subst g3
    ((conv=>whnf);(repeat(refine And.intro ?_ ?_;(focus((first|omega|exact⟨rfl,True.intro⟩|exact⟨rfl,rfl,True.intro⟩|rfl|(simp only[List.length_set];first|omega|(refine⟨?_,?_⟩<;>omega)|(refine⟨?_,?_,?_⟩<;>omega))|(intro hg;(try simp only[bB]at hg);first|omega|(refine⟨?_,?_⟩<;>omega)|(refine⟨?_,?_,?_⟩<;>first|omega|(show _<_;(try simp only[List.length_set]);omega)|exact leT rfl))|(refine⟨?_,?_⟩<;>omega)|(refine⟨?_,?_,?_⟩<;>first|omega|(show _<_;(try simp only[List.length_set]);omega)|exact leT rfl)|(simp only[show rI.d=(0:Int)from rfl];omega));done));(conv=>whnf))))
    exact ret_code (by rw [Int.sub_self]; rfl)
set_option maxRecDepth 10000 in
theorem times_s (a b : List Int) (w : World) (ha : DgL a) (hb : DgL b) (la : a.length = 8) (lb : b.length = 8) (hlt : vl a * vl b < pw 8) : Con Try.prog 77 #[nV a, nV b] w (Ret w (nV (dgN 8 (vl a * vl b)))) := by
  rw [← nS_den (fun _ => none) a, ← nS_den (fun _ => none) b]
  refine enter tabOk mixed Try.func77 rfl Try.ntmps77 Try.results77 [.a (nS a), .a (nS b)] (fun _ => none) [] 0 rfl rfl (hp0 _ _ _) ?_
  ((conv=>whnf);(repeat(refine And.intro ?_ ?_;(focus((first|omega|exact⟨rfl,True.intro⟩|exact⟨rfl,rfl,True.intro⟩|rfl|(simp only[List.length_set];first|omega|(refine⟨?_,?_⟩<;>omega)|(refine⟨?_,?_,?_⟩<;>omega))|(intro hg;(try simp only[bB]at hg);first|omega|(refine⟨?_,?_⟩<;>omega)|(refine⟨?_,?_,?_⟩<;>first|omega|(show _<_;(try simp only[List.length_set]);omega)|exact leT rfl))|(refine⟨?_,?_⟩<;>omega)|(refine⟨?_,?_,?_⟩<;>first|omega|(show _<_;(try simp only[List.length_set]);omega)|exact leT rfl)|(simp only[show rI.d=(0:Int)from rfl];omega));done));(conv=>whnf))))
  refine EvLoop.inv (α := Nat × List Int) (fun p => p.1 ≤ 8 ∧ TimP a b p.1 p.2) (fun p => 8 - p.1) (fun p => [(2, [], .p 0 0), (3, [], .p 1 0), (4, [], .p 2 0), (5, [], .p 3 0), (6, [], .v (.int .i64 ((p.1 : Int))))])
    (fun p => [⟨0, true, 83, 8, 1, .rows Int rW a⟩, ⟨1, true, 83, 8, 1, .rows Int rW b⟩, ⟨2, true, 83, 8, 1, .cs (nS [0, 0, 0, 0, 0, 0, 0, 0])⟩, ⟨3, true, 83, 8, 1, .rows Int rW p.2⟩]) 4 (0, [0, 0, 0, 0, 0, 0, 0, 0]) ⟨by omega, TimP.zero⟩ (Sub.of [] [] rfl ?_) ?_
  · (repeat' (refine And.intro ?_ ?_)) <;> first | rfl | exact True.intro | exact nS_rows la | exact nS_rows lb | exact nS_rows (l := [0, 0, 0, 0, 0, 0, 0, 0]) rfl | omega
  intro ⟨i, out0⟩ ⟨hi, hT⟩
  simp only at hi hT
  ((conv=>whnf);(repeat(refine And.intro ?_ ?_;(focus((first|omega|exact⟨rfl,True.intro⟩|exact⟨rfl,rfl,True.intro⟩|rfl|(simp only[List.length_set];first|omega|(refine⟨?_,?_⟩<;>omega)|(refine⟨?_,?_,?_⟩<;>omega))|(intro hg;(try simp only[bB]at hg);first|omega|(refine⟨?_,?_⟩<;>omega)|(refine⟨?_,?_,?_⟩<;>first|omega|(show _<_;(try simp only[List.length_set]);omega)|exact leT rfl))|(refine⟨?_,?_⟩<;>omega)|(refine⟨?_,?_,?_⟩<;>first|omega|(show _<_;(try simp only[List.length_set]);omega)|exact leT rfl)|(simp only[show rI.d=(0:Int)from rfl];omega));done));(conv=>whnf))))
  refine EvIf.split (fun g1 => ?_) (fun g1 => ?_)
  · have g2 : i < 8 := by have := of_decide_eq_true g1; omega
    ((conv=>whnf);(repeat(refine And.intro ?_ ?_;(focus((first|omega|exact⟨rfl,True.intro⟩|exact⟨rfl,rfl,True.intro⟩|rfl|(simp only[List.length_set];first|omega|(refine⟨?_,?_⟩<;>omega)|(refine⟨?_,?_,?_⟩<;>omega))|(intro hg;(try simp only[bB]at hg);first|omega|(refine⟨?_,?_⟩<;>omega)|(refine⟨?_,?_,?_⟩<;>first|omega|(show _<_;(try simp only[List.length_set]);omega)|exact leT rfl))|(refine⟨?_,?_⟩<;>omega)|(refine⟨?_,?_,?_⟩<;>first|omega|(show _<_;(try simp only[List.length_set]);omega)|exact leT rfl)|(simp only[show rI.d=(0:Int)from rfl];omega));done));(conv=>whnf))))
    refine EvLoop.inv (α := Nat × Int × List Int) (fun p => i + p.1 ≤ 8 ∧ RowP a b i out0 p.1 p.2.1 p.2.2) (fun p => 8 - p.1) (fun p => [(2, [], .p 0 0), (3, [], .p 1 0), (4, [], .p 2 0), (5, [], .p 3 0), (6, [], .v (.int .i64 ((i : Int)))), (8, [], .v (.int .i64 ((p.1 : Int)))), (7, [], .v (.int .u64 p.2.1))])
      (fun p => [⟨0, true, 83, 8, 1, .rows Int rW a⟩, ⟨1, true, 83, 8, 1, .rows Int rW b⟩, ⟨2, true, 83, 8, 1, .cs (nS [0, 0, 0, 0, 0, 0, 0, 0])⟩, ⟨3, true, 83, 8, 1, .rows Int rW p.2.2⟩]) 4 (0, 0, out0) ⟨by omega, RowP.zero hT.1 hT.2.1⟩ (Sub.of [] [] rfl ?_) ?_
    · ((repeat' (refine And.intro ?_ ?_)) <;> first | rfl | exact True.intro | omega)
    intro ⟨k, c, out⟩ ⟨hk, hR⟩
    simp only at hk hR
    have ol := hR.1
    have oc := hR.2.2.1
    have da := ha.at (i := i) (by omega)
    have db := fun h => hb.at (i := k) h
    have dd := fun h => hR.2.1.at (i := i + k) h
    ((conv=>whnf);(repeat(refine And.intro ?_ ?_;(focus((first|omega|exact⟨rfl,True.intro⟩|exact⟨rfl,rfl,True.intro⟩|rfl|(simp only[List.length_set];first|omega|(refine⟨?_,?_⟩<;>omega)|(refine⟨?_,?_,?_⟩<;>omega))|(intro hg;(try simp only[bB]at hg);first|omega|(refine⟨?_,?_⟩<;>omega)|(refine⟨?_,?_,?_⟩<;>first|omega|(show _<_;(try simp only[List.length_set]);omega)|exact leT rfl))|(refine⟨?_,?_⟩<;>omega)|(refine⟨?_,?_,?_⟩<;>first|omega|(show _<_;(try simp only[List.length_set]);omega)|exact leT rfl)|(simp only[show rI.d=(0:Int)from rfl];omega));done));(conv=>whnf))))
    refine EvIf.split (fun g3 => ?_) (fun g3 => ?_)
    · have g4 : i + k < 8 := by have := of_decide_eq_true g3; omega
      have db := db (by omega)
      have dd := dd (by omega)
      have hm : a.getD i 0 * b.getD k 0 ≤ 4294967295 * 4294967295 := Int.mul_le_mul (by omega) (by omega) (by omega) (by omega)
      have hm0 : 0 ≤ a.getD i 0 * b.getD k 0 := Int.mul_nonneg (by omega) (by omega)
      have hS := hR.step ha hb la lb g4
      have r1 : IntKind.u64.wrap (c + out.getD (i + k) 0) = c + out.getD (i + k) 0 := u64_in _ (by omega)
      have r2 : IntKind.u64.wrap (IntKind.u64.wrap (c + out.getD (i + k) 0) + IntKind.u64.wrap (a.getD i 0 * b.getD k 0)) = c + out.getD (i + k) 0 + a.getD i 0 * b.getD k 0 := by
        rw [r1, u64_in (a.getD i 0 * b.getD k 0) (by omega), u64_in _ (by omega)]
      have r3 : IntKind.u64.wrap ((IntKind.u64.wrap (IntKind.u64.wrap (c + out.getD (i + k) 0) + IntKind.u64.wrap (a.getD i 0 * b.getD k 0))).tdiv 4294967296) = (c + out.getD (i + k) 0 + a.getD i 0 * b.getD k 0) / 4294967296 := by
        rw [r2, Int.tdiv_eq_ediv_of_nonneg (by omega), u64_in _ (by omega)]
      have r4 : (IntKind.u64.wrap (IntKind.u64.wrap (c + out.getD (i + k) 0) + IntKind.u64.wrap (a.getD i 0 * b.getD k 0))).tmod 4294967296 = (c + out.getD (i + k) 0 + a.getD i 0 * b.getD k 0) % 4294967296 := by
        rw [r2, Int.tmod_eq_emod_of_nonneg (by omega)]
      have d0 : ∀ z : Int, 0 ≤ z → z.tmod 4294967296 = z % 4294967296 := fun z h => Int.tmod_eq_emod_of_nonneg h
      have d1 : ∀ z : Int, 0 ≤ z → z.tdiv 4294967296 = z / 4294967296 := fun z h => Int.tdiv_eq_ediv_of_nonneg h
      ((conv=>whnf);(repeat(refine And.intro ?_ ?_;(focus((first|omega|exact⟨rfl,True.intro⟩|exact⟨rfl,rfl,True.intro⟩|rfl|(simp only[List.length_set];first|omega|(refine⟨?_,?_⟩<;>omega)|(refine⟨?_,?_,?_⟩<;>omega))|(intro hg;(try simp only[bB]at hg);first|omega|(refine⟨?_,?_⟩<;>omega)|(refine⟨?_,?_,?_⟩<;>first|omega|(show _<_;(try simp only[List.length_set]);omega)|exact leT rfl))|(refine⟨?_,?_⟩<;>omega)|(refine⟨?_,?_,?_⟩<;>first|omega|(show _<_;(try simp only[List.length_set]);omega)|exact leT rfl)|(simp only[show rI.d=(0:Int)from rfl];omega));done));(conv=>whnf))))
      (refine EvDraw.one (.q 0 (.q 1 (.q 2 (.q 3 (.q 4 (.q 5 (.q 6 (.q 7 (.q 8 (.q 9 (.q 10 (.q 11 (.q 12 (.q 13 (.q 14 (.q 15 (.z))))))))))))))))) (by kernel_rfl) ?_)
      ((conv=>whnf);(repeat(refine And.intro ?_ ?_;(focus((first|omega|exact⟨rfl,True.intro⟩|exact⟨rfl,rfl,True.intro⟩|rfl|(simp only[List.length_set];first|omega|(refine⟨?_,?_⟩<;>omega)|(refine⟨?_,?_,?_⟩<;>omega))|(intro hg;(try simp only[bB]at hg);first|omega|(refine⟨?_,?_⟩<;>omega)|(refine⟨?_,?_,?_⟩<;>first|omega|(show _<_;(try simp only[List.length_set]);omega)|exact leT rfl))|(refine⟨?_,?_⟩<;>omega)|(refine⟨?_,?_,?_⟩<;>first|omega|(show _<_;(try simp only[List.length_set]);omega)|exact leT rfl)|(simp only[show rI.d=(0:Int)from rfl];omega));done));(conv=>whnf))))
      refine LoopI.back (k + 1, (c + out.getD (i + k) 0 + a.getD i 0 * b.getD k 0) / 4294967296, out.set (i + k) ((c + out.getD (i + k) 0 + a.getD i 0 * b.getD k 0) % 4294967296)) ⟨by simp only; omega, hS⟩ (by simp only; omega) (Sub.of [] [] rfl ?_)
      (repeat' (refine And.intro ?_ ?_)) <;> first | rfl | exact True.intro | exact r3 | exact r3.symm | exact congrArg (fun z => Ct.rows Int rW (out.set (i + k) z)) r4 | (simp only; omega)
    · have g4 : k = 8 - i := by have h := of_decide_eq_false g3; simp only at h; omega
      subst g4
      ((conv=>whnf);(repeat(refine And.intro ?_ ?_;(focus((first|omega|exact⟨rfl,True.intro⟩|exact⟨rfl,rfl,True.intro⟩|rfl|(simp only[List.length_set];first|omega|(refine⟨?_,?_⟩<;>omega)|(refine⟨?_,?_,?_⟩<;>omega))|(intro hg;(try simp only[bB]at hg);first|omega|(refine⟨?_,?_⟩<;>omega)|(refine⟨?_,?_,?_⟩<;>first|omega|(show _<_;(try simp only[List.length_set]);omega)|exact leT rfl))|(refine⟨?_,?_⟩<;>omega)|(refine⟨?_,?_,?_⟩<;>first|omega|(show _<_;(try simp only[List.length_set]);omega)|exact leT rfl)|(simp only[show rI.d=(0:Int)from rfl];omega));done));(conv=>whnf))))
      refine LoopI.back (i + 1, out) ⟨by simp only; omega, hT.step ha hb la lb g2 hR⟩ (by simp only; omega) (Sub.of [] [] rfl ?_)
      ((repeat' (refine And.intro ?_ ?_)) <;> first | rfl | exact True.intro | omega)
  · have g2 : i = 8 := by have h := of_decide_eq_false g1; simp only at h; omega
    subst g2
    have hd := hT.done la hlt
    have ol := hT.1
    ((conv=>whnf);(repeat(refine And.intro ?_ ?_;(focus((first|omega|exact⟨rfl,True.intro⟩|exact⟨rfl,rfl,True.intro⟩|rfl|(simp only[List.length_set];first|omega|(refine⟨?_,?_⟩<;>omega)|(refine⟨?_,?_,?_⟩<;>omega))|(intro hg;(try simp only[bB]at hg);first|omega|(refine⟨?_,?_⟩<;>omega)|(refine⟨?_,?_,?_⟩<;>first|omega|(show _<_;(try simp only[List.length_set]);omega)|exact leT rfl))|(refine⟨?_,?_⟩<;>omega)|(refine⟨?_,?_,?_⟩<;>first|omega|(show _<_;(try simp only[List.length_set]);omega)|exact leT rfl)|(simp only[show rI.d=(0:Int)from rfl];omega));done));(conv=>whnf))))
    refine And.intro (by show 8 ≤ out0.length; omega) ?_
    ((conv=>whnf);(repeat(refine And.intro ?_ ?_;(focus((first|omega|exact⟨rfl,True.intro⟩|exact⟨rfl,rfl,True.intro⟩|rfl|(simp only[List.length_set];first|omega|(refine⟨?_,?_⟩<;>omega)|(refine⟨?_,?_,?_⟩<;>omega))|(intro hg;(try simp only[bB]at hg);first|omega|(refine⟨?_,?_⟩<;>omega)|(refine⟨?_,?_,?_⟩<;>first|omega|(show _<_;(try simp only[List.length_set]);omega)|exact leT rfl))|(refine⟨?_,?_⟩<;>omega)|(refine⟨?_,?_,?_⟩<;>first|omega|(show _<_;(try simp only[List.length_set]);omega)|exact leT rfl)|(simp only[show rI.d=(0:Int)from rfl];omega));done));(conv=>whnf))))
    exact EvRet.ret (fun ρ => by rw [← hd]; exact nS_den ρ out0)
end Go.Proofs.Ythknflclfmnciaa
