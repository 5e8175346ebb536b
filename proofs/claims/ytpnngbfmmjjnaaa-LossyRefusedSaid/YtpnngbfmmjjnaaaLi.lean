
/- Sorting a sorted list of more than 12 claims, walked. -/
import Derived.Test.YtpnngbfmmjjnaaaCu
namespace Go.Proofs.Ytpnngbfmmjjnaaa
open Go.RowKit
set_option linter.unusedVariables false
set_option linter.unusedSimpArgs false

set_option maxRecDepth 10000 in
theorem len64b_s (n : Int) (h1 : 13 ≤ n) (h2 : n ≤ 255) : ∃ z : Int, (∀ w : World, Con Try.prog 108 #[.int .u64 n] w (Ret w (.int .i64 z))) ∧ z ≠ 0 := by
  have hw : IntKind.u8.wrap n = n := by
    unfold IntKind.wrap
    simp [IntKind.signed, IntKind.bits]
    omega
  apply Exists.intro
  apply And.intro
  · intro w
    refine enter tabOk mixed Try.func108 rfl Try.ntmps108 Try.results108 [.v (.int .u64 n)] (fun _ => none) [] 0 rfl rfl (hp0 _ _ _) ?_
    ((conv=>whnf);repeat(refine And.intro (by omega) ?_;(conv=>whnf)))
    refine EvIf.neg (by simp; omega) ?_
    ((conv=>whnf);repeat(refine And.intro (by omega) ?_;(conv=>whnf)))
    refine EvIf.neg (by simp; omega) ?_
    ((conv=>whnf);repeat(refine And.intro (by omega) ?_;(conv=>whnf)))
    refine EvIf.neg (by simp; omega) ?_
    ((conv=>whnf);repeat(refine And.intro (by omega) ?_;(conv=>whnf)))
    refine And.intro ⟨by omega, Int.lt_of_lt_of_le (show _ < (256 : Int) by omega) (by decide +kernel)⟩ ?_
    ((conv=>whnf);repeat(refine And.intro (by omega) ?_;(conv=>whnf)))
    refine And.intro (byte_in _) ?_
    ((conv=>whnf);repeat(refine And.intro (by omega) ?_;(conv=>whnf)))
    refine And.intro (byte_in0 _) ?_
    ((conv=>whnf);repeat(refine And.intro (by omega) ?_;(conv=>whnf)))
    exact EvRet.ret (fun _ => rfl)
  · rw [hw]
    have hm1 : n.toNat < 256 := by omega
    have hm2 : 13 ≤ n.toNat := by omega
    generalize n.toNat = m at hm1 hm2 ⊢
    clear h1 h2 hw n
    revert m
    decide +kernel
theorem lenb_s (n : Int) (h1 : 13 ≤ n) (h2 : n ≤ 255) : ∃ z : Int, (∀ w : World, Con Try.prog 85 #[.int .u64 n] w (Ret w (.int .i64 z))) ∧ z ≠ 0 := by
  obtain ⟨z, hz, hz0⟩ := len64b_s n h1 h2
  refine ⟨z, fun w => ?_, hz0⟩
  refine enter tabOk mixed Try.func85 rfl Try.ntmps85 Try.results85 [.v (.int .u64 n)] (fun _ => none) [] 0 rfl rfl (hp0 _ _ _) ?_
  ((conv=>whnf);repeat(refine And.intro (by omega) ?_;(conv=>whnf)))
  refine EvIf.neg rfl ?_
  ((conv=>whnf);repeat(refine And.intro (by omega) ?_;(conv=>whnf)))
  refine EvCall.plain Try.call108 (.v (.int .i64 z)) rfl (fun ρ W hp => hz W) ?_
  ((conv=>whnf);repeat(refine And.intro (by omega) ?_;(conv=>whnf)))
  exact EvRet.ret (fun _ => rfl)
/-- No claim stands before one that sorts ahead of it. -/
def SrtC (l : List Cl) : Prop := ∀ i j, i ≤ j → j < l.length → ¬ cmpC (l.getD j cl0) (l.getD i cl0) < 0
set_option maxHeartbeats 1000000 in
set_option maxRecDepth 10000 in
theorem sortb_s (v : Value) (l : List Cl) (w : World) (hv : RowsIn rC w v l) (hn : 13 ≤ l.length) (hn2 : l.length < 102) (hs : SrtC l) : Con Try.prog 52 #[v] w (RetRows rC 62 w l) := by
  obtain ⟨A1, c1, rfl, e1, e2⟩ := hv.form
  obtain ⟨lf, hlf, hlf0⟩ := lenb_s (l.length : Int) (by omega) (by omega)
  rw [← u64_in (l.length : Int) (by omega)] at hlf
  have hq : (((l.length : Int) - 0).tdiv 4) = (l.length : Int) / 4 := by rw [Int.sub_zero]; exact Int.tdiv_eq_ediv_of_nonneg (by omega)
  refine enter tabOk mixed Try.func52 rfl Try.ntmps52 Try.results52 [.s 0 4 l.length c1] (fun _ => A1) [⟨0, false, 62, 4, c1, .rows Cl rC (l)⟩] 1 rfl rfl (.ro (hp0 _ _ _) _ rfl rfl rfl (ro_rows hv rfl _)) ?_
  ((conv=>whnf);repeat(refine And.intro (by omega) ?_;(conv=>whnf)))
  refine EvCall.rows (R := rC) (ty := 62) (xs := l) Try.call47 (fun ρ W hp => clone_s _ l W (hp.rowsIn (R := rC) (n := 0) rfl (by decide) e1 e2 4) (by omega)) (fun cap hc1 hc2 => ?_)
  ((conv=>whnf);repeat(refine And.intro (by omega) ?_;(conv=>whnf)))
  refine EvCall.inline tabOk mixed Try.func70 rfl Try.ntmps70 Try.results70 Try.call70 rfl (fun ρ0 => ?_)
  ((conv=>whnf);repeat(refine And.intro (by omega) ?_;(conv=>whnf)))
  refine EvCall.plain Try.call85 (.v (.int .i64 lf)) rfl (fun ρ W hp => hlf W) ?_
  ((conv=>whnf);repeat(refine And.intro (by omega) ?_;(conv=>whnf)))
  refine EvCall.inline tabOk mixed Try.func84 rfl Try.ntmps84 Try.results84 Try.call84 rfl (fun ρ0 => ?_)
  ((conv=>whnf);repeat(refine And.intro (by omega) ?_;(conv=>whnf)))
  refine EvLoop.rounds 1 ?_
  ((conv=>whnf);repeat(refine And.intro (by omega) ?_;(conv=>whnf)))
  refine EvIf.neg (by simp; omega) ?_
  ((conv=>whnf);repeat(refine And.intro (by omega) ?_;(conv=>whnf)))
  refine EvIf.neg (by simp; omega) ?_
  ((conv=>whnf);repeat(refine And.intro (by omega) ?_;(conv=>whnf)))
  refine EvIf.neg rfl ?_
  ((conv=>whnf);repeat(refine And.intro (by omega) ?_;(conv=>whnf)))
  refine EvCall.inline tabOk mixed Try.func102 rfl Try.ntmps102 Try.results102 Try.call102 rfl (fun ρ0 => ?_)
  ((conv=>whnf);repeat(refine And.intro (by omega) ?_;(conv=>whnf)))
  refine EvIf.pos (decide_eq_true (by omega)) ?_
  ((conv=>whnf);repeat(refine And.intro (by omega) ?_;(conv=>whnf)))
  refine EvIf.split (fun g50 => ?_) (fun g50 => ?_)
  · ((conv=>whnf);repeat(refine And.intro (by omega) ?_;(conv=>whnf)))
    refine EvCall.inline tabOk mixed Try.func118 rfl Try.ntmps118 Try.results118 Try.call118 rfl (fun ρ0 => ?_)
    ((conv=>whnf);repeat(refine And.intro (by omega) ?_;(conv=>whnf)))
    refine EvCall.inline tabOk mixed Try.func119 rfl Try.ntmps119 Try.results119 Try.call119 rfl (fun ρ0 => ?_)
    ((conv=>whnf);repeat(refine And.intro (by omega) ?_;(conv=>whnf)))
    refine EvCall.inline tabOk mixed Try.func123 rfl Try.ntmps123 Try.results123 Try.call123 rfl (fun ρ0 => ?_)
    ((conv=>whnf);repeat(refine And.intro (by omega) ?_;(conv=>whnf)))
    (refine EvDraw.one (.q 0 (.q 1 (.q 2 (.q 3 (.q 4 (.q 5 (.q 6 (.q 7 (.q 8 (.n 9 true (.q 10 (.z)) (.e))))))))))) (by kernel_rfl) ?_)
    ((conv=>whnf);(repeat(refine And.intro ?_ ?_;(focus((first|omega|exact⟨rfl,True.intro⟩|exact⟨rfl,rfl,True.intro⟩|rfl|(simp only[List.length_set];first|omega|(refine⟨?_,?_⟩<;>omega)|(refine⟨?_,?_,?_⟩<;>omega))|(intro hg;(try simp only[bB]at hg);first|omega|(refine⟨?_,?_⟩<;>omega)|(refine⟨?_,?_,?_⟩<;>first|omega|(show _<_;(try simp only[List.length_set]);omega)|exact leT rfl))|(refine⟨?_,?_⟩<;>omega)|(refine⟨?_,?_,?_⟩<;>first|omega|(show _<_;(try simp only[List.length_set]);omega)|exact leT rfl)|(simp only[show rI.d=(0:Int)from rfl];omega));done));(conv=>whnf))))
    refine EvCall.plain Try.call71 (.v (.int .i64 (cmpC (l.getD (0 + (((l.length : Int) - 0).tdiv 4) * 1).toNat cl0) (l.getD (0 + (((l.length : Int) - 0).tdiv 4) * 1 - 1).toNat cl0)))) rfl (fun ρ W hp => compare_s _ _ W) ?_
    ((conv=>whnf);repeat(refine And.intro (by omega) ?_;(conv=>whnf)))
    refine EvIf.neg (decide_eq_false (hs (0 + (((l.length : Int) - 0).tdiv 4) * 1 - 1).toNat (0 + (((l.length : Int) - 0).tdiv 4) * 1).toNat (by omega) (by omega))) ?_
    ((conv=>whnf);repeat(refine And.intro (by omega) ?_;(conv=>whnf)))
    refine EvRet.back ?_
    ((conv=>whnf);repeat(refine And.intro (by omega) ?_;(conv=>whnf)))
    refine EvCall.inline tabOk mixed Try.func123 rfl Try.ntmps123 Try.results123 Try.call123 rfl (fun ρ0 => ?_)
    ((conv=>whnf);repeat(refine And.intro (by omega) ?_;(conv=>whnf)))
    (refine EvDraw.one (.q 0 (.q 1 (.q 2 (.q 3 (.q 4 (.q 5 (.q 6 (.q 7 (.q 8 (.n 9 true (.q 10 (.z)) (.e))))))))))) (by kernel_rfl) ?_)
    ((conv=>whnf);(repeat(refine And.intro ?_ ?_;(focus((first|omega|exact⟨rfl,True.intro⟩|exact⟨rfl,rfl,True.intro⟩|rfl|(simp only[List.length_set];first|omega|(refine⟨?_,?_⟩<;>omega)|(refine⟨?_,?_,?_⟩<;>omega))|(intro hg;(try simp only[bB]at hg);first|omega|(refine⟨?_,?_⟩<;>omega)|(refine⟨?_,?_,?_⟩<;>first|omega|(show _<_;(try simp only[List.length_set]);omega)|exact leT rfl))|(refine⟨?_,?_⟩<;>omega)|(refine⟨?_,?_,?_⟩<;>first|omega|(show _<_;(try simp only[List.length_set]);omega)|exact leT rfl)|(simp only[show rI.d=(0:Int)from rfl];omega));done));(conv=>whnf))))
    refine EvCall.plain Try.call71 (.v (.int .i64 (cmpC (l.getD (0 + (((l.length : Int) - 0).tdiv 4) * 1 + 1).toNat cl0) (l.getD (0 + (((l.length : Int) - 0).tdiv 4) * 1).toNat cl0)))) rfl (fun ρ W hp => compare_s _ _ W) ?_
    ((conv=>whnf);repeat(refine And.intro (by omega) ?_;(conv=>whnf)))
    refine EvIf.neg (decide_eq_false (hs (0 + (((l.length : Int) - 0).tdiv 4) * 1).toNat (0 + (((l.length : Int) - 0).tdiv 4) * 1 + 1).toNat (by omega) (by omega))) ?_
    ((conv=>whnf);repeat(refine And.intro (by omega) ?_;(conv=>whnf)))
    refine EvRet.back ?_
    ((conv=>whnf);repeat(refine And.intro (by omega) ?_;(conv=>whnf)))
    refine EvCall.inline tabOk mixed Try.func123 rfl Try.ntmps123 Try.results123 Try.call123 rfl (fun ρ0 => ?_)
    ((conv=>whnf);repeat(refine And.intro (by omega) ?_;(conv=>whnf)))
    (refine EvDraw.one (.q 0 (.q 1 (.q 2 (.q 3 (.q 4 (.q 5 (.q 6 (.q 7 (.q 8 (.n 9 true (.q 10 (.z)) (.e))))))))))) (by kernel_rfl) ?_)
    ((conv=>whnf);(repeat(refine And.intro ?_ ?_;(focus((first|omega|exact⟨rfl,True.intro⟩|exact⟨rfl,rfl,True.intro⟩|rfl|(simp only[List.length_set];first|omega|(refine⟨?_,?_⟩<;>omega)|(refine⟨?_,?_,?_⟩<;>omega))|(intro hg;(try simp only[bB]at hg);first|omega|(refine⟨?_,?_⟩<;>omega)|(refine⟨?_,?_,?_⟩<;>first|omega|(show _<_;(try simp only[List.length_set]);omega)|exact leT rfl))|(refine⟨?_,?_⟩<;>omega)|(refine⟨?_,?_,?_⟩<;>first|omega|(show _<_;(try simp only[List.length_set]);omega)|exact leT rfl)|(simp only[show rI.d=(0:Int)from rfl];omega));done));(conv=>whnf))))
    refine EvCall.plain Try.call71 (.v (.int .i64 (cmpC (l.getD (0 + (((l.length : Int) - 0).tdiv 4) * 1).toNat cl0) (l.getD (0 + (((l.length : Int) - 0).tdiv 4) * 1 - 1).toNat cl0)))) rfl (fun ρ W hp => compare_s _ _ W) ?_
    ((conv=>whnf);repeat(refine And.intro (by omega) ?_;(conv=>whnf)))
    refine EvIf.neg (decide_eq_false (hs (0 + (((l.length : Int) - 0).tdiv 4) * 1 - 1).toNat (0 + (((l.length : Int) - 0).tdiv 4) * 1).toNat (by omega) (by omega))) ?_
    ((conv=>whnf);repeat(refine And.intro (by omega) ?_;(conv=>whnf)))
    refine EvRet.back ?_
    ((conv=>whnf);repeat(refine And.intro (by omega) ?_;(conv=>whnf)))
    refine EvRet.back ?_
    ((conv=>whnf);repeat(refine And.intro (by omega) ?_;(conv=>whnf)))
    refine EvRet.back ?_
    ((conv=>whnf);repeat(refine And.intro (by omega) ?_;(conv=>whnf)))
    refine EvCall.inline tabOk mixed Try.func118 rfl Try.ntmps118 Try.results118 Try.call118 rfl (fun ρ0 => ?_)
    ((conv=>whnf);repeat(refine And.intro (by omega) ?_;(conv=>whnf)))
    refine EvCall.inline tabOk mixed Try.func119 rfl Try.ntmps119 Try.results119 Try.call119 rfl (fun ρ0 => ?_)
    ((conv=>whnf);repeat(refine And.intro (by omega) ?_;(conv=>whnf)))
    refine EvCall.inline tabOk mixed Try.func123 rfl Try.ntmps123 Try.results123 Try.call123 rfl (fun ρ0 => ?_)
    ((conv=>whnf);repeat(refine And.intro (by omega) ?_;(conv=>whnf)))
    (refine EvDraw.one (.q 0 (.q 1 (.q 2 (.q 3 (.q 4 (.q 5 (.q 6 (.q 7 (.q 8 (.n 9 true (.q 10 (.z)) (.e))))))))))) (by kernel_rfl) ?_)
    ((conv=>whnf);(repeat(refine And.intro ?_ ?_;(focus((first|omega|exact⟨rfl,True.intro⟩|exact⟨rfl,rfl,True.intro⟩|rfl|(simp only[List.length_set];first|omega|(refine⟨?_,?_⟩<;>omega)|(refine⟨?_,?_,?_⟩<;>omega))|(intro hg;(try simp only[bB]at hg);first|omega|(refine⟨?_,?_⟩<;>omega)|(refine⟨?_,?_,?_⟩<;>first|omega|(show _<_;(try simp only[List.length_set]);omega)|exact leT rfl))|(refine⟨?_,?_⟩<;>omega)|(refine⟨?_,?_,?_⟩<;>first|omega|(show _<_;(try simp only[List.length_set]);omega)|exact leT rfl)|(simp only[show rI.d=(0:Int)from rfl];omega));done));(conv=>whnf))))
    refine EvCall.plain Try.call71 (.v (.int .i64 (cmpC (l.getD (0 + (((l.length : Int) - 0).tdiv 4) * 2).toNat cl0) (l.getD (0 + (((l.length : Int) - 0).tdiv 4) * 2 - 1).toNat cl0)))) rfl (fun ρ W hp => compare_s _ _ W) ?_
    ((conv=>whnf);repeat(refine And.intro (by omega) ?_;(conv=>whnf)))
    refine EvIf.neg (decide_eq_false (hs (0 + (((l.length : Int) - 0).tdiv 4) * 2 - 1).toNat (0 + (((l.length : Int) - 0).tdiv 4) * 2).toNat (by omega) (by omega))) ?_
    ((conv=>whnf);repeat(refine And.intro (by omega) ?_;(conv=>whnf)))
    refine EvRet.back ?_
    ((conv=>whnf);repeat(refine And.intro (by omega) ?_;(conv=>whnf)))
    refine EvCall.inline tabOk mixed Try.func123 rfl Try.ntmps123 Try.results123 Try.call123 rfl (fun ρ0 => ?_)
    ((conv=>whnf);repeat(refine And.intro (by omega) ?_;(conv=>whnf)))
    (refine EvDraw.one (.q 0 (.q 1 (.q 2 (.q 3 (.q 4 (.q 5 (.q 6 (.q 7 (.q 8 (.n 9 true (.q 10 (.z)) (.e))))))))))) (by kernel_rfl) ?_)
    ((conv=>whnf);(repeat(refine And.intro ?_ ?_;(focus((first|omega|exact⟨rfl,True.intro⟩|exact⟨rfl,rfl,True.intro⟩|rfl|(simp only[List.length_set];first|omega|(refine⟨?_,?_⟩<;>omega)|(refine⟨?_,?_,?_⟩<;>omega))|(intro hg;(try simp only[bB]at hg);first|omega|(refine⟨?_,?_⟩<;>omega)|(refine⟨?_,?_,?_⟩<;>first|omega|(show _<_;(try simp only[List.length_set]);omega)|exact leT rfl))|(refine⟨?_,?_⟩<;>omega)|(refine⟨?_,?_,?_⟩<;>first|omega|(show _<_;(try simp only[List.length_set]);omega)|exact leT rfl)|(simp only[show rI.d=(0:Int)from rfl];omega));done));(conv=>whnf))))
    refine EvCall.plain Try.call71 (.v (.int .i64 (cmpC (l.getD (0 + (((l.length : Int) - 0).tdiv 4) * 2 + 1).toNat cl0) (l.getD (0 + (((l.length : Int) - 0).tdiv 4) * 2).toNat cl0)))) rfl (fun ρ W hp => compare_s _ _ W) ?_
    ((conv=>whnf);repeat(refine And.intro (by omega) ?_;(conv=>whnf)))
    refine EvIf.neg (decide_eq_false (hs (0 + (((l.length : Int) - 0).tdiv 4) * 2).toNat (0 + (((l.length : Int) - 0).tdiv 4) * 2 + 1).toNat (by omega) (by omega))) ?_
    ((conv=>whnf);repeat(refine And.intro (by omega) ?_;(conv=>whnf)))
    refine EvRet.back ?_
    ((conv=>whnf);repeat(refine And.intro (by omega) ?_;(conv=>whnf)))
    refine EvCall.inline tabOk mixed Try.func123 rfl Try.ntmps123 Try.results123 Try.call123 rfl (fun ρ0 => ?_)
    ((conv=>whnf);repeat(refine And.intro (by omega) ?_;(conv=>whnf)))
    (refine EvDraw.one (.q 0 (.q 1 (.q 2 (.q 3 (.q 4 (.q 5 (.q 6 (.q 7 (.q 8 (.n 9 true (.q 10 (.z)) (.e))))))))))) (by kernel_rfl) ?_)
    ((conv=>whnf);(repeat(refine And.intro ?_ ?_;(focus((first|omega|exact⟨rfl,True.intro⟩|exact⟨rfl,rfl,True.intro⟩|rfl|(simp only[List.length_set];first|omega|(refine⟨?_,?_⟩<;>omega)|(refine⟨?_,?_,?_⟩<;>omega))|(intro hg;(try simp only[bB]at hg);first|omega|(refine⟨?_,?_⟩<;>omega)|(refine⟨?_,?_,?_⟩<;>first|omega|(show _<_;(try simp only[List.length_set]);omega)|exact leT rfl))|(refine⟨?_,?_⟩<;>omega)|(refine⟨?_,?_,?_⟩<;>first|omega|(show _<_;(try simp only[List.length_set]);omega)|exact leT rfl)|(simp only[show rI.d=(0:Int)from rfl];omega));done));(conv=>whnf))))
    refine EvCall.plain Try.call71 (.v (.int .i64 (cmpC (l.getD (0 + (((l.length : Int) - 0).tdiv 4) * 2).toNat cl0) (l.getD (0 + (((l.length : Int) - 0).tdiv 4) * 2 - 1).toNat cl0)))) rfl (fun ρ W hp => compare_s _ _ W) ?_
    ((conv=>whnf);repeat(refine And.intro (by omega) ?_;(conv=>whnf)))
    refine EvIf.neg (decide_eq_false (hs (0 + (((l.length : Int) - 0).tdiv 4) * 2 - 1).toNat (0 + (((l.length : Int) - 0).tdiv 4) * 2).toNat (by omega) (by omega))) ?_
    ((conv=>whnf);repeat(refine And.intro (by omega) ?_;(conv=>whnf)))
    refine EvRet.back ?_
    ((conv=>whnf);repeat(refine And.intro (by omega) ?_;(conv=>whnf)))
    refine EvRet.back ?_
    ((conv=>whnf);repeat(refine And.intro (by omega) ?_;(conv=>whnf)))
    refine EvRet.back ?_
    ((conv=>whnf);repeat(refine And.intro (by omega) ?_;(conv=>whnf)))
    refine EvCall.inline tabOk mixed Try.func118 rfl Try.ntmps118 Try.results118 Try.call118 rfl (fun ρ0 => ?_)
    ((conv=>whnf);repeat(refine And.intro (by omega) ?_;(conv=>whnf)))
    refine EvCall.inline tabOk mixed Try.func119 rfl Try.ntmps119 Try.results119 Try.call119 rfl (fun ρ0 => ?_)
    ((conv=>whnf);repeat(refine And.intro (by omega) ?_;(conv=>whnf)))
    refine EvCall.inline tabOk mixed Try.func123 rfl Try.ntmps123 Try.results123 Try.call123 rfl (fun ρ0 => ?_)
    ((conv=>whnf);repeat(refine And.intro (by omega) ?_;(conv=>whnf)))
    (refine EvDraw.one (.q 0 (.q 1 (.q 2 (.q 3 (.q 4 (.q 5 (.q 6 (.q 7 (.q 8 (.n 9 true (.q 10 (.z)) (.e))))))))))) (by kernel_rfl) ?_)
    ((conv=>whnf);(repeat(refine And.intro ?_ ?_;(focus((first|omega|exact⟨rfl,True.intro⟩|exact⟨rfl,rfl,True.intro⟩|rfl|(simp only[List.length_set];first|omega|(refine⟨?_,?_⟩<;>omega)|(refine⟨?_,?_,?_⟩<;>omega))|(intro hg;(try simp only[bB]at hg);first|omega|(refine⟨?_,?_⟩<;>omega)|(refine⟨?_,?_,?_⟩<;>first|omega|(show _<_;(try simp only[List.length_set]);omega)|exact leT rfl))|(refine⟨?_,?_⟩<;>omega)|(refine⟨?_,?_,?_⟩<;>first|omega|(show _<_;(try simp only[List.length_set]);omega)|exact leT rfl)|(simp only[show rI.d=(0:Int)from rfl];omega));done));(conv=>whnf))))
    refine EvCall.plain Try.call71 (.v (.int .i64 (cmpC (l.getD (0 + (((l.length : Int) - 0).tdiv 4) * 3).toNat cl0) (l.getD (0 + (((l.length : Int) - 0).tdiv 4) * 3 - 1).toNat cl0)))) rfl (fun ρ W hp => compare_s _ _ W) ?_
    ((conv=>whnf);repeat(refine And.intro (by omega) ?_;(conv=>whnf)))
    refine EvIf.neg (decide_eq_false (hs (0 + (((l.length : Int) - 0).tdiv 4) * 3 - 1).toNat (0 + (((l.length : Int) - 0).tdiv 4) * 3).toNat (by omega) (by omega))) ?_
    ((conv=>whnf);repeat(refine And.intro (by omega) ?_;(conv=>whnf)))
    refine EvRet.back ?_
    ((conv=>whnf);repeat(refine And.intro (by omega) ?_;(conv=>whnf)))
    refine EvCall.inline tabOk mixed Try.func123 rfl Try.ntmps123 Try.results123 Try.call123 rfl (fun ρ0 => ?_)
    ((conv=>whnf);repeat(refine And.intro (by omega) ?_;(conv=>whnf)))
    (refine EvDraw.one (.q 0 (.q 1 (.q 2 (.q 3 (.q 4 (.q 5 (.q 6 (.q 7 (.q 8 (.n 9 true (.q 10 (.z)) (.e))))))))))) (by kernel_rfl) ?_)
    ((conv=>whnf);(repeat(refine And.intro ?_ ?_;(focus((first|omega|exact⟨rfl,True.intro⟩|exact⟨rfl,rfl,True.intro⟩|rfl|(simp only[List.length_set];first|omega|(refine⟨?_,?_⟩<;>omega)|(refine⟨?_,?_,?_⟩<;>omega))|(intro hg;(try simp only[bB]at hg);first|omega|(refine⟨?_,?_⟩<;>omega)|(refine⟨?_,?_,?_⟩<;>first|omega|(show _<_;(try simp only[List.length_set]);omega)|exact leT rfl))|(refine⟨?_,?_⟩<;>omega)|(refine⟨?_,?_,?_⟩<;>first|omega|(show _<_;(try simp only[List.length_set]);omega)|exact leT rfl)|(simp only[show rI.d=(0:Int)from rfl];omega));done));(conv=>whnf))))
    refine EvCall.plain Try.call71 (.v (.int .i64 (cmpC (l.getD (0 + (((l.length : Int) - 0).tdiv 4) * 3 + 1).toNat cl0) (l.getD (0 + (((l.length : Int) - 0).tdiv 4) * 3).toNat cl0)))) rfl (fun ρ W hp => compare_s _ _ W) ?_
    ((conv=>whnf);repeat(refine And.intro (by omega) ?_;(conv=>whnf)))
    refine EvIf.neg (decide_eq_false (hs (0 + (((l.length : Int) - 0).tdiv 4) * 3).toNat (0 + (((l.length : Int) - 0).tdiv 4) * 3 + 1).toNat (by omega) (by omega))) ?_
    ((conv=>whnf);repeat(refine And.intro (by omega) ?_;(conv=>whnf)))
    refine EvRet.back ?_
    ((conv=>whnf);repeat(refine And.intro (by omega) ?_;(conv=>whnf)))
    refine EvCall.inline tabOk mixed Try.func123 rfl Try.ntmps123 Try.results123 Try.call123 rfl (fun ρ0 => ?_)
    ((conv=>whnf);repeat(refine And.intro (by omega) ?_;(conv=>whnf)))
    (refine EvDraw.one (.q 0 (.q 1 (.q 2 (.q 3 (.q 4 (.q 5 (.q 6 (.q 7 (.q 8 (.n 9 true (.q 10 (.z)) (.e))))))))))) (by kernel_rfl) ?_)
    ((conv=>whnf);(repeat(refine And.intro ?_ ?_;(focus((first|omega|exact⟨rfl,True.intro⟩|exact⟨rfl,rfl,True.intro⟩|rfl|(simp only[List.length_set];first|omega|(refine⟨?_,?_⟩<;>omega)|(refine⟨?_,?_,?_⟩<;>omega))|(intro hg;(try simp only[bB]at hg);first|omega|(refine⟨?_,?_⟩<;>omega)|(refine⟨?_,?_,?_⟩<;>first|omega|(show _<_;(try simp only[List.length_set]);omega)|exact leT rfl))|(refine⟨?_,?_⟩<;>omega)|(refine⟨?_,?_,?_⟩<;>first|omega|(show _<_;(try simp only[List.length_set]);omega)|exact leT rfl)|(simp only[show rI.d=(0:Int)from rfl];omega));done));(conv=>whnf))))
    refine EvCall.plain Try.call71 (.v (.int .i64 (cmpC (l.getD (0 + (((l.length : Int) - 0).tdiv 4) * 3).toNat cl0) (l.getD (0 + (((l.length : Int) - 0).tdiv 4) * 3 - 1).toNat cl0)))) rfl (fun ρ W hp => compare_s _ _ W) ?_
    ((conv=>whnf);repeat(refine And.intro (by omega) ?_;(conv=>whnf)))
    refine EvIf.neg (decide_eq_false (hs (0 + (((l.length : Int) - 0).tdiv 4) * 3 - 1).toNat (0 + (((l.length : Int) - 0).tdiv 4) * 3).toNat (by omega) (by omega))) ?_
    ((conv=>whnf);repeat(refine And.intro (by omega) ?_;(conv=>whnf)))
    refine EvRet.back ?_
    ((conv=>whnf);repeat(refine And.intro (by omega) ?_;(conv=>whnf)))
    refine EvRet.back ?_
    ((conv=>whnf);repeat(refine And.intro (by omega) ?_;(conv=>whnf)))
    refine EvRet.back ?_
    ((conv=>whnf);repeat(refine And.intro (by omega) ?_;(conv=>whnf)))
    refine EvCall.inline tabOk mixed Try.func119 rfl Try.ntmps119 Try.results119 Try.call119 rfl (fun ρ0 => ?_)
    ((conv=>whnf);repeat(refine And.intro (by omega) ?_;(conv=>whnf)))
    refine EvCall.inline tabOk mixed Try.func123 rfl Try.ntmps123 Try.results123 Try.call123 rfl (fun ρ0 => ?_)
    ((conv=>whnf);repeat(refine And.intro (by omega) ?_;(conv=>whnf)))
    (refine EvDraw.one (.q 0 (.q 1 (.q 2 (.q 3 (.q 4 (.q 5 (.q 6 (.q 7 (.q 8 (.n 9 true (.q 10 (.z)) (.e))))))))))) (by kernel_rfl) ?_)
    ((conv=>whnf);(repeat(refine And.intro ?_ ?_;(focus((first|omega|exact⟨rfl,True.intro⟩|exact⟨rfl,rfl,True.intro⟩|rfl|(simp only[List.length_set];first|omega|(refine⟨?_,?_⟩<;>omega)|(refine⟨?_,?_,?_⟩<;>omega))|(intro hg;(try simp only[bB]at hg);first|omega|(refine⟨?_,?_⟩<;>omega)|(refine⟨?_,?_,?_⟩<;>first|omega|(show _<_;(try simp only[List.length_set]);omega)|exact leT rfl))|(refine⟨?_,?_⟩<;>omega)|(refine⟨?_,?_,?_⟩<;>first|omega|(show _<_;(try simp only[List.length_set]);omega)|exact leT rfl)|(simp only[show rI.d=(0:Int)from rfl];omega));done));(conv=>whnf))))
    refine EvCall.plain Try.call71 (.v (.int .i64 (cmpC (l.getD (0 + (((l.length : Int) - 0).tdiv 4) * 2).toNat cl0) (l.getD (0 + (((l.length : Int) - 0).tdiv 4) * 1).toNat cl0)))) rfl (fun ρ W hp => compare_s _ _ W) ?_
    ((conv=>whnf);repeat(refine And.intro (by omega) ?_;(conv=>whnf)))
    refine EvIf.neg (decide_eq_false (hs (0 + (((l.length : Int) - 0).tdiv 4) * 1).toNat (0 + (((l.length : Int) - 0).tdiv 4) * 2).toNat (by omega) (by omega))) ?_
    ((conv=>whnf);repeat(refine And.intro (by omega) ?_;(conv=>whnf)))
    refine EvRet.back ?_
    ((conv=>whnf);repeat(refine And.intro (by omega) ?_;(conv=>whnf)))
    refine EvCall.inline tabOk mixed Try.func123 rfl Try.ntmps123 Try.results123 Try.call123 rfl (fun ρ0 => ?_)
    ((conv=>whnf);repeat(refine And.intro (by omega) ?_;(conv=>whnf)))
    (refine EvDraw.one (.q 0 (.q 1 (.q 2 (.q 3 (.q 4 (.q 5 (.q 6 (.q 7 (.q 8 (.n 9 true (.q 10 (.z)) (.e))))))))))) (by kernel_rfl) ?_)
    ((conv=>whnf);(repeat(refine And.intro ?_ ?_;(focus((first|omega|exact⟨rfl,True.intro⟩|exact⟨rfl,rfl,True.intro⟩|rfl|(simp only[List.length_set];first|omega|(refine⟨?_,?_⟩<;>omega)|(refine⟨?_,?_,?_⟩<;>omega))|(intro hg;(try simp only[bB]at hg);first|omega|(refine⟨?_,?_⟩<;>omega)|(refine⟨?_,?_,?_⟩<;>first|omega|(show _<_;(try simp only[List.length_set]);omega)|exact leT rfl))|(refine⟨?_,?_⟩<;>omega)|(refine⟨?_,?_,?_⟩<;>first|omega|(show _<_;(try simp only[List.length_set]);omega)|exact leT rfl)|(simp only[show rI.d=(0:Int)from rfl];omega));done));(conv=>whnf))))
    refine EvCall.plain Try.call71 (.v (.int .i64 (cmpC (l.getD (0 + (((l.length : Int) - 0).tdiv 4) * 3).toNat cl0) (l.getD (0 + (((l.length : Int) - 0).tdiv 4) * 2).toNat cl0)))) rfl (fun ρ W hp => compare_s _ _ W) ?_
    ((conv=>whnf);repeat(refine And.intro (by omega) ?_;(conv=>whnf)))
    refine EvIf.neg (decide_eq_false (hs (0 + (((l.length : Int) - 0).tdiv 4) * 2).toNat (0 + (((l.length : Int) - 0).tdiv 4) * 3).toNat (by omega) (by omega))) ?_
    ((conv=>whnf);repeat(refine And.intro (by omega) ?_;(conv=>whnf)))
    refine EvRet.back ?_
    ((conv=>whnf);repeat(refine And.intro (by omega) ?_;(conv=>whnf)))
    refine EvCall.inline tabOk mixed Try.func123 rfl Try.ntmps123 Try.results123 Try.call123 rfl (fun ρ0 => ?_)
    ((conv=>whnf);repeat(refine And.intro (by omega) ?_;(conv=>whnf)))
    (refine EvDraw.one (.q 0 (.q 1 (.q 2 (.q 3 (.q 4 (.q 5 (.q 6 (.q 7 (.q 8 (.n 9 true (.q 10 (.z)) (.e))))))))))) (by kernel_rfl) ?_)
    ((conv=>whnf);(repeat(refine And.intro ?_ ?_;(focus((first|omega|exact⟨rfl,True.intro⟩|exact⟨rfl,rfl,True.intro⟩|rfl|(simp only[List.length_set];first|omega|(refine⟨?_,?_⟩<;>omega)|(refine⟨?_,?_,?_⟩<;>omega))|(intro hg;(try simp only[bB]at hg);first|omega|(refine⟨?_,?_⟩<;>omega)|(refine⟨?_,?_,?_⟩<;>first|omega|(show _<_;(try simp only[List.length_set]);omega)|exact leT rfl))|(refine⟨?_,?_⟩<;>omega)|(refine⟨?_,?_,?_⟩<;>first|omega|(show _<_;(try simp only[List.length_set]);omega)|exact leT rfl)|(simp only[show rI.d=(0:Int)from rfl];omega));done));(conv=>whnf))))
    refine EvCall.plain Try.call71 (.v (.int .i64 (cmpC (l.getD (0 + (((l.length : Int) - 0).tdiv 4) * 2).toNat cl0) (l.getD (0 + (((l.length : Int) - 0).tdiv 4) * 1).toNat cl0)))) rfl (fun ρ W hp => compare_s _ _ W) ?_
    ((conv=>whnf);repeat(refine And.intro (by omega) ?_;(conv=>whnf)))
    refine EvIf.neg (decide_eq_false (hs (0 + (((l.length : Int) - 0).tdiv 4) * 1).toNat (0 + (((l.length : Int) - 0).tdiv 4) * 2).toNat (by omega) (by omega))) ?_
    ((conv=>whnf);repeat(refine And.intro (by omega) ?_;(conv=>whnf)))
    refine EvRet.back ?_
    ((conv=>whnf);repeat(refine And.intro (by omega) ?_;(conv=>whnf)))
    refine EvRet.back ?_
    ((conv=>whnf);repeat(refine And.intro (by omega) ?_;(conv=>whnf)))
    refine EvIf.pos rfl ?_
    ((conv=>whnf);repeat(refine And.intro (by omega) ?_;(conv=>whnf)))
    refine EvRet.back ?_
    ((conv=>whnf);repeat(refine And.intro (by omega) ?_;(conv=>whnf)))
    refine EvIf.neg rfl ?_
    ((conv=>whnf);repeat(refine And.intro (by omega) ?_;(conv=>whnf)))
    refine EvIf.pos rfl ?_
    ((conv=>whnf);repeat(refine And.intro (by omega) ?_;(conv=>whnf)))
    refine EvCall.inline tabOk mixed Try.func104 rfl Try.ntmps104 Try.results104 Try.call104 rfl (fun ρ0 => ?_)
    ((conv=>whnf);repeat(refine And.intro (by omega) ?_;(conv=>whnf)))
    refine EvLoop.rounds 1 ?_
    ((conv=>whnf);repeat(refine And.intro (by omega) ?_;(conv=>whnf)))
    refine EvIf.pos rfl ?_
    ((conv=>whnf);repeat(refine And.intro (by omega) ?_;(conv=>whnf)))
    refine EvLoop.inv (α := Nat) (fun i => 1 ≤ i ∧ i ≤ l.length) (fun i => l.length - i) (fun i => [(9, [], .v (.int .i64 ((i : Int)))), (0, [], .s 1 4 l.length cap), (1, [], .v (.int .i64 (0))), (2, [], .v (.int .i64 ((l.length : Int)))), (3, [], .f 71 []), (10, [], .v (.int .i64 (0)))])
      (fun i => [⟨1, true, 62, 4, cap, .rows Cl rC (l)⟩]) 3 1 ⟨by omega, by omega⟩ (Sub.of [] [] rfl ?_) ?_
    · ((repeat' (refine And.intro ?_ ?_)) <;> first | rfl | exact True.intro | omega)
    intro i ⟨hi1, hi2⟩
    have hsi := fun (h : i < l.length) => hs (Int.toNat ((i : Int) - 1)) i (by omega) h
    ((conv=>whnf);repeat(refine And.intro (by omega) ?_;(conv=>whnf)))
    (refine EvDraw.one (.q 0 (.q 1 (.q 2 (.q 3 (.q 4 (.q 5 (.q 6 (.q 7 (.q 8 (.q 9 (.q 10 (.q 11 (.q 12 (.q 13 (.n 14 true (.q 15 (.q 16 (.q 17 (.z)))) (.e)))))))))))))))) (by kernel_rfl) ?_)
    ((conv=>whnf);(repeat(refine And.intro ?_ ?_;(focus((first|omega|exact⟨rfl,True.intro⟩|exact⟨rfl,rfl,True.intro⟩|rfl|(simp only[List.length_set];first|omega|(refine⟨?_,?_⟩<;>omega)|(refine⟨?_,?_,?_⟩<;>omega))|(intro hg;(try simp only[bB]at hg);first|omega|(refine⟨?_,?_⟩<;>omega)|(refine⟨?_,?_,?_⟩<;>first|omega|(show _<_;(try simp only[List.length_set]);omega)|exact leT rfl))|(refine⟨?_,?_⟩<;>omega)|(refine⟨?_,?_,?_⟩<;>first|omega|(show _<_;(try simp only[List.length_set]);omega)|exact leT rfl)|(simp only[show rI.d=(0:Int)from rfl];omega));done));(conv=>whnf))))
    refine EvCallC.plain Try.call71 (.v (.int .i64 (cmpC (l.getD i cl0) (l.getD (Int.toNat ((i : Int) - 1)) cl0)))) rfl (fun hc ρ W hp => compare_s (l.getD i cl0) (l.getD (Int.toNat ((i : Int) - 1)) cl0) W) ?_
    ((conv=>whnf);repeat(refine And.intro (by omega) ?_;(conv=>whnf)))
    refine EvIf.split (fun g1 => ?_) (fun g1 => ?_)
    · simp only [Bool.and_eq_true, decide_eq_true_eq] at g1
      ((conv=>whnf);repeat(refine And.intro (by omega) ?_;(conv=>whnf)))
      refine LoopI.back (i + 1) ⟨by omega, by omega⟩ (by omega) (Sub.of [] [] rfl ?_)
      ((repeat' (refine And.intro ?_ ?_)) <;> first | rfl | exact True.intro | omega)
    · have hin : i = l.length := by
        apply Classical.byContradiction
        intro hne
        have h3 := hsi (by omega)
        rw [decide_eq_true (show (i : Int) < (l.length : Int) by omega), decide_eq_false h3] at g1
        simp at g1
      ((conv=>whnf);repeat(refine And.intro (by omega) ?_;(conv=>whnf)))
      refine EvIf.pos (decide_eq_true (by omega)) ?_
      ((conv=>whnf);repeat(refine And.intro (by omega) ?_;(conv=>whnf)))
      refine EvRet.back ?_
      ((conv=>whnf);repeat(refine And.intro (by omega) ?_;(conv=>whnf)))
      refine EvIf.pos rfl ?_
      ((conv=>whnf);repeat(refine And.intro (by omega) ?_;(conv=>whnf)))
      refine EvRet.back ?_
      ((conv=>whnf);repeat(refine And.intro (by omega) ?_;(conv=>whnf)))
      refine EvRet.back ?_
      ((conv=>whnf);repeat(refine And.intro (by omega) ?_;(conv=>whnf)))
      exact EvRet.rows (R := rC) rfl hc1 rfl rfl
  · ((conv=>whnf);repeat(refine And.intro (by omega) ?_;(conv=>whnf)))
    refine EvCall.inline tabOk mixed Try.func119 rfl Try.ntmps119 Try.results119 Try.call119 rfl (fun ρ0 => ?_)
    ((conv=>whnf);repeat(refine And.intro (by omega) ?_;(conv=>whnf)))
    refine EvCall.inline tabOk mixed Try.func123 rfl Try.ntmps123 Try.results123 Try.call123 rfl (fun ρ0 => ?_)
    ((conv=>whnf);repeat(refine And.intro (by omega) ?_;(conv=>whnf)))
    (refine EvDraw.one (.q 0 (.q 1 (.q 2 (.q 3 (.q 4 (.q 5 (.q 6 (.q 7 (.q 8 (.n 9 true (.q 10 (.z)) (.e))))))))))) (by kernel_rfl) ?_)
    ((conv=>whnf);(repeat(refine And.intro ?_ ?_;(focus((first|omega|exact⟨rfl,True.intro⟩|exact⟨rfl,rfl,True.intro⟩|rfl|(simp only[List.length_set];first|omega|(refine⟨?_,?_⟩<;>omega)|(refine⟨?_,?_,?_⟩<;>omega))|(intro hg;(try simp only[bB]at hg);first|omega|(refine⟨?_,?_⟩<;>omega)|(refine⟨?_,?_,?_⟩<;>first|omega|(show _<_;(try simp only[List.length_set]);omega)|exact leT rfl))|(refine⟨?_,?_⟩<;>omega)|(refine⟨?_,?_,?_⟩<;>first|omega|(show _<_;(try simp only[List.length_set]);omega)|exact leT rfl)|(simp only[show rI.d=(0:Int)from rfl];omega));done));(conv=>whnf))))
    refine EvCall.plain Try.call71 (.v (.int .i64 (cmpC (l.getD (0 + (((l.length : Int) - 0).tdiv 4) * 2).toNat cl0) (l.getD (0 + (((l.length : Int) - 0).tdiv 4) * 1).toNat cl0)))) rfl (fun ρ W hp => compare_s _ _ W) ?_
    ((conv=>whnf);repeat(refine And.intro (by omega) ?_;(conv=>whnf)))
    refine EvIf.neg (decide_eq_false (hs (0 + (((l.length : Int) - 0).tdiv 4) * 1).toNat (0 + (((l.length : Int) - 0).tdiv 4) * 2).toNat (by omega) (by omega))) ?_
    ((conv=>whnf);repeat(refine And.intro (by omega) ?_;(conv=>whnf)))
    refine EvRet.back ?_
    ((conv=>whnf);repeat(refine And.intro (by omega) ?_;(conv=>whnf)))
    refine EvCall.inline tabOk mixed Try.func123 rfl Try.ntmps123 Try.results123 Try.call123 rfl (fun ρ0 => ?_)
    ((conv=>whnf);repeat(refine And.intro (by omega) ?_;(conv=>whnf)))
    (refine EvDraw.one (.q 0 (.q 1 (.q 2 (.q 3 (.q 4 (.q 5 (.q 6 (.q 7 (.q 8 (.n 9 true (.q 10 (.z)) (.e))))))))))) (by kernel_rfl) ?_)
    ((conv=>whnf);(repeat(refine And.intro ?_ ?_;(focus((first|omega|exact⟨rfl,True.intro⟩|exact⟨rfl,rfl,True.intro⟩|rfl|(simp only[List.length_set];first|omega|(refine⟨?_,?_⟩<;>omega)|(refine⟨?_,?_,?_⟩<;>omega))|(intro hg;(try simp only[bB]at hg);first|omega|(refine⟨?_,?_⟩<;>omega)|(refine⟨?_,?_,?_⟩<;>first|omega|(show _<_;(try simp only[List.length_set]);omega)|exact leT rfl))|(refine⟨?_,?_⟩<;>omega)|(refine⟨?_,?_,?_⟩<;>first|omega|(show _<_;(try simp only[List.length_set]);omega)|exact leT rfl)|(simp only[show rI.d=(0:Int)from rfl];omega));done));(conv=>whnf))))
    refine EvCall.plain Try.call71 (.v (.int .i64 (cmpC (l.getD (0 + (((l.length : Int) - 0).tdiv 4) * 3).toNat cl0) (l.getD (0 + (((l.length : Int) - 0).tdiv 4) * 2).toNat cl0)))) rfl (fun ρ W hp => compare_s _ _ W) ?_
    ((conv=>whnf);repeat(refine And.intro (by omega) ?_;(conv=>whnf)))
    refine EvIf.neg (decide_eq_false (hs (0 + (((l.length : Int) - 0).tdiv 4) * 2).toNat (0 + (((l.length : Int) - 0).tdiv 4) * 3).toNat (by omega) (by omega))) ?_
    ((conv=>whnf);repeat(refine And.intro (by omega) ?_;(conv=>whnf)))
    refine EvRet.back ?_
    ((conv=>whnf);repeat(refine And.intro (by omega) ?_;(conv=>whnf)))
    refine EvCall.inline tabOk mixed Try.func123 rfl Try.ntmps123 Try.results123 Try.call123 rfl (fun ρ0 => ?_)
    ((conv=>whnf);repeat(refine And.intro (by omega) ?_;(conv=>whnf)))
    (refine EvDraw.one (.q 0 (.q 1 (.q 2 (.q 3 (.q 4 (.q 5 (.q 6 (.q 7 (.q 8 (.n 9 true (.q 10 (.z)) (.e))))))))))) (by kernel_rfl) ?_)
    ((conv=>whnf);(repeat(refine And.intro ?_ ?_;(focus((first|omega|exact⟨rfl,True.intro⟩|exact⟨rfl,rfl,True.intro⟩|rfl|(simp only[List.length_set];first|omega|(refine⟨?_,?_⟩<;>omega)|(refine⟨?_,?_,?_⟩<;>omega))|(intro hg;(try simp only[bB]at hg);first|omega|(refine⟨?_,?_⟩<;>omega)|(refine⟨?_,?_,?_⟩<;>first|omega|(show _<_;(try simp only[List.length_set]);omega)|exact leT rfl))|(refine⟨?_,?_⟩<;>omega)|(refine⟨?_,?_,?_⟩<;>first|omega|(show _<_;(try simp only[List.length_set]);omega)|exact leT rfl)|(simp only[show rI.d=(0:Int)from rfl];omega));done));(conv=>whnf))))
    refine EvCall.plain Try.call71 (.v (.int .i64 (cmpC (l.getD (0 + (((l.length : Int) - 0).tdiv 4) * 2).toNat cl0) (l.getD (0 + (((l.length : Int) - 0).tdiv 4) * 1).toNat cl0)))) rfl (fun ρ W hp => compare_s _ _ W) ?_
    ((conv=>whnf);repeat(refine And.intro (by omega) ?_;(conv=>whnf)))
    refine EvIf.neg (decide_eq_false (hs (0 + (((l.length : Int) - 0).tdiv 4) * 1).toNat (0 + (((l.length : Int) - 0).tdiv 4) * 2).toNat (by omega) (by omega))) ?_
    ((conv=>whnf);repeat(refine And.intro (by omega) ?_;(conv=>whnf)))
    refine EvRet.back ?_
    ((conv=>whnf);repeat(refine And.intro (by omega) ?_;(conv=>whnf)))
    refine EvRet.back ?_
    ((conv=>whnf);repeat(refine And.intro (by omega) ?_;(conv=>whnf)))
    refine EvIf.pos rfl ?_
    ((conv=>whnf);repeat(refine And.intro (by omega) ?_;(conv=>whnf)))
    refine EvRet.back ?_
    ((conv=>whnf);repeat(refine And.intro (by omega) ?_;(conv=>whnf)))
    refine EvIf.neg rfl ?_
    ((conv=>whnf);repeat(refine And.intro (by omega) ?_;(conv=>whnf)))
    refine EvIf.pos rfl ?_
    ((conv=>whnf);repeat(refine And.intro (by omega) ?_;(conv=>whnf)))
    refine EvCall.inline tabOk mixed Try.func104 rfl Try.ntmps104 Try.results104 Try.call104 rfl (fun ρ0 => ?_)
    ((conv=>whnf);repeat(refine And.intro (by omega) ?_;(conv=>whnf)))
    refine EvLoop.rounds 1 ?_
    ((conv=>whnf);repeat(refine And.intro (by omega) ?_;(conv=>whnf)))
    refine EvIf.pos rfl ?_
    ((conv=>whnf);repeat(refine And.intro (by omega) ?_;(conv=>whnf)))
    refine EvLoop.inv (α := Nat) (fun i => 1 ≤ i ∧ i ≤ l.length) (fun i => l.length - i) (fun i => [(9, [], .v (.int .i64 ((i : Int)))), (0, [], .s 1 4 l.length cap), (1, [], .v (.int .i64 (0))), (2, [], .v (.int .i64 ((l.length : Int)))), (3, [], .f 71 []), (10, [], .v (.int .i64 (0)))])
      (fun i => [⟨1, true, 62, 4, cap, .rows Cl rC (l)⟩]) 3 1 ⟨by omega, by omega⟩ (Sub.of [] [] rfl ?_) ?_
    · ((repeat' (refine And.intro ?_ ?_)) <;> first | rfl | exact True.intro | omega)
    intro i ⟨hi1, hi2⟩
    have hsi := fun (h : i < l.length) => hs (Int.toNat ((i : Int) - 1)) i (by omega) h
    ((conv=>whnf);repeat(refine And.intro (by omega) ?_;(conv=>whnf)))
    (refine EvDraw.one (.q 0 (.q 1 (.q 2 (.q 3 (.q 4 (.q 5 (.q 6 (.q 7 (.q 8 (.q 9 (.q 10 (.q 11 (.q 12 (.q 13 (.n 14 true (.q 15 (.q 16 (.q 17 (.z)))) (.e)))))))))))))))) (by kernel_rfl) ?_)
    ((conv=>whnf);(repeat(refine And.intro ?_ ?_;(focus((first|omega|exact⟨rfl,True.intro⟩|exact⟨rfl,rfl,True.intro⟩|rfl|(simp only[List.length_set];first|omega|(refine⟨?_,?_⟩<;>omega)|(refine⟨?_,?_,?_⟩<;>omega))|(intro hg;(try simp only[bB]at hg);first|omega|(refine⟨?_,?_⟩<;>omega)|(refine⟨?_,?_,?_⟩<;>first|omega|(show _<_;(try simp only[List.length_set]);omega)|exact leT rfl))|(refine⟨?_,?_⟩<;>omega)|(refine⟨?_,?_,?_⟩<;>first|omega|(show _<_;(try simp only[List.length_set]);omega)|exact leT rfl)|(simp only[show rI.d=(0:Int)from rfl];omega));done));(conv=>whnf))))
    refine EvCallC.plain Try.call71 (.v (.int .i64 (cmpC (l.getD i cl0) (l.getD (Int.toNat ((i : Int) - 1)) cl0)))) rfl (fun hc ρ W hp => compare_s (l.getD i cl0) (l.getD (Int.toNat ((i : Int) - 1)) cl0) W) ?_
    ((conv=>whnf);repeat(refine And.intro (by omega) ?_;(conv=>whnf)))
    refine EvIf.split (fun g1 => ?_) (fun g1 => ?_)
    · simp only [Bool.and_eq_true, decide_eq_true_eq] at g1
      ((conv=>whnf);repeat(refine And.intro (by omega) ?_;(conv=>whnf)))
      refine LoopI.back (i + 1) ⟨by omega, by omega⟩ (by omega) (Sub.of [] [] rfl ?_)
      ((repeat' (refine And.intro ?_ ?_)) <;> first | rfl | exact True.intro | omega)
    · have hin : i = l.length := by
        apply Classical.byContradiction
        intro hne
        have h3 := hsi (by omega)
        rw [decide_eq_true (show (i : Int) < (l.length : Int) by omega), decide_eq_false h3] at g1
        simp at g1
      ((conv=>whnf);repeat(refine And.intro (by omega) ?_;(conv=>whnf)))
      refine EvIf.pos (decide_eq_true (by omega)) ?_
      ((conv=>whnf);repeat(refine And.intro (by omega) ?_;(conv=>whnf)))
      refine EvRet.back ?_
      ((conv=>whnf);repeat(refine And.intro (by omega) ?_;(conv=>whnf)))
      refine EvIf.pos rfl ?_
      ((conv=>whnf);repeat(refine And.intro (by omega) ?_;(conv=>whnf)))
      refine EvRet.back ?_
      ((conv=>whnf);repeat(refine And.intro (by omega) ?_;(conv=>whnf)))
      refine EvRet.back ?_
      ((conv=>whnf);repeat(refine And.intro (by omega) ?_;(conv=>whnf)))
      exact EvRet.rows (R := rC) rfl hc1 rfl rfl
theorem insC_last (x : Cl) : ∀ s : List Cl, (∀ y ∈ s, cmpC y x ≤ 0) → insC s x = s ++ [x]
  | [], _ => rfl
  | y :: r, h => by
    unfold insC
    rw [if_pos (h y (List.mem_cons_self ..)), insC_last x r (fun z hz => h z (List.mem_cons_of_mem _ hz))]
    rfl
theorem sortC_take {l : List Cl} (hs : SrtC l) : ∀ n, n ≤ l.length → sortC (l.take n) = l.take n
  | 0, _ => by simp [sortC]
  | n + 1, h => by
    have e : l.take (n + 1) = l.take n ++ [l.getD n cl0] := by
      rw [List.take_add_one]
      simp [List.getD_eq_getElem?_getD, show n < l.length by omega]
    rw [e, sortC_snoc, sortC_take hs n (by omega), insC_last]
    intro y hy
    obtain ⟨i, hi, rfl⟩ := List.mem_iff_getElem.1 hy
    have hi2 : i < n := by simp at hi; omega
    have h1 := hs i n (by omega) (by omega)
    have e2 : (l.take n)[i] = l.getD i cl0 := by
      simp [List.getD_eq_getElem?_getD, show i < l.length by omega]
    rw [e2]
    rw [cmpC_lt] at h1
    exact Classical.not_not.1 h1
theorem sortC_srt {l : List Cl} (hs : SrtC l) : sortC l = l := by
  have := sortC_take hs l.length (Nat.le_refl _)
  rwa [List.take_length] at this
/-- A list that claims.Sort is walked for: short, or sorted already. -/
def SortOk (l : List Cl) : Prop := l.length ≤ 12 ∨ l.length < 102 ∧ SrtC l
theorem sortOk_len {l : List Cl} (h : SortOk l) : l.length < 102 := by rcases h with h | h; omega; exact h.1
theorem sortk_s (v : Value) (l : List Cl) (w : World) (hv : RowsIn rC w v l) (h : SortOk l) : Con Try.prog 52 #[v] w (RetRows rC 62 w (sortC l)) := by
  by_cases h12 : l.length ≤ 12
  · exact sort_s v l w hv h12
  · rcases h with h | ⟨h1, h2⟩
    · exact absurd h h12
    · rw [sortC_srt h2]
      exact sortb_s v l w hv (by omega) h1 h2
end Go.Proofs.Ytpnngbfmmjjnaaa
