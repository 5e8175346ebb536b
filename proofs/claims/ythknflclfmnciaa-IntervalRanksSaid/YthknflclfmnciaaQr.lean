
/- Intervals: products, quotients, the examples of the section; walked. -/
import Derived.Test.YthknflclfmnciaaQl
namespace Go.Proofs.Ythknflclfmnciaa
open Go.RowKit
set_option linter.unusedVariables false
set_option linter.unusedSimpArgs false

set_option maxRecDepth 10000 in
theorem imul_s (x y : Iv) (w : World) : Con Try.prog 52 #[iV x, iV y] w (Ret w (ieV (imulF x y))) := by
  refine enter tabOk mixed Try.func52 rfl Try.ntmps52 Try.results52 [.a (iS x), .a (iS y)] (fun _ => none) [] 0 rfl rfl (hp0 _ _ _) ?_
  ((conv=>whnf);repeat(refine And.intro (by omega) ?_;(conv=>whnf)))
  refine EvCall.plain Try.call27 (.v (.bool (ivB x))) rfl (fun ρ W hp => ivalid_s x W) ?_
  ((conv=>whnf);repeat(refine And.intro (by omega) ?_;(conv=>whnf)))
  refine EvCallC.plain Try.call27 (.v (.bool (ivB y))) rfl (fun _ ρ W hp => ivalid_s y W) ?_
  ((conv=>whnf);repeat(refine And.intro (by omega) ?_;(conv=>whnf)))
  refine EvIf.split (fun g1 => ?_) (fun g1 => ?_)
  · have g2 : (ivB x && ivB y) = false := by cases h1 : ivB x <;> cases h2 : ivB y <;> simp_all
    ((conv=>whnf);repeat(refine And.intro (by omega) ?_;(conv=>whnf)))
    exact EvRet.ret (fun _ => by unfold imulF; rw [g2]; rfl)
  have g2 : (ivB x && ivB y) = true := by cases h1 : ivB x <;> cases h2 : ivB y <;> simp_all
  ((conv=>whnf);repeat(refine And.intro (by omega) ?_;(conv=>whnf)))
  refine EvCall.plain Try.call73 (ieS (crnF mulF x y)) rfl (fun ρ W hp => by rw [ieS_den]; exact cornM_s x y W) ?_
  ((conv=>whnf);repeat(refine And.intro (by omega) ?_;(conv=>whnf)))
  exact EvRet.ret (fun _ => by unfold imulF; rw [g2]; exact ieS_den _ _)
set_option maxRecDepth 10000 in
theorem idiv_s (x y : Iv) (w : World) : Con Try.prog 54 #[iV x, iV y] w (Ret w (ieV (idivF x y))) := by
  refine enter tabOk mixed Try.func54 rfl Try.ntmps54 Try.results54 [.a (iS x), .a (iS y)] (fun _ => none) [] 0 rfl rfl (hp0 _ _ _) ?_
  ((conv=>whnf);repeat(refine And.intro (by omega) ?_;(conv=>whnf)))
  refine EvCall.plain Try.call27 (.v (.bool (ivB x))) rfl (fun ρ W hp => ivalid_s x W) ?_
  ((conv=>whnf);repeat(refine And.intro (by omega) ?_;(conv=>whnf)))
  refine EvCallC.plain Try.call27 (.v (.bool (ivB y))) rfl (fun _ ρ W hp => ivalid_s y W) ?_
  ((conv=>whnf);repeat(refine And.intro (by omega) ?_;(conv=>whnf)))
  refine EvIf.split (fun g1 => ?_) (fun g1 => ?_)
  · have g2 : (ivB x && ivB y) = false := by cases h1 : ivB x <;> cases h2 : ivB y <;> simp_all
    ((conv=>whnf);repeat(refine And.intro (by omega) ?_;(conv=>whnf)))
    exact EvRet.ret (fun _ => by unfold idivF; rw [g2]; rfl)
  have g2 : (ivB x && ivB y) = true := by cases h1 : ivB x <;> cases h2 : ivB y <;> simp_all
  ((conv=>whnf);repeat(refine And.intro (by omega) ?_;(conv=>whnf)))
  refine EvIf.split (fun g3 => ?_) (fun g3 => ?_)
  · have g4 : y.lo.n ≤ 0 ∧ 0 ≤ y.hi.n := by simpa using g3
    ((conv=>whnf);repeat(refine And.intro (by omega) ?_;(conv=>whnf)))
    exact EvRet.ret (fun _ => by unfold idivF; rw [g2, if_pos rfl, if_pos g4]; rfl)
  have g4 : ¬ (y.lo.n ≤ 0 ∧ 0 ≤ y.hi.n) := by
    simp only [Bool.and_eq_false_iff, decide_eq_false_iff_not] at g3
    omega
  ((conv=>whnf);repeat(refine And.intro (by omega) ?_;(conv=>whnf)))
  refine EvCall.plain Try.call73 (ieS (crnF divF x y)) rfl (fun ρ W hp => by rw [ieS_den]; exact cornD_s x y W) ?_
  ((conv=>whnf);repeat(refine And.intro (by omega) ?_;(conv=>whnf)))
  exact EvRet.ret (fun _ => by unfold idivF; rw [g2, if_pos rfl, if_neg g4]; exact ieS_den _ _)
def ofI4 (a b : Int) : Iv := ⟨⟨a, 1⟩, ⟨b, 1⟩⟩
theorem of_s (a b : Int) (w : World) : Con Try.prog 53 #[.int .i64 a, .int .i64 b] w (Ret w (iV (ofI4 a b))) := by
  refine enter tabOk mixed Try.func53 rfl Try.ntmps53 Try.results53 [.v (.int .i64 a), .v (.int .i64 b)] (fun _ => none) [] 0 rfl rfl (hp0 _ _ _) ?_
  ((conv=>whnf);repeat(refine And.intro (by omega) ?_;(conv=>whnf)))
  exact EvRet.ret (fun _ => rfl)
theorem lv_mul : imulF (ofI4 (-1) 2) (ofI4 (-3) 4) = (ofI4 (-6) 8, 0) := by decide +kernel
theorem lv_div : idivF (ofI4 1 2) (ofI4 (-1) 1) = (iv0, 6) := by decide +kernel
theorem lv_kth : kthF [ofI4 0 9, ofI4 1 2] 2 = (ofI4 1 9, 0) := by decide +kernel
theorem lv_at : atLF (ofI4 3 5) ⟨4, 1⟩ = 1 := by decide +kernel
set_option maxRecDepth 10000 in
theorem lives_s (w : World) : Con Try.prog 16 #[] w (Ret w (.bool true)) := by
  refine enter tabOk mixed Try.func16 rfl Try.ntmps16 Try.results16 [] (fun _ => none) [] 0 rfl rfl (hp0 _ _ _) ?_
  ((conv=>whnf);repeat(refine And.intro (by omega) ?_;(conv=>whnf)))
  refine EvCall.plain Try.call53 (.a (iS (ofI4 (-1) 2))) rfl (fun ρ W hp => by rw [iS_den]; exact of_s (-1) 2 W) ?_
  ((conv=>whnf);repeat(refine And.intro (by omega) ?_;(conv=>whnf)))
  refine EvCall.plain Try.call53 (.a (iS (ofI4 (-3) 4))) rfl (fun ρ W hp => by rw [iS_den]; exact of_s (-3) 4 W) ?_
  ((conv=>whnf);repeat(refine And.intro (by omega) ?_;(conv=>whnf)))
  refine EvCall.plain Try.call52 (ieS (ofI4 (-6) 8, 0)) rfl (fun ρ W hp => by rw [ieS_den, ← lv_mul]; exact imul_s _ _ W) ?_
  ((conv=>whnf);repeat(refine And.intro (by omega) ?_;(conv=>whnf)))
  refine EvCall.plain Try.call53 (.a (iS (ofI4 1 2))) rfl (fun ρ W hp => by rw [iS_den]; exact of_s 1 2 W) ?_
  ((conv=>whnf);repeat(refine And.intro (by omega) ?_;(conv=>whnf)))
  refine EvCall.plain Try.call53 (.a (iS (ofI4 (-1) 1))) rfl (fun ρ W hp => by rw [iS_den]; exact of_s (-1) 1 W) ?_
  ((conv=>whnf);repeat(refine And.intro (by omega) ?_;(conv=>whnf)))
  refine EvCall.plain Try.call54 (ieS (iv0, 6)) rfl (fun ρ W hp => by rw [ieS_den, ← lv_div]; exact idiv_s _ _ W) ?_
  ((conv=>whnf);repeat(refine And.intro (by omega) ?_;(conv=>whnf)))
  refine EvCall.plain Try.call53 (.a (iS (ofI4 0 9))) rfl (fun ρ W hp => by rw [iS_den]; exact of_s 0 9 W) ?_
  ((conv=>whnf);repeat(refine And.intro (by omega) ?_;(conv=>whnf)))
  refine EvCall.plain Try.call53 (.a (iS (ofI4 1 2))) rfl (fun ρ W hp => by rw [iS_den]; exact of_s 1 2 W) ?_
  ((conv=>whnf);repeat(refine And.intro (by omega) ?_;(conv=>whnf)))
  refine EvCall.plain Try.call14 (ieS (ofI4 1 9, 0)) rfl (fun ρ W hp => by
    rw [ieS_den, ← lv_kth]
    exact kth_s _ [ofI4 0 9, ofI4 1 2] 2 W (hp.lit (R := rV) (ys := [ofI4 0 9, ofI4 1 2]) (n := 2) rfl (by decide) (by simp) (by omega) rfl) (by simp) (by omega)) ?_
  ((conv=>whnf);repeat(refine And.intro (by omega) ?_;(conv=>whnf)))
  (refine EvDraw.one (.q 0 (.q 1 (.q 2 (.q 3 (.n 4 false (.q 5 (.q 6 (.q 7 (.q 8 (.q 9 (.q 10 (.q 11 (.q 12 (.q 13 (.q 14 (.q 15 (.q 16 (.n 17 false (.q 18 (.q 19 (.q 20 (.q 22 (.n 21 true (.n 23 true (.q 24 (.q 25 (.q 26 (.z)))) (.e)) (.e)))))) (.e)))))))))))))) (.e)))))) (by kernel_rfl) ?_)
  ((conv=>whnf);repeat(refine And.intro (by omega) ?_;(conv=>whnf)))
  refine EvCallC.plain Try.call53 (.a (iS (ofI4 (-6) 8))) rfl (fun _ ρ W hp => by rw [iS_den]; exact of_s (-6) 8 W) ?_
  ((conv=>whnf);repeat(refine And.intro (by omega) ?_;(conv=>whnf)))
  refine EvCallC.plain Try.call53 (.a (iS (ofI4 1 9))) rfl (fun _ ρ W hp => by rw [iS_den]; exact of_s 1 9 W) ?_
  ((conv=>whnf);repeat(refine And.intro (by omega) ?_;(conv=>whnf)))
  refine EvCallC.plain Try.call53 (.a (iS (ofI4 3 5))) rfl (fun _ ρ W hp => by rw [iS_den]; exact of_s 3 5 W) ?_
  ((conv=>whnf);repeat(refine And.intro (by omega) ?_;(conv=>whnf)))
  refine EvCallC.plain Try.call21 (.v (.int .i64 1)) rfl (fun _ ρ W hp => by
    have := atleast_s (ofI4 3 5) ⟨4, 1⟩ W
    rw [lv_at] at this
    exact this) ?_
  ((conv=>whnf);repeat(refine And.intro (by omega) ?_;(conv=>whnf)))
  exact ret_bool rfl
end Go.Proofs.Ythknflclfmnciaa
