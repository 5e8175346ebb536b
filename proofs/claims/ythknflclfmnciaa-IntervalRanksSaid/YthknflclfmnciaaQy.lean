
/- Intervals: the lattice, walked. -/
import Derived.Test.YthknflclfmnciaaQr
import Derived.Test.YthknflclfmnciaaQw
namespace Go.Proofs.Ythknflclfmnciaa
open Go.RowKit
set_option linter.unusedVariables false
set_option linter.unusedSimpArgs false

theorem both_v {x y : Iv} (h : (ivB x && ivB y) = true) : vI x ∧ vI y := by
  simp only [Bool.and_eq_true] at h
  exact ⟨(ivB_iff x).1 h.1, (ivB_iff y).1 h.2⟩
set_option maxRecDepth 10000 in
theorem imin_s (x y : Iv) (w : World) : Con Try.prog 35 #[iV x, iV y] w (Ret w (iV (iminF x y))) := by
  refine enter tabOk mixed Try.func35 rfl Try.ntmps35 Try.results35 [.a (iS x), .a (iS y)] (fun _ => none) [] 0 rfl rfl (hp0 _ _ _) ?_
  ((conv=>whnf);repeat(refine And.intro (by omega) ?_;(conv=>whnf)))
  refine EvCall.plain Try.call27 (.v (.bool (ivB x))) rfl (fun ρ W hp => ivalid_s x W) ?_
  ((conv=>whnf);repeat(refine And.intro (by omega) ?_;(conv=>whnf)))
  refine EvCallC.plain Try.call27 (.v (.bool (ivB y))) rfl (fun _ ρ W hp => ivalid_s y W) ?_
  ((conv=>whnf);repeat(refine And.intro (by omega) ?_;(conv=>whnf)))
  refine EvIf.split (fun g1 => ?_) (fun g1 => ?_)
  · have g2 : (ivB x && ivB y) = false := by cases h1 : ivB x <;> cases h2 : ivB y <;> simp_all
    ((conv=>whnf);repeat(refine And.intro (by omega) ?_;(conv=>whnf)))
    exact EvRet.ret (fun _ => by unfold iminF; rw [g2]; rfl)
  have g2 : (ivB x && ivB y) = true := by cases h1 : ivB x <;> cases h2 : ivB y <;> simp_all
  obtain ⟨hx, hy⟩ := both_v g2
  ((conv=>whnf);repeat(refine And.intro (by omega) ?_;(conv=>whnf)))
  refine EvDraw.meet (.q 0 (.q 1 (.q 2 (.q 3 (.q 6 (.q 7 (.q 8 (.q 9 (.n 4 false (.n 5 false (.n 10 false (.n 11 true (.q 12 (.n 13 true (.z) (.e))) (.e)) (.e)) (.n 10 false (.n 5 false (.n 11 true (.q 12 (.n 13 true (.z) (.e))) (.e)) (.e)) (.e))) (.n 10 false (.n 4 false (.n 5 false (.n 11 true (.q 12 (.n 13 true (.z) (.e))) (.e)) (.e)) (.e)) (.e))))))))))) (by kernel_rfl) (α := Unit) (fun _ => True) (fun _ => [(4, [], .p 2 0)])
    (fun _ => [⟨2, true, 27, 4, 1, .cs (iS ⟨lesF x.lo y.lo, lesF x.hi y.hi⟩)⟩]) 3 ?_ ?_
  · ((conv=>whnf);repeat(refine And.intro (by omega) ?_;(conv=>whnf)))
    refine And.intro ?_ ?_
    · ((conv=>whnf);repeat(refine And.intro (by omega) ?_;(conv=>whnf)))
      refine And.intro ?_ ?_
      · ((conv=>whnf);repeat(refine And.intro (by omega) ?_;(conv=>whnf)))
        refine EvCall.plain Try.call65 (.a (fS (lesF x.lo y.lo))) rfl (fun ρ W hp => by
          rw [fS_den]
          exact least_s x.lo _ [y.lo] W (hp.lit (R := rF) (ys := [y.lo]) (n := 3) rfl (by decide) (by simp) (by omega) rfl) (by simp)) ?_
        ((conv=>whnf);repeat(refine And.intro (by omega) ?_;(conv=>whnf)))
        refine EvCall.plain Try.call65 (.a (fS (lesF x.hi y.hi))) rfl (fun ρ W hp => by
          rw [fS_den]
          exact least_s x.hi _ [y.hi] W (hp.lit (R := rF) (ys := [y.hi]) (n := 4) rfl (by decide) (by simp) (by omega) rfl) (by simp)) ?_
        ((conv=>whnf);repeat(refine And.intro (by omega) ?_;(conv=>whnf)))
        refine Exists.intro () (And.intro trivial (Sub.of [] [] rfl ?_))
        ((repeat' (refine And.intro ?_ ?_)) <;> first | rfl | exact True.intro | omega)
      ((conv=>whnf);repeat(refine And.intro (by omega) ?_;(conv=>whnf)))
      refine EvCall.plain Try.call65 (.a (fS (lesF x.lo y.lo))) rfl (fun ρ W hp => by
        rw [fS_den]
        exact least_s x.lo _ [y.lo] W (hp.lit (R := rF) (ys := [y.lo]) (n := 3) rfl (by decide) (by simp) (by omega) rfl) (by simp)) ?_
      ((conv=>whnf);repeat(refine And.intro (by omega) ?_;(conv=>whnf)))
      refine EvCall.plain Try.call65 (.a (fS (lesF x.hi y.hi))) rfl (fun ρ W hp => by
        rw [fS_den]
        exact least_s x.hi _ [y.hi] W (hp.lit (R := rF) (ys := [y.hi]) (n := 4) rfl (by decide) (by simp) (by omega) rfl) (by simp)) ?_
      ((conv=>whnf);repeat(refine And.intro (by omega) ?_;(conv=>whnf)))
      refine Exists.intro () (And.intro trivial (Sub.of [] [] rfl ?_))
      ((repeat' (refine And.intro ?_ ?_)) <;> first | rfl | exact True.intro | omega)
    ((conv=>whnf);repeat(refine And.intro (by omega) ?_;(conv=>whnf)))
    refine EvCall.plain Try.call65 (.a (fS (lesF x.lo y.lo))) rfl (fun ρ W hp => by
      rw [fS_den]
      exact least_s x.lo _ [y.lo] W (hp.lit (R := rF) (ys := [y.lo]) (n := 4) rfl (by decide) (by simp) (by omega) rfl) (by simp)) ?_
    ((conv=>whnf);repeat(refine And.intro (by omega) ?_;(conv=>whnf)))
    refine EvCall.plain Try.call65 (.a (fS (lesF x.hi y.hi))) rfl (fun ρ W hp => by
      rw [fS_den]
      exact least_s x.hi _ [y.hi] W (hp.lit (R := rF) (ys := [y.hi]) (n := 3) rfl (by decide) (by simp) (by omega) rfl) (by simp)) ?_
    ((conv=>whnf);repeat(refine And.intro (by omega) ?_;(conv=>whnf)))
    refine Exists.intro () (And.intro trivial (Sub.of [] [] rfl ?_))
    ((repeat' (refine And.intro ?_ ?_)) <;> first | rfl | exact True.intro | omega)
  intro _ _
  ((conv=>whnf);repeat(refine And.intro (by omega) ?_;(conv=>whnf)))
  exact EvRet.ret (fun _ => by unfold iminF; rw [g2]; rfl)
set_option maxRecDepth 10000 in
theorem imax_s (x y : Iv) (w : World) : Con Try.prog 37 #[iV x, iV y] w (Ret w (iV (imaxF x y))) := by
  refine enter tabOk mixed Try.func37 rfl Try.ntmps37 Try.results37 [.a (iS x), .a (iS y)] (fun _ => none) [] 0 rfl rfl (hp0 _ _ _) ?_
  ((conv=>whnf);repeat(refine And.intro (by omega) ?_;(conv=>whnf)))
  refine EvCall.plain Try.call27 (.v (.bool (ivB x))) rfl (fun ρ W hp => ivalid_s x W) ?_
  ((conv=>whnf);repeat(refine And.intro (by omega) ?_;(conv=>whnf)))
  refine EvCallC.plain Try.call27 (.v (.bool (ivB y))) rfl (fun _ ρ W hp => ivalid_s y W) ?_
  ((conv=>whnf);repeat(refine And.intro (by omega) ?_;(conv=>whnf)))
  refine EvIf.split (fun g1 => ?_) (fun g1 => ?_)
  · have g2 : (ivB x && ivB y) = false := by cases h1 : ivB x <;> cases h2 : ivB y <;> simp_all
    ((conv=>whnf);repeat(refine And.intro (by omega) ?_;(conv=>whnf)))
    exact EvRet.ret (fun _ => by unfold imaxF; rw [g2]; rfl)
  have g2 : (ivB x && ivB y) = true := by cases h1 : ivB x <;> cases h2 : ivB y <;> simp_all
  obtain ⟨hx, hy⟩ := both_v g2
  ((conv=>whnf);repeat(refine And.intro (by omega) ?_;(conv=>whnf)))
  refine EvDraw.meet (.q 0 (.q 1 (.q 2 (.q 3 (.q 6 (.q 7 (.q 8 (.q 9 (.n 4 false (.n 5 false (.n 10 false (.n 11 true (.q 12 (.n 13 true (.z) (.e))) (.e)) (.e)) (.n 10 false (.n 5 false (.n 11 true (.q 12 (.n 13 true (.z) (.e))) (.e)) (.e)) (.e))) (.n 10 false (.n 4 false (.n 5 false (.n 11 true (.q 12 (.n 13 true (.z) (.e))) (.e)) (.e)) (.e)) (.e))))))))))) (by kernel_rfl) (α := Unit) (fun _ => True) (fun _ => [(4, [], .p 2 0)])
    (fun _ => [⟨2, true, 27, 4, 1, .cs (iS ⟨greF x.lo y.lo, greF x.hi y.hi⟩)⟩]) 3 ?_ ?_
  · ((conv=>whnf);repeat(refine And.intro (by omega) ?_;(conv=>whnf)))
    refine And.intro ?_ ?_
    · ((conv=>whnf);repeat(refine And.intro (by omega) ?_;(conv=>whnf)))
      refine And.intro ?_ ?_
      · ((conv=>whnf);repeat(refine And.intro (by omega) ?_;(conv=>whnf)))
        refine EvCall.plain Try.call64 (.a (fS (greF x.lo y.lo))) rfl (fun ρ W hp => by
          rw [fS_den]
          exact greatest_s x.lo _ [y.lo] W (hp.lit (R := rF) (ys := [y.lo]) (n := 3) rfl (by decide) (by simp) (by omega) rfl) (by simp)) ?_
        ((conv=>whnf);repeat(refine And.intro (by omega) ?_;(conv=>whnf)))
        refine EvCall.plain Try.call64 (.a (fS (greF x.hi y.hi))) rfl (fun ρ W hp => by
          rw [fS_den]
          exact greatest_s x.hi _ [y.hi] W (hp.lit (R := rF) (ys := [y.hi]) (n := 4) rfl (by decide) (by simp) (by omega) rfl) (by simp)) ?_
        ((conv=>whnf);repeat(refine And.intro (by omega) ?_;(conv=>whnf)))
        refine Exists.intro () (And.intro trivial (Sub.of [] [] rfl ?_))
        ((repeat' (refine And.intro ?_ ?_)) <;> first | rfl | exact True.intro | omega)
      ((conv=>whnf);repeat(refine And.intro (by omega) ?_;(conv=>whnf)))
      refine EvCall.plain Try.call64 (.a (fS (greF x.lo y.lo))) rfl (fun ρ W hp => by
        rw [fS_den]
        exact greatest_s x.lo _ [y.lo] W (hp.lit (R := rF) (ys := [y.lo]) (n := 3) rfl (by decide) (by simp) (by omega) rfl) (by simp)) ?_
      ((conv=>whnf);repeat(refine And.intro (by omega) ?_;(conv=>whnf)))
      refine EvCall.plain Try.call64 (.a (fS (greF x.hi y.hi))) rfl (fun ρ W hp => by
        rw [fS_den]
        exact greatest_s x.hi _ [y.hi] W (hp.lit (R := rF) (ys := [y.hi]) (n := 4) rfl (by decide) (by simp) (by omega) rfl) (by simp)) ?_
      ((conv=>whnf);repeat(refine And.intro (by omega) ?_;(conv=>whnf)))
      refine Exists.intro () (And.intro trivial (Sub.of [] [] rfl ?_))
      ((repeat' (refine And.intro ?_ ?_)) <;> first | rfl | exact True.intro | omega)
    ((conv=>whnf);repeat(refine And.intro (by omega) ?_;(conv=>whnf)))
    refine EvCall.plain Try.call64 (.a (fS (greF x.lo y.lo))) rfl (fun ρ W hp => by
      rw [fS_den]
      exact greatest_s x.lo _ [y.lo] W (hp.lit (R := rF) (ys := [y.lo]) (n := 4) rfl (by decide) (by simp) (by omega) rfl) (by simp)) ?_
    ((conv=>whnf);repeat(refine And.intro (by omega) ?_;(conv=>whnf)))
    refine EvCall.plain Try.call64 (.a (fS (greF x.hi y.hi))) rfl (fun ρ W hp => by
      rw [fS_den]
      exact greatest_s x.hi _ [y.hi] W (hp.lit (R := rF) (ys := [y.hi]) (n := 3) rfl (by decide) (by simp) (by omega) rfl) (by simp)) ?_
    ((conv=>whnf);repeat(refine And.intro (by omega) ?_;(conv=>whnf)))
    refine Exists.intro () (And.intro trivial (Sub.of [] [] rfl ?_))
    ((repeat' (refine And.intro ?_ ?_)) <;> first | rfl | exact True.intro | omega)
  intro _ _
  ((conv=>whnf);repeat(refine And.intro (by omega) ?_;(conv=>whnf)))
  exact EvRet.ret (fun _ => by unfold imaxF; rw [g2]; rfl)
set_option maxRecDepth 10000 in
theorem ihull_s (x y : Iv) (w : World) : Con Try.prog 39 #[iV x, iV y] w (Ret w (iV (ihullF x y))) := by
  refine enter tabOk mixed Try.func39 rfl Try.ntmps39 Try.results39 [.a (iS x), .a (iS y)] (fun _ => none) [] 0 rfl rfl (hp0 _ _ _) ?_
  ((conv=>whnf);repeat(refine And.intro (by omega) ?_;(conv=>whnf)))
  refine EvCall.plain Try.call27 (.v (.bool (ivB x))) rfl (fun ρ W hp => ivalid_s x W) ?_
  ((conv=>whnf);repeat(refine And.intro (by omega) ?_;(conv=>whnf)))
  refine EvCallC.plain Try.call27 (.v (.bool (ivB y))) rfl (fun _ ρ W hp => ivalid_s y W) ?_
  ((conv=>whnf);repeat(refine And.intro (by omega) ?_;(conv=>whnf)))
  refine EvIf.split (fun g1 => ?_) (fun g1 => ?_)
  · have g2 : (ivB x && ivB y) = false := by cases h1 : ivB x <;> cases h2 : ivB y <;> simp_all
    ((conv=>whnf);repeat(refine And.intro (by omega) ?_;(conv=>whnf)))
    exact EvRet.ret (fun _ => by unfold ihullF; rw [g2]; rfl)
  have g2 : (ivB x && ivB y) = true := by cases h1 : ivB x <;> cases h2 : ivB y <;> simp_all
  obtain ⟨hx, hy⟩ := both_v g2
  ((conv=>whnf);repeat(refine And.intro (by omega) ?_;(conv=>whnf)))
  refine EvDraw.meet (.q 0 (.q 1 (.q 2 (.q 3 (.q 6 (.q 7 (.q 8 (.q 9 (.n 4 false (.n 5 false (.n 10 false (.n 11 true (.q 12 (.n 13 true (.z) (.e))) (.e)) (.e)) (.n 10 false (.n 5 false (.n 11 true (.q 12 (.n 13 true (.z) (.e))) (.e)) (.e)) (.e))) (.n 10 false (.n 4 false (.n 5 false (.n 11 true (.q 12 (.n 13 true (.z) (.e))) (.e)) (.e)) (.e)) (.e))))))))))) (by kernel_rfl) (α := Unit) (fun _ => True) (fun _ => [(4, [], .p 2 0)])
    (fun _ => [⟨2, true, 27, 4, 1, .cs (iS ⟨lesF x.lo y.lo, greF x.hi y.hi⟩)⟩]) 3 ?_ ?_
  · ((conv=>whnf);repeat(refine And.intro (by omega) ?_;(conv=>whnf)))
    refine And.intro ?_ ?_
    · ((conv=>whnf);repeat(refine And.intro (by omega) ?_;(conv=>whnf)))
      refine And.intro ?_ ?_
      · ((conv=>whnf);repeat(refine And.intro (by omega) ?_;(conv=>whnf)))
        refine EvCall.plain Try.call65 (.a (fS (lesF x.lo y.lo))) rfl (fun ρ W hp => by
          rw [fS_den]
          exact least_s x.lo _ [y.lo] W (hp.lit (R := rF) (ys := [y.lo]) (n := 3) rfl (by decide) (by simp) (by omega) rfl) (by simp)) ?_
        ((conv=>whnf);repeat(refine And.intro (by omega) ?_;(conv=>whnf)))
        refine EvCall.plain Try.call64 (.a (fS (greF x.hi y.hi))) rfl (fun ρ W hp => by
          rw [fS_den]
          exact greatest_s x.hi _ [y.hi] W (hp.lit (R := rF) (ys := [y.hi]) (n := 4) rfl (by decide) (by simp) (by omega) rfl) (by simp)) ?_
        ((conv=>whnf);repeat(refine And.intro (by omega) ?_;(conv=>whnf)))
        refine Exists.intro () (And.intro trivial (Sub.of [] [] rfl ?_))
        ((repeat' (refine And.intro ?_ ?_)) <;> first | rfl | exact True.intro | omega)
      ((conv=>whnf);repeat(refine And.intro (by omega) ?_;(conv=>whnf)))
      refine EvCall.plain Try.call65 (.a (fS (lesF x.lo y.lo))) rfl (fun ρ W hp => by
        rw [fS_den]
        exact least_s x.lo _ [y.lo] W (hp.lit (R := rF) (ys := [y.lo]) (n := 3) rfl (by decide) (by simp) (by omega) rfl) (by simp)) ?_
      ((conv=>whnf);repeat(refine And.intro (by omega) ?_;(conv=>whnf)))
      refine EvCall.plain Try.call64 (.a (fS (greF x.hi y.hi))) rfl (fun ρ W hp => by
        rw [fS_den]
        exact greatest_s x.hi _ [y.hi] W (hp.lit (R := rF) (ys := [y.hi]) (n := 4) rfl (by decide) (by simp) (by omega) rfl) (by simp)) ?_
      ((conv=>whnf);repeat(refine And.intro (by omega) ?_;(conv=>whnf)))
      refine Exists.intro () (And.intro trivial (Sub.of [] [] rfl ?_))
      ((repeat' (refine And.intro ?_ ?_)) <;> first | rfl | exact True.intro | omega)
    ((conv=>whnf);repeat(refine And.intro (by omega) ?_;(conv=>whnf)))
    refine EvCall.plain Try.call65 (.a (fS (lesF x.lo y.lo))) rfl (fun ρ W hp => by
      rw [fS_den]
      exact least_s x.lo _ [y.lo] W (hp.lit (R := rF) (ys := [y.lo]) (n := 4) rfl (by decide) (by simp) (by omega) rfl) (by simp)) ?_
    ((conv=>whnf);repeat(refine And.intro (by omega) ?_;(conv=>whnf)))
    refine EvCall.plain Try.call64 (.a (fS (greF x.hi y.hi))) rfl (fun ρ W hp => by
      rw [fS_den]
      exact greatest_s x.hi _ [y.hi] W (hp.lit (R := rF) (ys := [y.hi]) (n := 3) rfl (by decide) (by simp) (by omega) rfl) (by simp)) ?_
    ((conv=>whnf);repeat(refine And.intro (by omega) ?_;(conv=>whnf)))
    refine Exists.intro () (And.intro trivial (Sub.of [] [] rfl ?_))
    ((repeat' (refine And.intro ?_ ?_)) <;> first | rfl | exact True.intro | omega)
  intro _ _
  ((conv=>whnf);repeat(refine And.intro (by omega) ?_;(conv=>whnf)))
  exact EvRet.ret (fun _ => by unfold ihullF; rw [g2]; rfl)
end Go.Proofs.Ythknflclfmnciaa
