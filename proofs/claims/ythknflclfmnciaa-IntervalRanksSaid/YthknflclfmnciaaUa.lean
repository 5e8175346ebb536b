
/- Intervals: the lattice and its reference, walked. -/
import Derived.Test.YthknflclfmnciaaQy
namespace Go.Proofs.Ythknflclfmnciaa
open Go.RowKit
set_option linter.unusedVariables false
set_option linter.unusedSimpArgs false

theorem ivB_meet {a b : Fq} (ha : vF a) (hb : vF b) : ivB ⟨a, b⟩ = decide (cmpF a b ≤ 0) := by
  rw [ivB_eq]
  simp [(vB_iff a).2 ha, (vB_iff b).2 hb]
set_option maxRecDepth 10000 in
theorem imeet_s (x y : Iv) (w : World) : Con Try.prog 33 #[iV x, iV y] w (Ret w (ieV (imeetF x y))) := by
  refine enter tabOk mixed Try.func33 rfl Try.ntmps33 Try.results33 [.a (iS x), .a (iS y)] (fun _ => none) [] 0 rfl rfl (hp0 _ _ _) ?_
  ((conv=>whnf);repeat(refine And.intro (by omega) ?_;(conv=>whnf)))
  refine EvCall.plain Try.call27 (.v (.bool (ivB x))) rfl (fun ρ W hp => ivalid_s x W) ?_
  ((conv=>whnf);repeat(refine And.intro (by omega) ?_;(conv=>whnf)))
  refine EvCallC.plain Try.call27 (.v (.bool (ivB y))) rfl (fun _ ρ W hp => ivalid_s y W) ?_
  ((conv=>whnf);repeat(refine And.intro (by omega) ?_;(conv=>whnf)))
  refine EvIf.split (fun g1 => ?_) (fun g1 => ?_)
  · have g2 : (ivB x && ivB y) = false := by cases h1 : ivB x <;> cases h2 : ivB y <;> simp_all
    ((conv=>whnf);repeat(refine And.intro (by omega) ?_;(conv=>whnf)))
    exact EvRet.ret (fun _ => by unfold imeetF; rw [g2]; rfl)
  have g2 : (ivB x && ivB y) = true := by cases h1 : ivB x <;> cases h2 : ivB y <;> simp_all
  obtain ⟨hx, hy⟩ := both_v g2
  have hv := ivB_meet (greF_v hx.1 hy.1).1 (lesF_v hx.2.1 hy.2.1).1
  ((conv=>whnf);repeat(refine And.intro (by omega) ?_;(conv=>whnf)))
  refine EvDraw.meet (.q 0 (.q 1 (.q 2 (.q 3 (.q 6 (.q 7 (.q 8 (.q 9 (.n 4 false (.n 5 false (.n 10 false (.n 11 true (.q 12 (.n 13 false (.n 14 true (.z) (.e)) (.e))) (.n 13 false (.n 11 true (.q 12 (.n 14 true (.z) (.e))) (.e)) (.e))) (.n 13 false (.n 10 false (.n 11 true (.q 12 (.n 14 true (.z) (.e))) (.e)) (.e)) (.e))) (.n 10 false (.n 5 false (.n 11 true (.q 12 (.n 13 false (.n 14 true (.z) (.e)) (.e))) (.n 13 false (.n 11 true (.q 12 (.n 14 true (.z) (.e))) (.e)) (.e))) (.n 13 false (.n 5 false (.n 11 true (.q 12 (.n 14 true (.z) (.e))) (.e)) (.e)) (.e))) (.n 13 false (.n 5 false (.n 10 false (.n 11 true (.q 12 (.n 14 true (.z) (.e))) (.e)) (.e)) (.n 10 false (.n 5 false (.n 11 true (.q 12 (.n 14 true (.z) (.e))) (.e)) (.e)) (.e))) (.e)))) (.n 10 false (.n 4 false (.n 5 false (.n 11 true (.q 12 (.n 13 false (.n 14 true (.z) (.e)) (.e))) (.n 13 false (.n 11 true (.q 12 (.n 14 true (.z) (.e))) (.e)) (.e))) (.n 13 false (.n 5 false (.n 11 true (.q 12 (.n 14 true (.z) (.e))) (.e)) (.e)) (.e))) (.n 13 false (.n 4 false (.n 5 false (.n 11 true (.q 12 (.n 14 true (.z) (.e))) (.e)) (.e)) (.e)) (.e))) (.n 13 false (.n 4 false (.n 5 false (.n 10 false (.n 11 true (.q 12 (.n 14 true (.z) (.e))) (.e)) (.e)) (.n 10 false (.n 5 false (.n 11 true (.q 12 (.n 14 true (.z) (.e))) (.e)) (.e)) (.e))) (.n 10 false (.n 4 false (.n 5 false (.n 11 true (.q 12 (.n 14 true (.z) (.e))) (.e)) (.e)) (.e)) (.e))) (.e)))))))))))) (by kernel_rfl) (α := Unit) (fun _ => True) (fun _ => [(4, [], .p 2 0), (5, [], .v (.int .i64 (0))), (6, [], .p 3 0)])
    (fun _ => [⟨2, true, 27, 4, 1, .cs (iS iv0)⟩, ⟨3, true, 27, 4, 1, .cs (iS ⟨greF x.lo y.lo, lesF x.hi y.hi⟩)⟩]) 4 ?_ ?_
  · ((conv=>whnf);repeat(refine And.intro (by omega) ?_;(conv=>whnf)))
    refine And.intro ?_ ?_
    · ((conv=>whnf);repeat(refine And.intro (by omega) ?_;(conv=>whnf)))
      refine And.intro ?_ ?_
      · ((conv=>whnf);repeat(refine And.intro (by omega) ?_;(conv=>whnf)))
        refine EvCall.plain Try.call64 (.a (fS (greF x.lo y.lo))) rfl (fun ρ W hp => by
          rw [fS_den]
          exact greatest_s x.lo _ [y.lo] W (hp.lit (R := rF) (ys := [y.lo]) (n := 3) rfl (by decide) (by simp) (by omega) rfl) (by simp)) ?_
        ((conv=>whnf);repeat(refine And.intro (by omega) ?_;(conv=>whnf)))
        refine And.intro ?_ ?_
        · ((conv=>whnf);repeat(refine And.intro (by omega) ?_;(conv=>whnf)))
          refine And.intro ?_ ?_
          · ((conv=>whnf);repeat(refine And.intro (by omega) ?_;(conv=>whnf)))
            refine EvCall.plain Try.call65 (.a (fS (lesF x.hi y.hi))) rfl (fun ρ W hp => by
              rw [fS_den]
              exact least_s x.hi _ [y.hi] W (hp.lit (R := rF) (ys := [y.hi]) (n := 4) rfl (by decide) (by simp) (by omega) rfl) (by simp)) ?_
            ((conv=>whnf);repeat(refine And.intro (by omega) ?_;(conv=>whnf)))
            refine Exists.intro () (And.intro trivial (Sub.of [(3, 5)] [] rfl ?_))
            ((repeat' (refine And.intro ?_ ?_)) <;> first | rfl | exact True.intro | omega)
          ((conv=>whnf);repeat(refine And.intro (by omega) ?_;(conv=>whnf)))
          refine EvCall.plain Try.call65 (.a (fS (lesF x.hi y.hi))) rfl (fun ρ W hp => by
            rw [fS_den]
            exact least_s x.hi _ [y.hi] W (hp.lit (R := rF) (ys := [y.hi]) (n := 4) rfl (by decide) (by simp) (by omega) rfl) (by simp)) ?_
          ((conv=>whnf);repeat(refine And.intro (by omega) ?_;(conv=>whnf)))
          refine Exists.intro () (And.intro trivial (Sub.of [(3, 5)] [] rfl ?_))
          ((repeat' (refine And.intro ?_ ?_)) <;> first | rfl | exact True.intro | omega)
        ((conv=>whnf);repeat(refine And.intro (by omega) ?_;(conv=>whnf)))
        refine EvCall.plain Try.call65 (.a (fS (lesF x.hi y.hi))) rfl (fun ρ W hp => by
          rw [fS_den]
          exact least_s x.hi _ [y.hi] W (hp.lit (R := rF) (ys := [y.hi]) (n := 5) rfl (by decide) (by simp) (by omega) rfl) (by simp)) ?_
        ((conv=>whnf);repeat(refine And.intro (by omega) ?_;(conv=>whnf)))
        refine Exists.intro () (And.intro trivial (Sub.of [(3, 4)] [] rfl ?_))
        ((repeat' (refine And.intro ?_ ?_)) <;> first | rfl | exact True.intro | omega)
      ((conv=>whnf);repeat(refine And.intro (by omega) ?_;(conv=>whnf)))
      refine And.intro ?_ ?_
      · ((conv=>whnf);repeat(refine And.intro (by omega) ?_;(conv=>whnf)))
        refine And.intro ?_ ?_
        · ((conv=>whnf);repeat(refine And.intro (by omega) ?_;(conv=>whnf)))
          refine EvCall.plain Try.call64 (.a (fS (greF x.lo y.lo))) rfl (fun ρ W hp => by
            rw [fS_den]
            exact greatest_s x.lo _ [y.lo] W (hp.lit (R := rF) (ys := [y.lo]) (n := 3) rfl (by decide) (by simp) (by omega) rfl) (by simp)) ?_
          ((conv=>whnf);repeat(refine And.intro (by omega) ?_;(conv=>whnf)))
          refine And.intro ?_ ?_
          · ((conv=>whnf);repeat(refine And.intro (by omega) ?_;(conv=>whnf)))
            refine EvCall.plain Try.call65 (.a (fS (lesF x.hi y.hi))) rfl (fun ρ W hp => by
              rw [fS_den]
              exact least_s x.hi _ [y.hi] W (hp.lit (R := rF) (ys := [y.hi]) (n := 4) rfl (by decide) (by simp) (by omega) rfl) (by simp)) ?_
            ((conv=>whnf);repeat(refine And.intro (by omega) ?_;(conv=>whnf)))
            refine Exists.intro () (And.intro trivial (Sub.of [(3, 5)] [] rfl ?_))
            ((repeat' (refine And.intro ?_ ?_)) <;> first | rfl | exact True.intro | omega)
          ((conv=>whnf);repeat(refine And.intro (by omega) ?_;(conv=>whnf)))
          refine EvCall.plain Try.call65 (.a (fS (lesF x.hi y.hi))) rfl (fun ρ W hp => by
            rw [fS_den]
            exact least_s x.hi _ [y.hi] W (hp.lit (R := rF) (ys := [y.hi]) (n := 4) rfl (by decide) (by simp) (by omega) rfl) (by simp)) ?_
          ((conv=>whnf);repeat(refine And.intro (by omega) ?_;(conv=>whnf)))
          refine Exists.intro () (And.intro trivial (Sub.of [(3, 5)] [] rfl ?_))
          ((repeat' (refine And.intro ?_ ?_)) <;> first | rfl | exact True.intro | omega)
        ((conv=>whnf);repeat(refine And.intro (by omega) ?_;(conv=>whnf)))
        refine EvCall.plain Try.call64 (.a (fS (greF x.lo y.lo))) rfl (fun ρ W hp => by
          rw [fS_den]
          exact greatest_s x.lo _ [y.lo] W (hp.lit (R := rF) (ys := [y.lo]) (n := 3) rfl (by decide) (by simp) (by omega) rfl) (by simp)) ?_
        ((conv=>whnf);repeat(refine And.intro (by omega) ?_;(conv=>whnf)))
        refine EvCall.plain Try.call65 (.a (fS (lesF x.hi y.hi))) rfl (fun ρ W hp => by
          rw [fS_den]
          exact least_s x.hi _ [y.hi] W (hp.lit (R := rF) (ys := [y.hi]) (n := 4) rfl (by decide) (by simp) (by omega) rfl) (by simp)) ?_
        ((conv=>whnf);repeat(refine And.intro (by omega) ?_;(conv=>whnf)))
        refine Exists.intro () (And.intro trivial (Sub.of [(3, 5)] [] rfl ?_))
        ((repeat' (refine And.intro ?_ ?_)) <;> first | rfl | exact True.intro | omega)
      ((conv=>whnf);repeat(refine And.intro (by omega) ?_;(conv=>whnf)))
      refine And.intro ?_ ?_
      · ((conv=>whnf);repeat(refine And.intro (by omega) ?_;(conv=>whnf)))
        refine EvCall.plain Try.call64 (.a (fS (greF x.lo y.lo))) rfl (fun ρ W hp => by
          rw [fS_den]
          exact greatest_s x.lo _ [y.lo] W (hp.lit (R := rF) (ys := [y.lo]) (n := 3) rfl (by decide) (by simp) (by omega) rfl) (by simp)) ?_
        ((conv=>whnf);repeat(refine And.intro (by omega) ?_;(conv=>whnf)))
        refine EvCall.plain Try.call65 (.a (fS (lesF x.hi y.hi))) rfl (fun ρ W hp => by
          rw [fS_den]
          exact least_s x.hi _ [y.hi] W (hp.lit (R := rF) (ys := [y.hi]) (n := 5) rfl (by decide) (by simp) (by omega) rfl) (by simp)) ?_
        ((conv=>whnf);repeat(refine And.intro (by omega) ?_;(conv=>whnf)))
        refine Exists.intro () (And.intro trivial (Sub.of [(3, 4)] [] rfl ?_))
        ((repeat' (refine And.intro ?_ ?_)) <;> first | rfl | exact True.intro | omega)
      ((conv=>whnf);repeat(refine And.intro (by omega) ?_;(conv=>whnf)))
      refine EvCall.plain Try.call64 (.a (fS (greF x.lo y.lo))) rfl (fun ρ W hp => by
        rw [fS_den]
        exact greatest_s x.lo _ [y.lo] W (hp.lit (R := rF) (ys := [y.lo]) (n := 3) rfl (by decide) (by simp) (by omega) rfl) (by simp)) ?_
      ((conv=>whnf);repeat(refine And.intro (by omega) ?_;(conv=>whnf)))
      refine EvCall.plain Try.call65 (.a (fS (lesF x.hi y.hi))) rfl (fun ρ W hp => by
        rw [fS_den]
        exact least_s x.hi _ [y.hi] W (hp.lit (R := rF) (ys := [y.hi]) (n := 5) rfl (by decide) (by simp) (by omega) rfl) (by simp)) ?_
      ((conv=>whnf);repeat(refine And.intro (by omega) ?_;(conv=>whnf)))
      refine Exists.intro () (And.intro trivial (Sub.of [(3, 4)] [] rfl ?_))
      ((repeat' (refine And.intro ?_ ?_)) <;> first | rfl | exact True.intro | omega)
    ((conv=>whnf);repeat(refine And.intro (by omega) ?_;(conv=>whnf)))
    refine And.intro ?_ ?_
    · ((conv=>whnf);repeat(refine And.intro (by omega) ?_;(conv=>whnf)))
      refine And.intro ?_ ?_
      · ((conv=>whnf);repeat(refine And.intro (by omega) ?_;(conv=>whnf)))
        refine And.intro ?_ ?_
        · ((conv=>whnf);repeat(refine And.intro (by omega) ?_;(conv=>whnf)))
          refine EvCall.plain Try.call64 (.a (fS (greF x.lo y.lo))) rfl (fun ρ W hp => by
            rw [fS_den]
            exact greatest_s x.lo _ [y.lo] W (hp.lit (R := rF) (ys := [y.lo]) (n := 4) rfl (by decide) (by simp) (by omega) rfl) (by simp)) ?_
          ((conv=>whnf);repeat(refine And.intro (by omega) ?_;(conv=>whnf)))
          refine And.intro ?_ ?_
          · ((conv=>whnf);repeat(refine And.intro (by omega) ?_;(conv=>whnf)))
            refine EvCall.plain Try.call65 (.a (fS (lesF x.hi y.hi))) rfl (fun ρ W hp => by
              rw [fS_den]
              exact least_s x.hi _ [y.hi] W (hp.lit (R := rF) (ys := [y.hi]) (n := 3) rfl (by decide) (by simp) (by omega) rfl) (by simp)) ?_
            ((conv=>whnf);repeat(refine And.intro (by omega) ?_;(conv=>whnf)))
            refine Exists.intro () (And.intro trivial (Sub.of [(3, 5)] [] rfl ?_))
            ((repeat' (refine And.intro ?_ ?_)) <;> first | rfl | exact True.intro | omega)
          ((conv=>whnf);repeat(refine And.intro (by omega) ?_;(conv=>whnf)))
          refine EvCall.plain Try.call65 (.a (fS (lesF x.hi y.hi))) rfl (fun ρ W hp => by
            rw [fS_den]
            exact least_s x.hi _ [y.hi] W (hp.lit (R := rF) (ys := [y.hi]) (n := 3) rfl (by decide) (by simp) (by omega) rfl) (by simp)) ?_
          ((conv=>whnf);repeat(refine And.intro (by omega) ?_;(conv=>whnf)))
          refine Exists.intro () (And.intro trivial (Sub.of [(3, 5)] [] rfl ?_))
          ((repeat' (refine And.intro ?_ ?_)) <;> first | rfl | exact True.intro | omega)
        ((conv=>whnf);repeat(refine And.intro (by omega) ?_;(conv=>whnf)))
        refine EvCall.plain Try.call64 (.a (fS (greF x.lo y.lo))) rfl (fun ρ W hp => by
          rw [fS_den]
          exact greatest_s x.lo _ [y.lo] W (hp.lit (R := rF) (ys := [y.lo]) (n := 4) rfl (by decide) (by simp) (by omega) rfl) (by simp)) ?_
        ((conv=>whnf);repeat(refine And.intro (by omega) ?_;(conv=>whnf)))
        refine EvCall.plain Try.call65 (.a (fS (lesF x.hi y.hi))) rfl (fun ρ W hp => by
          rw [fS_den]
          exact least_s x.hi _ [y.hi] W (hp.lit (R := rF) (ys := [y.hi]) (n := 3) rfl (by decide) (by simp) (by omega) rfl) (by simp)) ?_
        ((conv=>whnf);repeat(refine And.intro (by omega) ?_;(conv=>whnf)))
        refine Exists.intro () (And.intro trivial (Sub.of [(3, 5)] [] rfl ?_))
        ((repeat' (refine And.intro ?_ ?_)) <;> first | rfl | exact True.intro | omega)
      ((conv=>whnf);repeat(refine And.intro (by omega) ?_;(conv=>whnf)))
      refine EvCall.plain Try.call64 (.a (fS (greF x.lo y.lo))) rfl (fun ρ W hp => by
        rw [fS_den]
        exact greatest_s x.lo _ [y.lo] W (hp.lit (R := rF) (ys := [y.lo]) (n := 5) rfl (by decide) (by simp) (by omega) rfl) (by simp)) ?_
      ((conv=>whnf);repeat(refine And.intro (by omega) ?_;(conv=>whnf)))
      refine EvCall.plain Try.call65 (.a (fS (lesF x.hi y.hi))) rfl (fun ρ W hp => by
        rw [fS_den]
        exact least_s x.hi _ [y.hi] W (hp.lit (R := rF) (ys := [y.hi]) (n := 3) rfl (by decide) (by simp) (by omega) rfl) (by simp)) ?_
      ((conv=>whnf);repeat(refine And.intro (by omega) ?_;(conv=>whnf)))
      refine Exists.intro () (And.intro trivial (Sub.of [(3, 4)] [] rfl ?_))
      ((repeat' (refine And.intro ?_ ?_)) <;> first | rfl | exact True.intro | omega)
    ((conv=>whnf);repeat(refine And.intro (by omega) ?_;(conv=>whnf)))
    refine And.intro ?_ ?_
    · ((conv=>whnf);repeat(refine And.intro (by omega) ?_;(conv=>whnf)))
      refine And.intro ?_ ?_
      · ((conv=>whnf);repeat(refine And.intro (by omega) ?_;(conv=>whnf)))
        refine EvCall.plain Try.call64 (.a (fS (greF x.lo y.lo))) rfl (fun ρ W hp => by
          rw [fS_den]
          exact greatest_s x.lo _ [y.lo] W (hp.lit (R := rF) (ys := [y.lo]) (n := 4) rfl (by decide) (by simp) (by omega) rfl) (by simp)) ?_
        ((conv=>whnf);repeat(refine And.intro (by omega) ?_;(conv=>whnf)))
        refine EvCall.plain Try.call65 (.a (fS (lesF x.hi y.hi))) rfl (fun ρ W hp => by
          rw [fS_den]
          exact least_s x.hi _ [y.hi] W (hp.lit (R := rF) (ys := [y.hi]) (n := 5) rfl (by decide) (by simp) (by omega) rfl) (by simp)) ?_
        ((conv=>whnf);repeat(refine And.intro (by omega) ?_;(conv=>whnf)))
        refine Exists.intro () (And.intro trivial (Sub.of [] [] rfl ?_))
        ((repeat' (refine And.intro ?_ ?_)) <;> first | rfl | exact True.intro | omega)
      ((conv=>whnf);repeat(refine And.intro (by omega) ?_;(conv=>whnf)))
      refine EvCall.plain Try.call64 (.a (fS (greF x.lo y.lo))) rfl (fun ρ W hp => by
        rw [fS_den]
        exact greatest_s x.lo _ [y.lo] W (hp.lit (R := rF) (ys := [y.lo]) (n := 4) rfl (by decide) (by simp) (by omega) rfl) (by simp)) ?_
      ((conv=>whnf);repeat(refine And.intro (by omega) ?_;(conv=>whnf)))
      refine EvCall.plain Try.call65 (.a (fS (lesF x.hi y.hi))) rfl (fun ρ W hp => by
        rw [fS_den]
        exact least_s x.hi _ [y.hi] W (hp.lit (R := rF) (ys := [y.hi]) (n := 5) rfl (by decide) (by simp) (by omega) rfl) (by simp)) ?_
      ((conv=>whnf);repeat(refine And.intro (by omega) ?_;(conv=>whnf)))
      refine Exists.intro () (And.intro trivial (Sub.of [] [] rfl ?_))
      ((repeat' (refine And.intro ?_ ?_)) <;> first | rfl | exact True.intro | omega)
    ((conv=>whnf);repeat(refine And.intro (by omega) ?_;(conv=>whnf)))
    refine EvCall.plain Try.call64 (.a (fS (greF x.lo y.lo))) rfl (fun ρ W hp => by
      rw [fS_den]
      exact greatest_s x.lo _ [y.lo] W (hp.lit (R := rF) (ys := [y.lo]) (n := 5) rfl (by decide) (by simp) (by omega) rfl) (by simp)) ?_
    ((conv=>whnf);repeat(refine And.intro (by omega) ?_;(conv=>whnf)))
    refine EvCall.plain Try.call65 (.a (fS (lesF x.hi y.hi))) rfl (fun ρ W hp => by
      rw [fS_den]
      exact least_s x.hi _ [y.hi] W (hp.lit (R := rF) (ys := [y.hi]) (n := 4) rfl (by decide) (by simp) (by omega) rfl) (by simp)) ?_
    ((conv=>whnf);repeat(refine And.intro (by omega) ?_;(conv=>whnf)))
    refine Exists.intro () (And.intro trivial (Sub.of [] [] rfl ?_))
    ((repeat' (refine And.intro ?_ ?_)) <;> first | rfl | exact True.intro | omega)
  intro _ _
  ((conv=>whnf);repeat(refine And.intro (by omega) ?_;(conv=>whnf)))
  refine EvCall.plain Try.call27 (.v (.bool (ivB ⟨greF x.lo y.lo, lesF x.hi y.hi⟩))) rfl (fun ρ W hp => ivalid_s ⟨greF x.lo y.lo, lesF x.hi y.hi⟩ W) ?_
  ((conv=>whnf);repeat(refine And.intro (by omega) ?_;(conv=>whnf)))
  refine EvIf.split (fun g3 => ?_) (fun g3 => ?_)
  · have g4 : 0 < cmpF (greF x.lo y.lo) (lesF x.hi y.hi) := by
      rw [hv] at g3
      simp at g3
      omega
    ((conv=>whnf);repeat(refine And.intro (by omega) ?_;(conv=>whnf)))
    exact EvRet.ret (fun _ => by unfold imeetF; rw [g2, if_pos rfl, if_pos g4]; rfl)
  · have g4 : ¬ 0 < cmpF (greF x.lo y.lo) (lesF x.hi y.hi) := by
      rw [hv] at g3
      simp at g3
      omega
    ((conv=>whnf);repeat(refine And.intro (by omega) ?_;(conv=>whnf)))
    exact EvRet.ret (fun _ => by unfold imeetF; rw [g2, if_pos rfl, if_neg g4]; rfl)
theorem both4_s (x y : Iv) (w : World) (rx : inI x) (ry : inI y) : Con Try.prog 66 #[iV x, iV y] w (Ret w (.bool (ivB x && ivB y))) := by
  refine enter tabOk mixed Try.func66 rfl Try.ntmps66 Try.results66 [.a (iS x), .a (iS y)] (fun _ => none) [] 0 rfl rfl (hp0 _ _ _) ?_
  ((conv=>whnf);repeat(refine And.intro (by omega) ?_;(conv=>whnf)))
  refine EvCall.plain Try.call25 (.v (.bool (ivB x))) rfl (fun ρ W hp => ivalid4_s x W rx) ?_
  ((conv=>whnf);repeat(refine And.intro (by omega) ?_;(conv=>whnf)))
  refine EvCall.plain Try.call25 (.v (.bool (ivB y))) rfl (fun ρ W hp => ivalid4_s y W ry) ?_
  ((conv=>whnf);repeat(refine And.intro (by omega) ?_;(conv=>whnf)))
  exact ret_bool rfl
theorem all2 {a b : Fq} (ha : vF a) (hb : vF b) : ∀ z ∈ [a, b], vF z := by
  intro z hz
  simp only [List.mem_cons, List.not_mem_nil, or_false] at hz
  rcases hz with rfl | rfl
  · exact ha
  · exact hb
set_option maxRecDepth 10000 in
theorem imin4_s (x y : Iv) (w : World) (rx : inI x) (ry : inI y) : Con Try.prog 36 #[iV x, iV y] w (Ret w (iV (iminF x y))) := by
  refine enter tabOk mixed Try.func36 rfl Try.ntmps36 Try.results36 [.a (iS x), .a (iS y)] (fun _ => none) [] 0 rfl rfl (hp0 _ _ _) ?_
  ((conv=>whnf);repeat(refine And.intro (by omega) ?_;(conv=>whnf)))
  refine EvCall.plain Try.call66 (.v (.bool (ivB x && ivB y))) rfl (fun ρ W hp => both4_s x y W rx ry) ?_
  ((conv=>whnf);repeat(refine And.intro (by omega) ?_;(conv=>whnf)))
  refine EvIf.split (fun g1 => ?_) (fun g1 => ?_)
  · have g2 : (ivB x && ivB y) = false := by rw [Bool.not_eq_true'] at g1; exact g1
    ((conv=>whnf);repeat(refine And.intro (by omega) ?_;(conv=>whnf)))
    exact EvRet.ret (fun _ => by unfold iminF; rw [g2]; rfl)
  have g2 : (ivB x && ivB y) = true := by rw [Bool.not_eq_false'] at g1; exact g1
  obtain ⟨hx, hy⟩ := both_v g2
  have l1 : (sortF [x.lo, y.lo]).length = 2 := by rw [sortF_len]; rfl
  have l2 : (sortF [x.hi, y.hi]).length = 2 := by rw [sortF_len]; rfl
  ((conv=>whnf);repeat(refine And.intro (by omega) ?_;(conv=>whnf)))
  refine EvDraw.meet (.q 0 (.q 1 (.q 2 (.q 3 (.q 8 (.q 9 (.q 10 (.q 11 (.n 4 false (.n 5 false (.q 6 (.q 7 (.n 12 false (.n 13 false (.q 14 (.q 15 (.q 16 (.n 17 true (.z) (.e))))) (.e)) (.e)))) (.n 12 false (.n 5 false (.q 6 (.q 7 (.n 13 false (.q 14 (.q 15 (.q 16 (.n 17 true (.z) (.e))))) (.e)))) (.e)) (.e))) (.n 12 false (.n 4 false (.n 5 false (.q 6 (.q 7 (.n 13 false (.q 14 (.q 15 (.q 16 (.n 17 true (.z) (.e))))) (.e)))) (.e)) (.e)) (.e))))))))))) (by kernel_rfl) (α := Unit) (fun _ => True) (fun _ => [(4, [], .p 2 0)])
    (fun _ => [⟨2, true, 27, 4, 1, .cs (iS ⟨(sortF [x.lo, y.lo]).getD 0 fr0, (sortF [x.hi, y.hi]).getD 0 fr0⟩)⟩]) 3 ?_ ?_
  · ((conv=>whnf);repeat(refine And.intro (by omega) ?_;(conv=>whnf)))
    refine And.intro ?_ ?_
    · ((conv=>whnf);repeat(refine And.intro (by omega) ?_;(conv=>whnf)))
      refine And.intro ?_ ?_
      · ((conv=>whnf);repeat(refine And.intro (by omega) ?_;(conv=>whnf)))
        refine EvCall.rows (R := rF) (ty := 25) (xs := sortF [x.lo, y.lo]) Try.call32 (fun ρ W hp => sorted4_s _ [x.lo, y.lo] W (hp.lit (R := rF) (ys := [x.lo, y.lo]) (n := 3) rfl (by decide) (by simp) (by omega) rfl) (by simp) (all2 hx.1 hy.1)) (fun cc hq1 hq2 => ?_)
        ((conv=>whnf);(repeat(refine And.intro ?_ ?_;(focus((first|omega|exact⟨rfl,True.intro⟩|exact⟨rfl,rfl,True.intro⟩|rfl|(simp only[List.length_set];first|omega|(refine⟨?_,?_⟩<;>omega)|(refine⟨?_,?_,?_⟩<;>omega))|(intro hg;(try simp only[bB]at hg);first|omega|(refine⟨?_,?_⟩<;>omega)|(refine⟨?_,?_,?_⟩<;>first|omega|(show _<_;(try simp only[List.length_set]);omega)|exact leT rfl))|(refine⟨?_,?_⟩<;>omega)|(refine⟨?_,?_,?_⟩<;>first|omega|(show _<_;(try simp only[List.length_set]);omega)|exact leT rfl)|(simp only[show rI.d=(0:Int)from rfl];omega));done));(conv=>whnf))))
        refine EvCall.rows (R := rF) (ty := 25) (xs := sortF [x.hi, y.hi]) Try.call32 (fun ρ W hp => sorted4_s _ [x.hi, y.hi] W (hp.lit (R := rF) (ys := [x.hi, y.hi]) (n := 5) rfl (by decide) (by simp) (by omega) rfl) (by simp) (all2 hx.2.1 hy.2.1)) (fun cd hq3 hq4 => ?_)
        ((conv=>whnf);(repeat(refine And.intro ?_ ?_;(focus((first|omega|exact⟨rfl,True.intro⟩|exact⟨rfl,rfl,True.intro⟩|rfl|(simp only[List.length_set];first|omega|(refine⟨?_,?_⟩<;>omega)|(refine⟨?_,?_,?_⟩<;>omega))|(intro hg;(try simp only[bB]at hg);first|omega|(refine⟨?_,?_⟩<;>omega)|(refine⟨?_,?_,?_⟩<;>first|omega|(show _<_;(try simp only[List.length_set]);omega)|exact leT rfl))|(refine⟨?_,?_⟩<;>omega)|(refine⟨?_,?_,?_⟩<;>first|omega|(show _<_;(try simp only[List.length_set]);omega)|exact leT rfl)|(simp only[show rI.d=(0:Int)from rfl];omega));done));(conv=>whnf))))
        refine Exists.intro () (And.intro trivial (Sub.of [] [] rfl ?_))
        ((repeat' (refine And.intro ?_ ?_)) <;> first | rfl | exact True.intro | omega)
      ((conv=>whnf);repeat(refine And.intro (by omega) ?_;(conv=>whnf)))
      refine EvCall.rows (R := rF) (ty := 25) (xs := sortF [x.lo, y.lo]) Try.call32 (fun ρ W hp => sorted4_s _ [x.lo, y.lo] W (hp.lit (R := rF) (ys := [x.lo, y.lo]) (n := 3) rfl (by decide) (by simp) (by omega) rfl) (by simp) (all2 hx.1 hy.1)) (fun cc hq1 hq2 => ?_)
      ((conv=>whnf);(repeat(refine And.intro ?_ ?_;(focus((first|omega|exact⟨rfl,True.intro⟩|exact⟨rfl,rfl,True.intro⟩|rfl|(simp only[List.length_set];first|omega|(refine⟨?_,?_⟩<;>omega)|(refine⟨?_,?_,?_⟩<;>omega))|(intro hg;(try simp only[bB]at hg);first|omega|(refine⟨?_,?_⟩<;>omega)|(refine⟨?_,?_,?_⟩<;>first|omega|(show _<_;(try simp only[List.length_set]);omega)|exact leT rfl))|(refine⟨?_,?_⟩<;>omega)|(refine⟨?_,?_,?_⟩<;>first|omega|(show _<_;(try simp only[List.length_set]);omega)|exact leT rfl)|(simp only[show rI.d=(0:Int)from rfl];omega));done));(conv=>whnf))))
      refine EvCall.rows (R := rF) (ty := 25) (xs := sortF [x.hi, y.hi]) Try.call32 (fun ρ W hp => sorted4_s _ [x.hi, y.hi] W (hp.lit (R := rF) (ys := [x.hi, y.hi]) (n := 4) rfl (by decide) (by simp) (by omega) rfl) (by simp) (all2 hx.2.1 hy.2.1)) (fun cd hq3 hq4 => ?_)
      ((conv=>whnf);(repeat(refine And.intro ?_ ?_;(focus((first|omega|exact⟨rfl,True.intro⟩|exact⟨rfl,rfl,True.intro⟩|rfl|(simp only[List.length_set];first|omega|(refine⟨?_,?_⟩<;>omega)|(refine⟨?_,?_,?_⟩<;>omega))|(intro hg;(try simp only[bB]at hg);first|omega|(refine⟨?_,?_⟩<;>omega)|(refine⟨?_,?_,?_⟩<;>first|omega|(show _<_;(try simp only[List.length_set]);omega)|exact leT rfl))|(refine⟨?_,?_⟩<;>omega)|(refine⟨?_,?_,?_⟩<;>first|omega|(show _<_;(try simp only[List.length_set]);omega)|exact leT rfl)|(simp only[show rI.d=(0:Int)from rfl];omega));done));(conv=>whnf))))
      refine Exists.intro () (And.intro trivial (Sub.of [] [] rfl ?_))
      ((repeat' (refine And.intro ?_ ?_)) <;> first | rfl | exact True.intro | omega)
    ((conv=>whnf);repeat(refine And.intro (by omega) ?_;(conv=>whnf)))
    refine EvCall.rows (R := rF) (ty := 25) (xs := sortF [x.lo, y.lo]) Try.call32 (fun ρ W hp => sorted4_s _ [x.lo, y.lo] W (hp.lit (R := rF) (ys := [x.lo, y.lo]) (n := 4) rfl (by decide) (by simp) (by omega) rfl) (by simp) (all2 hx.1 hy.1)) (fun cc hq1 hq2 => ?_)
    ((conv=>whnf);(repeat(refine And.intro ?_ ?_;(focus((first|omega|exact⟨rfl,True.intro⟩|exact⟨rfl,rfl,True.intro⟩|rfl|(simp only[List.length_set];first|omega|(refine⟨?_,?_⟩<;>omega)|(refine⟨?_,?_,?_⟩<;>omega))|(intro hg;(try simp only[bB]at hg);first|omega|(refine⟨?_,?_⟩<;>omega)|(refine⟨?_,?_,?_⟩<;>first|omega|(show _<_;(try simp only[List.length_set]);omega)|exact leT rfl))|(refine⟨?_,?_⟩<;>omega)|(refine⟨?_,?_,?_⟩<;>first|omega|(show _<_;(try simp only[List.length_set]);omega)|exact leT rfl)|(simp only[show rI.d=(0:Int)from rfl];omega));done));(conv=>whnf))))
    refine EvCall.rows (R := rF) (ty := 25) (xs := sortF [x.hi, y.hi]) Try.call32 (fun ρ W hp => sorted4_s _ [x.hi, y.hi] W (hp.lit (R := rF) (ys := [x.hi, y.hi]) (n := 3) rfl (by decide) (by simp) (by omega) rfl) (by simp) (all2 hx.2.1 hy.2.1)) (fun cd hq3 hq4 => ?_)
    ((conv=>whnf);(repeat(refine And.intro ?_ ?_;(focus((first|omega|exact⟨rfl,True.intro⟩|exact⟨rfl,rfl,True.intro⟩|rfl|(simp only[List.length_set];first|omega|(refine⟨?_,?_⟩<;>omega)|(refine⟨?_,?_,?_⟩<;>omega))|(intro hg;(try simp only[bB]at hg);first|omega|(refine⟨?_,?_⟩<;>omega)|(refine⟨?_,?_,?_⟩<;>first|omega|(show _<_;(try simp only[List.length_set]);omega)|exact leT rfl))|(refine⟨?_,?_⟩<;>omega)|(refine⟨?_,?_,?_⟩<;>first|omega|(show _<_;(try simp only[List.length_set]);omega)|exact leT rfl)|(simp only[show rI.d=(0:Int)from rfl];omega));done));(conv=>whnf))))
    refine Exists.intro () (And.intro trivial (Sub.of [] [] rfl ?_))
    ((repeat' (refine And.intro ?_ ?_)) <;> first | rfl | exact True.intro | omega)
  intro _ _
  ((conv=>whnf);repeat(refine And.intro (by omega) ?_;(conv=>whnf)))
  exact EvRet.ret (fun _ => by unfold iminF; rw [g2, if_pos rfl, ← sort2_0, ← sort2_0]; rfl)
set_option maxRecDepth 10000 in
theorem imax4_s (x y : Iv) (w : World) (rx : inI x) (ry : inI y) : Con Try.prog 38 #[iV x, iV y] w (Ret w (iV (imaxF x y))) := by
  refine enter tabOk mixed Try.func38 rfl Try.ntmps38 Try.results38 [.a (iS x), .a (iS y)] (fun _ => none) [] 0 rfl rfl (hp0 _ _ _) ?_
  ((conv=>whnf);repeat(refine And.intro (by omega) ?_;(conv=>whnf)))
  refine EvCall.plain Try.call66 (.v (.bool (ivB x && ivB y))) rfl (fun ρ W hp => both4_s x y W rx ry) ?_
  ((conv=>whnf);repeat(refine And.intro (by omega) ?_;(conv=>whnf)))
  refine EvIf.split (fun g1 => ?_) (fun g1 => ?_)
  · have g2 : (ivB x && ivB y) = false := by rw [Bool.not_eq_true'] at g1; exact g1
    ((conv=>whnf);repeat(refine And.intro (by omega) ?_;(conv=>whnf)))
    exact EvRet.ret (fun _ => by unfold imaxF; rw [g2]; rfl)
  have g2 : (ivB x && ivB y) = true := by rw [Bool.not_eq_false'] at g1; exact g1
  obtain ⟨hx, hy⟩ := both_v g2
  have l1 : (sortF [x.lo, y.lo]).length = 2 := by rw [sortF_len]; rfl
  have l2 : (sortF [x.hi, y.hi]).length = 2 := by rw [sortF_len]; rfl
  ((conv=>whnf);repeat(refine And.intro (by omega) ?_;(conv=>whnf)))
  refine EvDraw.meet (.q 0 (.q 1 (.q 2 (.q 3 (.q 8 (.q 9 (.q 10 (.q 11 (.n 4 false (.n 5 false (.q 6 (.q 7 (.n 12 false (.n 13 false (.q 14 (.q 15 (.q 16 (.n 17 true (.z) (.e))))) (.e)) (.e)))) (.n 12 false (.n 5 false (.q 6 (.q 7 (.n 13 false (.q 14 (.q 15 (.q 16 (.n 17 true (.z) (.e))))) (.e)))) (.e)) (.e))) (.n 12 false (.n 4 false (.n 5 false (.q 6 (.q 7 (.n 13 false (.q 14 (.q 15 (.q 16 (.n 17 true (.z) (.e))))) (.e)))) (.e)) (.e)) (.e))))))))))) (by kernel_rfl) (α := Unit) (fun _ => True) (fun _ => [(4, [], .p 2 0)])
    (fun _ => [⟨2, true, 27, 4, 1, .cs (iS ⟨(sortF [x.lo, y.lo]).getD 1 fr0, (sortF [x.hi, y.hi]).getD 1 fr0⟩)⟩]) 3 ?_ ?_
  · ((conv=>whnf);repeat(refine And.intro (by omega) ?_;(conv=>whnf)))
    refine And.intro ?_ ?_
    · ((conv=>whnf);repeat(refine And.intro (by omega) ?_;(conv=>whnf)))
      refine And.intro ?_ ?_
      · ((conv=>whnf);repeat(refine And.intro (by omega) ?_;(conv=>whnf)))
        refine EvCall.rows (R := rF) (ty := 25) (xs := sortF [x.lo, y.lo]) Try.call32 (fun ρ W hp => sorted4_s _ [x.lo, y.lo] W (hp.lit (R := rF) (ys := [x.lo, y.lo]) (n := 3) rfl (by decide) (by simp) (by omega) rfl) (by simp) (all2 hx.1 hy.1)) (fun cc hq1 hq2 => ?_)
        ((conv=>whnf);(repeat(refine And.intro ?_ ?_;(focus((first|omega|exact⟨rfl,True.intro⟩|exact⟨rfl,rfl,True.intro⟩|rfl|(simp only[List.length_set];first|omega|(refine⟨?_,?_⟩<;>omega)|(refine⟨?_,?_,?_⟩<;>omega))|(intro hg;(try simp only[bB]at hg);first|omega|(refine⟨?_,?_⟩<;>omega)|(refine⟨?_,?_,?_⟩<;>first|omega|(show _<_;(try simp only[List.length_set]);omega)|exact leT rfl))|(refine⟨?_,?_⟩<;>omega)|(refine⟨?_,?_,?_⟩<;>first|omega|(show _<_;(try simp only[List.length_set]);omega)|exact leT rfl)|(simp only[show rI.d=(0:Int)from rfl];omega));done));(conv=>whnf))))
        refine EvCall.rows (R := rF) (ty := 25) (xs := sortF [x.hi, y.hi]) Try.call32 (fun ρ W hp => sorted4_s _ [x.hi, y.hi] W (hp.lit (R := rF) (ys := [x.hi, y.hi]) (n := 5) rfl (by decide) (by simp) (by omega) rfl) (by simp) (all2 hx.2.1 hy.2.1)) (fun cd hq3 hq4 => ?_)
        ((conv=>whnf);(repeat(refine And.intro ?_ ?_;(focus((first|omega|exact⟨rfl,True.intro⟩|exact⟨rfl,rfl,True.intro⟩|rfl|(simp only[List.length_set];first|omega|(refine⟨?_,?_⟩<;>omega)|(refine⟨?_,?_,?_⟩<;>omega))|(intro hg;(try simp only[bB]at hg);first|omega|(refine⟨?_,?_⟩<;>omega)|(refine⟨?_,?_,?_⟩<;>first|omega|(show _<_;(try simp only[List.length_set]);omega)|exact leT rfl))|(refine⟨?_,?_⟩<;>omega)|(refine⟨?_,?_,?_⟩<;>first|omega|(show _<_;(try simp only[List.length_set]);omega)|exact leT rfl)|(simp only[show rI.d=(0:Int)from rfl];omega));done));(conv=>whnf))))
        refine Exists.intro () (And.intro trivial (Sub.of [] [] rfl ?_))
        ((repeat' (refine And.intro ?_ ?_)) <;> first | rfl | exact True.intro | omega)
      ((conv=>whnf);repeat(refine And.intro (by omega) ?_;(conv=>whnf)))
      refine EvCall.rows (R := rF) (ty := 25) (xs := sortF [x.lo, y.lo]) Try.call32 (fun ρ W hp => sorted4_s _ [x.lo, y.lo] W (hp.lit (R := rF) (ys := [x.lo, y.lo]) (n := 3) rfl (by decide) (by simp) (by omega) rfl) (by simp) (all2 hx.1 hy.1)) (fun cc hq1 hq2 => ?_)
      ((conv=>whnf);(repeat(refine And.intro ?_ ?_;(focus((first|omega|exact⟨rfl,True.intro⟩|exact⟨rfl,rfl,True.intro⟩|rfl|(simp only[List.length_set];first|omega|(refine⟨?_,?_⟩<;>omega)|(refine⟨?_,?_,?_⟩<;>omega))|(intro hg;(try simp only[bB]at hg);first|omega|(refine⟨?_,?_⟩<;>omega)|(refine⟨?_,?_,?_⟩<;>first|omega|(show _<_;(try simp only[List.length_set]);omega)|exact leT rfl))|(refine⟨?_,?_⟩<;>omega)|(refine⟨?_,?_,?_⟩<;>first|omega|(show _<_;(try simp only[List.length_set]);omega)|exact leT rfl)|(simp only[show rI.d=(0:Int)from rfl];omega));done));(conv=>whnf))))
      refine EvCall.rows (R := rF) (ty := 25) (xs := sortF [x.hi, y.hi]) Try.call32 (fun ρ W hp => sorted4_s _ [x.hi, y.hi] W (hp.lit (R := rF) (ys := [x.hi, y.hi]) (n := 4) rfl (by decide) (by simp) (by omega) rfl) (by simp) (all2 hx.2.1 hy.2.1)) (fun cd hq3 hq4 => ?_)
      ((conv=>whnf);(repeat(refine And.intro ?_ ?_;(focus((first|omega|exact⟨rfl,True.intro⟩|exact⟨rfl,rfl,True.intro⟩|rfl|(simp only[List.length_set];first|omega|(refine⟨?_,?_⟩<;>omega)|(refine⟨?_,?_,?_⟩<;>omega))|(intro hg;(try simp only[bB]at hg);first|omega|(refine⟨?_,?_⟩<;>omega)|(refine⟨?_,?_,?_⟩<;>first|omega|(show _<_;(try simp only[List.length_set]);omega)|exact leT rfl))|(refine⟨?_,?_⟩<;>omega)|(refine⟨?_,?_,?_⟩<;>first|omega|(show _<_;(try simp only[List.length_set]);omega)|exact leT rfl)|(simp only[show rI.d=(0:Int)from rfl];omega));done));(conv=>whnf))))
      refine Exists.intro () (And.intro trivial (Sub.of [] [] rfl ?_))
      ((repeat' (refine And.intro ?_ ?_)) <;> first | rfl | exact True.intro | omega)
    ((conv=>whnf);repeat(refine And.intro (by omega) ?_;(conv=>whnf)))
    refine EvCall.rows (R := rF) (ty := 25) (xs := sortF [x.lo, y.lo]) Try.call32 (fun ρ W hp => sorted4_s _ [x.lo, y.lo] W (hp.lit (R := rF) (ys := [x.lo, y.lo]) (n := 4) rfl (by decide) (by simp) (by omega) rfl) (by simp) (all2 hx.1 hy.1)) (fun cc hq1 hq2 => ?_)
    ((conv=>whnf);(repeat(refine And.intro ?_ ?_;(focus((first|omega|exact⟨rfl,True.intro⟩|exact⟨rfl,rfl,True.intro⟩|rfl|(simp only[List.length_set];first|omega|(refine⟨?_,?_⟩<;>omega)|(refine⟨?_,?_,?_⟩<;>omega))|(intro hg;(try simp only[bB]at hg);first|omega|(refine⟨?_,?_⟩<;>omega)|(refine⟨?_,?_,?_⟩<;>first|omega|(show _<_;(try simp only[List.length_set]);omega)|exact leT rfl))|(refine⟨?_,?_⟩<;>omega)|(refine⟨?_,?_,?_⟩<;>first|omega|(show _<_;(try simp only[List.length_set]);omega)|exact leT rfl)|(simp only[show rI.d=(0:Int)from rfl];omega));done));(conv=>whnf))))
    refine EvCall.rows (R := rF) (ty := 25) (xs := sortF [x.hi, y.hi]) Try.call32 (fun ρ W hp => sorted4_s _ [x.hi, y.hi] W (hp.lit (R := rF) (ys := [x.hi, y.hi]) (n := 3) rfl (by decide) (by simp) (by omega) rfl) (by simp) (all2 hx.2.1 hy.2.1)) (fun cd hq3 hq4 => ?_)
    ((conv=>whnf);(repeat(refine And.intro ?_ ?_;(focus((first|omega|exact⟨rfl,True.intro⟩|exact⟨rfl,rfl,True.intro⟩|rfl|(simp only[List.length_set];first|omega|(refine⟨?_,?_⟩<;>omega)|(refine⟨?_,?_,?_⟩<;>omega))|(intro hg;(try simp only[bB]at hg);first|omega|(refine⟨?_,?_⟩<;>omega)|(refine⟨?_,?_,?_⟩<;>first|omega|(show _<_;(try simp only[List.length_set]);omega)|exact leT rfl))|(refine⟨?_,?_⟩<;>omega)|(refine⟨?_,?_,?_⟩<;>first|omega|(show _<_;(try simp only[List.length_set]);omega)|exact leT rfl)|(simp only[show rI.d=(0:Int)from rfl];omega));done));(conv=>whnf))))
    refine Exists.intro () (And.intro trivial (Sub.of [] [] rfl ?_))
    ((repeat' (refine And.intro ?_ ?_)) <;> first | rfl | exact True.intro | omega)
  intro _ _
  ((conv=>whnf);repeat(refine And.intro (by omega) ?_;(conv=>whnf)))
  exact EvRet.ret (fun _ => by unfold imaxF; rw [g2, if_pos rfl, ← sort2_1 hx.1 hy.1, ← sort2_1 hx.2.1 hy.2.1]; rfl)
theorem from4_s (v : Value) (l : List Fq) (w : World) (hv : RowsIn rF w v l) (hn : l.length ≤ 1000) (h0 : 0 < l.length) (hF : ∀ y ∈ l, vF y) : Con Try.prog 55 #[v] w (Ret w (iV ⟨(sortF l).getD 0 fr0, (sortF l).getD (l.length - 1) fr0⟩)) := by
  obtain ⟨A1, c1, rfl, e1, e2⟩ := hv.form
  have hs := sortF_len l
  refine enter tabOk mixed Try.func55 rfl Try.ntmps55 Try.results55 [.s 0 2 l.length c1] (fun _ => A1) [⟨0, false, 25, 2, c1, .rows Fq rF (l)⟩] 1 rfl rfl (.ro (hp0 _ _ _) _ rfl rfl rfl (ro_rows hv rfl _)) ?_
  ((conv=>whnf);repeat(refine And.intro (by omega) ?_;(conv=>whnf)))
  refine EvCall.rows (R := rF) (ty := 25) (xs := sortF l) Try.call32 (fun ρ W hp => sorted4_s _ l W (hp.rowsIn (R := rF) (n := 0) (xs := l) (c := c1) rfl (by decide) e1 e2 2) hn hF) (fun cc hq1 hq2 => ?_)
  have e : Int.toNat (((sortF l).length : Int) - 1) = l.length - 1 := by omega
  ((conv=>whnf);repeat(refine And.intro (by omega) ?_;(conv=>whnf)))
  (refine EvDraw.one (.q 0 (.q 1 (.q 2 (.q 3 (.q 4 (.q 5 (.q 6 (.q 7 (.q 8 (.q 9 (.n 10 true (.z) (.e)))))))))))) (by kernel_rfl) ?_)
  ((conv=>whnf);(repeat(refine And.intro ?_ ?_;(focus((first|omega|exact⟨rfl,True.intro⟩|exact⟨rfl,rfl,True.intro⟩|rfl|(simp only[List.length_set];first|omega|(refine⟨?_,?_⟩<;>omega)|(refine⟨?_,?_,?_⟩<;>omega))|(intro hg;(try simp only[bB]at hg);first|omega|(refine⟨?_,?_⟩<;>omega)|(refine⟨?_,?_,?_⟩<;>first|omega|(show _<_;(try simp only[List.length_set]);omega)|exact leT rfl))|(refine⟨?_,?_⟩<;>omega)|(refine⟨?_,?_,?_⟩<;>first|omega|(show _<_;(try simp only[List.length_set]);omega)|exact leT rfl)|(simp only[show rI.d=(0:Int)from rfl];omega));done));(conv=>whnf))))
  exact EvRet.ret (fun _ => by rw [← e]; rfl)
end Go.Proofs.Ythknflclfmnciaa
