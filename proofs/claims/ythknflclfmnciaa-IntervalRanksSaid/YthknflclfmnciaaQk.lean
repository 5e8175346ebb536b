
/- Fractions and intervals: products and quotients, walked. -/
import Derived.Test.YthknflclfmnciaaQj
import Derived.Test.YthknflclfmnciaaQo
namespace Go.Proofs.Ythknflclfmnciaa
open Go.RowKit
set_option linter.unusedVariables false
set_option linter.unusedSimpArgs false

theorem wd_small (z : Int) : (whi z ≠ 0 ∨ 4611686018427387904 < wlo z) ↔ 4611686018427387904 < z.natAbs := by
  have := wd_split z
  have := wlo_lt z
  omega
theorem quo_le {x : Int} {g : Nat} (h : -4611686018427387904 ≤ x ∧ x ≤ 4611686018427387904) : -4611686018427387904 ≤ x.tdiv g ∧ x.tdiv g ≤ 4611686018427387904 := by
  have h1 : (x.tdiv g).natAbs ≤ x.natAbs := by
    rw [Int.natAbs_tdiv]
    exact Nat.div_le_self _ _
  omega
set_option maxRecDepth 10000 in
theorem mul_s (a b : Fq) (w : World) : Con Try.prog 74 #[fV a, fV b] w (Ret w (feV (mulF a b))) := by
  refine enter tabOk mixed Try.func74 rfl Try.ntmps74 Try.results74 [.a (fS a), .a (fS b)] (fun _ => none) [] 0 rfl rfl (hp0 _ _ _) ?_
  ((conv=>whnf);repeat(refine And.intro (by omega) ?_;(conv=>whnf)))
  refine EvCall.plain Try.call59 (.v (.bool (vB a))) rfl (fun ρ W hp => valid_s a W) ?_
  ((conv=>whnf);repeat(refine And.intro (by omega) ?_;(conv=>whnf)))
  refine EvCallC.plain Try.call59 (.v (.bool (vB b))) rfl (fun _ ρ W hp => valid_s b W) ?_
  ((conv=>whnf);repeat(refine And.intro (by omega) ?_;(conv=>whnf)))
  refine EvIf.split (fun g1 => ?_) (fun g1 => ?_)
  · have g2 : (vB a && vB b) = false := by cases h1 : vB a <;> cases h2 : vB b <;> simp_all
    ((conv=>whnf);repeat(refine And.intro (by omega) ?_;(conv=>whnf)))
    exact EvRet.ret (fun _ => by unfold mulF; rw [g2]; rfl)
  have g2 : vF a ∧ vF b := by
    rw [← vB_iff, ← vB_iff]
    cases h1 : vB a <;> cases h2 : vB b <;> simp_all
  obtain ⟨ha, hb⟩ := g2
  obtain ⟨ga, gb, a1, b1, d1, e1, hga, hgb, pa, pb, ea, eb, ed, ee, ra, rb, rd, re, pd, pe, hc⟩ := mul_parts ha hb
  rw [mulF_parts ha hb pa pb ra rb rd re pd pe hc]
  unfold vF at ha hb
  have ka := quo_le (x := a.n) (g := ga) ha.2.1
  have kb := quo_le (x := b.n) (g := gb) hb.2.1
  have kd := quo_le (x := a.d) (g := gb) (by omega)
  have ke := quo_le (x := b.d) (g := ga) (by omega)
  rw [← ea] at ka
  rw [← eb] at kb
  rw [← ed] at kd
  rw [← ee] at ke
  have hgal : ga ≤ 4611686018427387904 := by rw [hga]; exact Nat.le_trans (Nat.gcd_le_right _ (by omega)) (by omega)
  have hgbl : gb ≤ 4611686018427387904 := by rw [hgb]; exact Nat.le_trans (Nat.gcd_le_right _ (by omega)) (by omega)
  ((conv=>whnf);repeat(refine And.intro (by omega) ?_;(conv=>whnf)))
  (refine EvDraw.one (.q 0 (.q 1 (.q 3 (.q 4 (.q 6 (.q 7 (.q 9 (.q 10 (.n 2 false (.n 5 false (.n 8 false (.n 11 true (.q 12 (.q 13 (.z))) (.e)) (.e)) (.e)) (.e)))))))))) (by kernel_rfl) ?_)
  ((conv=>whnf);repeat(refine And.intro (by omega) ?_;(conv=>whnf)))
  refine EvCall.plain Try.call86 (.v (.int .i64 ((a.n.natAbs : Nat) : Int))) rfl (fun ρ W hp => abs_s a.n W (by omega)) ?_
  ((conv=>whnf);repeat(refine And.intro (by omega) ?_;(conv=>whnf)))
  refine EvCall.plain Try.call85 (.v (.int .i64 (ga : Int))) rfl (fun ρ W hp => by
    have := gcd_s a.n.natAbs b.d.natAbs W (by omega) (by omega)
    rw [show ((b.d.natAbs : Nat) : Int) = b.d by omega, ← hga] at this
    exact this) ?_
  ((conv=>whnf);repeat(refine And.intro (by omega) ?_;(conv=>whnf)))
  refine EvCall.plain Try.call86 (.v (.int .i64 ((b.n.natAbs : Nat) : Int))) rfl (fun ρ W hp => abs_s b.n W (by omega)) ?_
  ((conv=>whnf);repeat(refine And.intro (by omega) ?_;(conv=>whnf)))
  refine EvCall.plain Try.call85 (.v (.int .i64 (gb : Int))) rfl (fun ρ W hp => by
    have := gcd_s b.n.natAbs a.d.natAbs W (by omega) (by omega)
    rw [show ((a.d.natAbs : Nat) : Int) = a.d by omega, ← hgb] at this
    exact this) ?_
  ((conv=>whnf);repeat(refine And.intro (by omega) ?_;(conv=>whnf)))
  have hP := product_s a1 b1
  have hQ := product_s d1 e1
  rw [ea, eb] at hP
  rw [ed, ee] at hQ
  refine EvDraw.meet (.q 0 (.q 1 (.q 2 (.q 3 (.q 4 (.q 5 (.q 6 (.q 7 (.n 8 true (.n 9 false (.n 10 true (.z) (.e)) (.e)) (.n 9 false (.n 8 true (.n 10 true (.z) (.e)) (.e)) (.e))))))))))) (by kernel_rfl) (α := Unit) (fun _ => True) (fun _ => [(2, [], .p 0 0), (3, [], .p 1 0), (4, [], .p 2 0), (5, [], .v (.int .i64 (0))), (6, [], .v (.int .i64 ((ga : Int)))), (7, [], .v (.int .i64 ((gb : Int)))), (8, [], .p 3 0)])
    (fun _ => [⟨0, true, 25, 2, 1, .cs (fS a)⟩, ⟨1, true, 25, 2, 1, .cs (fS b)⟩, ⟨2, true, 25, 2, 1, .cs (fS fr0)⟩, ⟨3, true, 71, 3, 1, .cs (wS (a1 * b1))⟩]) 4 ?_ ?_
  · ((conv=>whnf);repeat(refine And.intro (by omega) ?_;(conv=>whnf)))
    refine And.intro ?_ ?_
    · ((conv=>whnf);repeat(refine And.intro (by omega) ?_;(conv=>whnf)))
      refine EvCall.plain Try.call87 (.a (wS (a1 * b1))) rfl (fun ρ W hp => by rw [wS_den, ea, eb]; exact hP W (by rw [← ea]; omega) (by rw [← eb]; omega)) ?_
      ((conv=>whnf);repeat(refine And.intro (by omega) ?_;(conv=>whnf)))
      refine Exists.intro () (And.intro trivial (Sub.of [] [] rfl ?_))
      ((repeat' (refine And.intro ?_ ?_)) <;> first | rfl | exact True.intro | omega)
    ((conv=>whnf);repeat(refine And.intro (by omega) ?_;(conv=>whnf)))
    refine EvCall.plain Try.call87 (.a (wS (a1 * b1))) rfl (fun ρ W hp => by rw [wS_den, ea, eb]; exact hP W (by rw [← ea]; omega) (by rw [← eb]; omega)) ?_
    ((conv=>whnf);repeat(refine And.intro (by omega) ?_;(conv=>whnf)))
    refine Exists.intro () (And.intro trivial (Sub.of [] [] rfl ?_))
    ((repeat' (refine And.intro ?_ ?_)) <;> first | rfl | exact True.intro | omega)
  intro _ _
  ((conv=>whnf);repeat(refine And.intro (by omega) ?_;(conv=>whnf)))
  refine EvDraw.meet (.q 0 (.q 1 (.q 2 (.q 3 (.q 4 (.q 5 (.q 6 (.q 7 (.n 8 true (.n 9 false (.n 10 true (.z) (.e)) (.e)) (.n 9 false (.n 8 true (.n 10 true (.z) (.e)) (.e)) (.e))))))))))) (by kernel_rfl) (α := Unit) (fun _ => True) (fun _ => [(2, [], .p 0 0), (3, [], .p 1 0), (4, [], .p 2 0), (5, [], .v (.int .i64 (0))), (6, [], .v (.int .i64 ((ga : Int)))), (7, [], .v (.int .i64 ((gb : Int)))), (8, [], .p 3 0), (9, [], .p 4 0)])
    (fun _ => [⟨0, true, 25, 2, 1, .cs (fS a)⟩, ⟨1, true, 25, 2, 1, .cs (fS b)⟩, ⟨2, true, 25, 2, 1, .cs (fS fr0)⟩, ⟨3, true, 71, 3, 1, .cs (wS (a1 * b1))⟩, ⟨4, true, 71, 3, 1, .cs (wS (d1 * e1))⟩]) 5 ?_ ?_
  · ((conv=>whnf);repeat(refine And.intro (by omega) ?_;(conv=>whnf)))
    refine And.intro ?_ ?_
    · ((conv=>whnf);repeat(refine And.intro (by omega) ?_;(conv=>whnf)))
      refine EvCall.plain Try.call87 (.a (wS (d1 * e1))) rfl (fun ρ W hp => by rw [wS_den, ed, ee]; exact hQ W (by rw [← ed]; omega) (by rw [← ee]; omega)) ?_
      ((conv=>whnf);repeat(refine And.intro (by omega) ?_;(conv=>whnf)))
      refine Exists.intro () (And.intro trivial (Sub.of [] [] rfl ?_))
      ((repeat' (refine And.intro ?_ ?_)) <;> first | rfl | exact True.intro | omega)
    ((conv=>whnf);repeat(refine And.intro (by omega) ?_;(conv=>whnf)))
    refine EvCall.plain Try.call87 (.a (wS (d1 * e1))) rfl (fun ρ W hp => by rw [wS_den, ed, ee]; exact hQ W (by rw [← ed]; omega) (by rw [← ee]; omega)) ?_
    ((conv=>whnf);repeat(refine And.intro (by omega) ?_;(conv=>whnf)))
    refine Exists.intro () (And.intro trivial (Sub.of [] [] rfl ?_))
    ((repeat' (refine And.intro ?_ ?_)) <;> first | rfl | exact True.intro | omega)
  intro _ _
  have sP := wd_small (a1 * b1)
  have sQ := wd_small (d1 * e1)
  have tP := wd_split (a1 * b1)
  have tQ := wd_split (d1 * e1)
  have uQ := Int.mul_pos pd pe
  clear hP hQ hc
  generalize a1 * b1 = P at *
  generalize d1 * e1 = Q at *
  ((conv=>whnf);repeat(refine And.intro (by omega) ?_;(conv=>whnf)))
  refine EvIf.split (fun g5 => ?_) (fun g5 => ?_)
  · have g6 : 4611686018427387904 < P.natAbs ∨ 4611686018427387904 < Q.natAbs := by
      rw [← sP, ← sQ]
      simp only [Bool.or_eq_true, Bool.not_eq_true', decide_eq_true_eq, decide_eq_false_iff_not] at g5
      omega
    ((conv=>whnf);repeat(refine And.intro (by omega) ?_;(conv=>whnf)))
    exact EvRet.ret (fun _ => by unfold limF; rw [if_pos g6]; rfl)
  have g6 : ¬ (4611686018427387904 < P.natAbs ∨ 4611686018427387904 < Q.natAbs) := by
    rw [← sP, ← sQ]
    simp only [Bool.or_eq_false_iff, Bool.not_eq_false', decide_eq_true_eq, decide_eq_false_iff_not] at g5
    omega
  have hP0 : whi P = 0 ∧ wlo P = P.natAbs := by
    have := wlo_lt P
    omega
  have hQ0 : whi Q = 0 ∧ wlo Q = Q.natAbs := by
    have := wlo_lt Q
    omega
  have wP := i64_in (wlo P : Int) (by omega)
  have wQ := i64_in (wlo Q : Int) (by omega)
  have hl : limF P Q = (⟨P, Q⟩, 0) := by unfold limF; rw [if_neg g6]
  ((conv=>whnf);repeat(refine And.intro (by omega) ?_;(conv=>whnf)))
  refine EvIf.split (fun g7 => ?_) (fun g7 => ?_)
  · have g8 := of_decide_eq_true g7
    ((conv=>whnf);repeat(refine And.intro (by omega) ?_;(conv=>whnf)))
    exact EvRet.ret (fun _ => by
      rw [hl]
      simp only [den, denL, wP, wQ, feV, fV, hP0, hQ0]
      rw [show -(P.natAbs : Int) = P by omega, show (Q.natAbs : Int) = Q by omega])
  · have g8 := of_decide_eq_false g7
    ((conv=>whnf);repeat(refine And.intro (by omega) ?_;(conv=>whnf)))
    exact EvRet.ret (fun _ => by
      rw [hl]
      simp only [den, denL, wP, wQ, feV, fV, hP0, hQ0]
      rw [show (P.natAbs : Int) = P by omega, show (Q.natAbs : Int) = Q by omega])
end Go.Proofs.Ythknflclfmnciaa
