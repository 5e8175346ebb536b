
/- The reference of fractions: sums, differences, products and quotients in full, walked. -/
import Derived.Test.YthknflclfmnciaaWh
namespace Go.Proofs.Ythknflclfmnciaa
open Go.RowKit
set_option linter.unusedVariables false
set_option linter.unusedSimpArgs false

def shB (a : Fq) : Bool := decide (a.n.natAbs ≤ 1073741824) && decide (a.d ≤ 1073741824)
theorem shB_iff (a : Fq) : shB a = true ↔ shF a := by simp [shB, shF]
theorem short_b (a : Fq) (w : World) (ra : inF a) : Con Try.prog 76 #[fV a] w (Ret w (.bool (shB a))) := by
  refine enter tabOk mixed Try.func76 rfl Try.ntmps76 Try.results76 [.a (fS a)] (fun _ => none) [] 0 rfl rfl (hp0 _ _ _) ?_
  ((conv=>whnf);repeat(refine And.intro (by omega) ?_;(conv=>whnf)))
  refine EvCall.plain Try.call79 (.v (.int .u64 ((a.n.natAbs : Nat) : Int))) rfl (fun ρ W hp => size_s a.n W ra.1) ?_
  ((conv=>whnf);repeat(refine And.intro (by omega) ?_;(conv=>whnf)))
  refine ret_bool ?_
  unfold shB
  congr 1
  apply decide_eq_decide.2
  omega
theorem newF_redF {n d : Int} (hd : 0 < d) (hn : n.natAbs ≤ 9223372036854775807) (hd2 : d ≤ 9223372036854775807) : newF n d = redF n d := by
  unfold newF redF
  rw [if_neg (show ¬ d = 0 by omega), if_neg (by omega), decide_eq_false (show ¬ d < 0 by omega)]
  simp
theorem lowestI (neg : Bool) (x y : Int) (w : World) (hx : 0 ≤ x ∧ x ≤ 340282366920938463463374607431768211456) (hy : 0 < y ∧ y ≤ 340282366920938463463374607431768211456) : Con Try.prog 80 #[.bool neg, nV (dgN 8 x), nV (dgN 8 y)] w (Ret w (feV (redF (if neg then -x else x) y))) := by
  have h2 : (340282366920938463463374607431768211456 : Nat) < 2 ^ 200 := by decide
  have := lowestN neg x.toNat y.toNat w (by omega) (by omega) (by omega)
  rw [show ((x.toNat : Nat) : Int) = x by omega, show ((y.toNat : Nat) : Int) = y by omega] at this
  exact this
set_option maxRecDepth 10000 in
theorem addR_s (a b : Fq) (w : World) (ra : inF a) (rb : inF b) : Con Try.prog 57 #[fV a, fV b] w (Ret w (feV (addF a b))) := by
  by_cases hsh : vF a ∧ vF b ∧ shF a ∧ shF b
  · obtain ⟨ha, hb, sa, sb⟩ := hsh
    have := add3_s a b w ha hb sa sb
    have ad := ha.1.1
    have bd := hb.1.1
    have m1 := mul_in (x := a.n) (y := b.d) sa.1 (by have := sb.2; omega)
    have m2 := mul_in (x := b.n) (y := a.d) sb.1 (by have := sa.2; omega)
    have m3 := mul_in (x := a.d) (y := b.d) (by have := sa.2; omega) (by have := sb.2; omega)
    rw [newF_redF (Int.mul_pos ha.pos hb.pos) (by omega) (by omega), ← addF_eq ha hb] at this
    exact this
  refine enter tabOk mixed Try.func57 rfl Try.ntmps57 Try.results57 [.a (fS a), .a (fS b)] (fun _ => none) [] 0 rfl rfl (hp0 _ _ _) ?_
  ((conv=>whnf);repeat(refine And.intro (by omega) ?_;(conv=>whnf)))
  refine EvCall.plain Try.call26 (.v (.bool (vB a))) rfl (fun ρ W hp => valid3_s a W ra) ?_
  ((conv=>whnf);repeat(refine And.intro (by omega) ?_;(conv=>whnf)))
  refine EvCall.plain Try.call26 (.v (.bool (vB b))) rfl (fun ρ W hp => valid3_s b W rb) ?_
  ((conv=>whnf);repeat(refine And.intro (by omega) ?_;(conv=>whnf)))
  refine EvIf.split (fun g1 => ?_) (fun g1 => ?_)
  · have g2 : (vB a && vB b) = false := by cases h1 : vB a <;> cases h2 : vB b <;> simp_all
    ((conv=>whnf);repeat(refine And.intro (by omega) ?_;(conv=>whnf)))
    exact EvRet.ret (fun _ => by unfold addF; rw [g2]; rfl)
  have g2 : vF a ∧ vF b := by
    rw [← vB_iff, ← vB_iff]
    cases h1 : vB a <;> cases h2 : vB b <;> simp_all
  obtain ⟨ha, hb⟩ := g2
  rw [addF_eq ha hb]
  have ad := ha.1
  have bd := hb.1
  have an := ha.2.1
  have bn := hb.2.1
  ((conv=>whnf);repeat(refine And.intro (by omega) ?_;(conv=>whnf)))
  refine EvCall.plain Try.call76 (.v (.bool (shB a))) rfl (fun ρ W hp => short_b a W ra) ?_
  ((conv=>whnf);repeat(refine And.intro (by omega) ?_;(conv=>whnf)))
  refine EvCall.plain Try.call76 (.v (.bool (shB b))) rfl (fun ρ W hp => short_b b W rb) ?_
  ((conv=>whnf);repeat(refine And.intro (by omega) ?_;(conv=>whnf)))
  refine EvIf.neg ?_ ?_
  · cases h1 : shB a <;> cases h2 : shB b <;> first | rfl | exact absurd ⟨ha, hb, (shB_iff a).1 h1, (shB_iff b).1 h2⟩ hsh
  have p1 := prod_small (x := (a.n.natAbs : Int)) (y := b.d) (by omega) (by omega)
  have p2 := prod_small (x := (b.n.natAbs : Int)) (y := a.d) (by omega) (by omega)
  have p3 := prod_small (x := a.d) (y := b.d) (by omega) (by omega)
  have hX : (a.n < 0 → (a.n.natAbs : Int) * b.d = -(a.n * b.d)) ∧ (0 ≤ a.n → (a.n.natAbs : Int) * b.d = a.n * b.d) := ⟨fun h => by rw [show (a.n.natAbs : Int) = -a.n by omega, Int.neg_mul], fun h => by rw [show (a.n.natAbs : Int) = a.n by omega]⟩
  have hY : (b.n < 0 → (b.n.natAbs : Int) * a.d = -(b.n * a.d)) ∧ (0 ≤ b.n → (b.n.natAbs : Int) * a.d = b.n * a.d) := ⟨fun h => by rw [show (b.n.natAbs : Int) = -b.n by omega, Int.neg_mul], fun h => by rw [show (b.n.natAbs : Int) = b.n by omega]⟩
  have pz := Int.mul_pos ha.pos hb.pos
  have t1 := timesN (a.n.natAbs : Int) b.d
  have t2 := timesN (b.n.natAbs : Int) a.d
  have t3 := timesN a.d b.d
  generalize (a.n.natAbs : Int) * b.d = X at *
  generalize (b.n.natAbs : Int) * a.d = Y at *
  generalize a.n * b.d = P at *
  generalize b.n * a.d = Q at *
  generalize a.d * b.d = Z at *
  have wa : IntKind.u64.wrap a.d = a.d := u64_in _ (by omega)
  have wb : IntKind.u64.wrap b.d = b.d := u64_in _ (by omega)
  have p8 := pw8
  ((conv=>whnf);repeat(refine And.intro (by omega) ?_;(conv=>whnf)))
  refine EvDraw.meet (.q 0 (.q 1 (.q 4 (.q 5 (.q 6 (.n 2 false (.n 3 false (.n 7 true (.n 8 true (.n 9 false (.n 10 true (.z) (.e)) (.e)) (.n 9 false (.n 8 true (.n 10 true (.z) (.e)) (.e)) (.e))) (.n 9 false (.n 7 true (.n 8 true (.n 10 true (.z) (.e)) (.e)) (.e)) (.e))) (.n 9 false (.n 3 false (.n 7 true (.n 8 true (.n 10 true (.z) (.e)) (.e)) (.e)) (.e)) (.e))) (.n 9 false (.n 2 false (.n 3 false (.n 7 true (.n 8 true (.n 10 true (.z) (.e)) (.e)) (.e)) (.e)) (.e)) (.e)))))))) (by kernel_rfl) (α := Unit) (fun _ => True) (fun _ => [(2, [], .p 0 0), (3, [], .p 1 0), (4, [], .p 2 0), (5, [], .v (.int .i64 (0))), (8, [], .p 3 0)])
    (fun _ => [⟨0, true, 25, 2, 1, .cs (fS a)⟩, ⟨1, true, 25, 2, 1, .cs (fS b)⟩, ⟨2, true, 25, 2, 1, .cs (fS fr0)⟩, ⟨3, true, 83, 8, 1, .cs (nS (dgN 8 X))⟩]) 4 ?_ ?_
  · ((conv=>whnf);repeat(refine And.intro (by omega) ?_;(conv=>whnf)))
    refine And.intro ?_ ?_
    · ((conv=>whnf);repeat(refine And.intro (by omega) ?_;(conv=>whnf)))
      refine EvCall.plain Try.call79 (.v (.int .u64 ((a.n.natAbs : Nat) : Int))) rfl (fun ρ W hp => size_s a.n W ra.1) ?_
      ((conv=>whnf);repeat(refine And.intro (by omega) ?_;(conv=>whnf)))
      refine And.intro ?_ ?_
      · ((conv=>whnf);repeat(refine And.intro (by omega) ?_;(conv=>whnf)))
        refine EvCall.plain Try.call78 (.a (nS (dgN 8 (a.n.natAbs : Int)))) rfl (fun ρ W hp => by rw [nS_den]; exact from_s _ W (by omega)) ?_
        ((conv=>whnf);repeat(refine And.intro (by omega) ?_;(conv=>whnf)))
        refine And.intro ?_ ?_
        · ((conv=>whnf);repeat(refine And.intro (by omega) ?_;(conv=>whnf)))
          refine EvCall.plain Try.call78 (.a (nS (dgN 8 b.d))) rfl (fun ρ W hp => by rw [nS_den]; simp only [denL, den, wb]; exact from_s _ W (by omega)) ?_
          ((conv=>whnf);repeat(refine And.intro (by omega) ?_;(conv=>whnf)))
          refine And.intro ?_ ?_
          · ((conv=>whnf);repeat(refine And.intro (by omega) ?_;(conv=>whnf)))
            refine EvCall.plain Try.call77 (.a (nS (dgN 8 X))) rfl (fun ρ W hp => by simp only [denL, nS_den]; exact t1 W (by omega) (by omega)) ?_
            ((conv=>whnf);repeat(refine And.intro (by omega) ?_;(conv=>whnf)))
            refine Exists.intro () (And.intro trivial (Sub.of [] [] rfl ?_))
            ((repeat' (refine And.intro ?_ ?_)) <;> first | rfl | exact True.intro | omega)
          ((conv=>whnf);repeat(refine And.intro (by omega) ?_;(conv=>whnf)))
          refine EvCall.plain Try.call77 (.a (nS (dgN 8 X))) rfl (fun ρ W hp => by simp only [denL, nS_den]; exact t1 W (by omega) (by omega)) ?_
          ((conv=>whnf);repeat(refine And.intro (by omega) ?_;(conv=>whnf)))
          refine Exists.intro () (And.intro trivial (Sub.of [] [] rfl ?_))
          ((repeat' (refine And.intro ?_ ?_)) <;> first | rfl | exact True.intro | omega)
        ((conv=>whnf);repeat(refine And.intro (by omega) ?_;(conv=>whnf)))
        refine EvCall.plain Try.call78 (.a (nS (dgN 8 b.d))) rfl (fun ρ W hp => by rw [nS_den]; simp only [denL, den, wb]; exact from_s _ W (by omega)) ?_
        ((conv=>whnf);repeat(refine And.intro (by omega) ?_;(conv=>whnf)))
        refine EvCall.plain Try.call77 (.a (nS (dgN 8 X))) rfl (fun ρ W hp => by simp only [denL, nS_den]; exact t1 W (by omega) (by omega)) ?_
        ((conv=>whnf);repeat(refine And.intro (by omega) ?_;(conv=>whnf)))
        refine Exists.intro () (And.intro trivial (Sub.of [] [] rfl ?_))
        ((repeat' (refine And.intro ?_ ?_)) <;> first | rfl | exact True.intro | omega)
      ((conv=>whnf);repeat(refine And.intro (by omega) ?_;(conv=>whnf)))
      refine EvCall.plain Try.call78 (.a (nS (dgN 8 (a.n.natAbs : Int)))) rfl (fun ρ W hp => by rw [nS_den]; exact from_s _ W (by omega)) ?_
      ((conv=>whnf);repeat(refine And.intro (by omega) ?_;(conv=>whnf)))
      refine EvCall.plain Try.call78 (.a (nS (dgN 8 b.d))) rfl (fun ρ W hp => by rw [nS_den]; simp only [denL, den, wb]; exact from_s _ W (by omega)) ?_
      ((conv=>whnf);repeat(refine And.intro (by omega) ?_;(conv=>whnf)))
      refine EvCall.plain Try.call77 (.a (nS (dgN 8 X))) rfl (fun ρ W hp => by simp only [denL, nS_den]; exact t1 W (by omega) (by omega)) ?_
      ((conv=>whnf);repeat(refine And.intro (by omega) ?_;(conv=>whnf)))
      refine Exists.intro () (And.intro trivial (Sub.of [] [] rfl ?_))
      ((repeat' (refine And.intro ?_ ?_)) <;> first | rfl | exact True.intro | omega)
    ((conv=>whnf);repeat(refine And.intro (by omega) ?_;(conv=>whnf)))
    refine EvCall.plain Try.call79 (.v (.int .u64 ((a.n.natAbs : Nat) : Int))) rfl (fun ρ W hp => size_s a.n W ra.1) ?_
    ((conv=>whnf);repeat(refine And.intro (by omega) ?_;(conv=>whnf)))
    refine EvCall.plain Try.call78 (.a (nS (dgN 8 (a.n.natAbs : Int)))) rfl (fun ρ W hp => by rw [nS_den]; exact from_s _ W (by omega)) ?_
    ((conv=>whnf);repeat(refine And.intro (by omega) ?_;(conv=>whnf)))
    refine EvCall.plain Try.call78 (.a (nS (dgN 8 b.d))) rfl (fun ρ W hp => by rw [nS_den]; simp only [denL, den, wb]; exact from_s _ W (by omega)) ?_
    ((conv=>whnf);repeat(refine And.intro (by omega) ?_;(conv=>whnf)))
    refine EvCall.plain Try.call77 (.a (nS (dgN 8 X))) rfl (fun ρ W hp => by simp only [denL, nS_den]; exact t1 W (by omega) (by omega)) ?_
    ((conv=>whnf);repeat(refine And.intro (by omega) ?_;(conv=>whnf)))
    refine Exists.intro () (And.intro trivial (Sub.of [] [] rfl ?_))
    ((repeat' (refine And.intro ?_ ?_)) <;> first | rfl | exact True.intro | omega)
  intro _ _
  ((conv=>whnf);repeat(refine And.intro (by omega) ?_;(conv=>whnf)))
  refine EvDraw.meet (.q 0 (.q 1 (.q 4 (.q 5 (.q 6 (.n 2 false (.n 3 false (.n 7 true (.n 8 true (.n 9 false (.n 10 true (.z) (.e)) (.e)) (.n 9 false (.n 8 true (.n 10 true (.z) (.e)) (.e)) (.e))) (.n 9 false (.n 7 true (.n 8 true (.n 10 true (.z) (.e)) (.e)) (.e)) (.e))) (.n 9 false (.n 3 false (.n 7 true (.n 8 true (.n 10 true (.z) (.e)) (.e)) (.e)) (.e)) (.e))) (.n 9 false (.n 2 false (.n 3 false (.n 7 true (.n 8 true (.n 10 true (.z) (.e)) (.e)) (.e)) (.e)) (.e)) (.e)))))))) (by kernel_rfl) (α := Unit) (fun _ => True) (fun _ => [(2, [], .p 0 0), (3, [], .p 1 0), (4, [], .p 2 0), (5, [], .v (.int .i64 (0))), (8, [], .p 3 0), (9, [], .p 4 0)])
    (fun _ => [⟨0, true, 25, 2, 1, .cs (fS a)⟩, ⟨1, true, 25, 2, 1, .cs (fS b)⟩, ⟨2, true, 25, 2, 1, .cs (fS fr0)⟩, ⟨3, true, 83, 8, 1, .cs (nS (dgN 8 X))⟩, ⟨4, true, 83, 8, 1, .cs (nS (dgN 8 Y))⟩]) 5 ?_ ?_
  · ((conv=>whnf);repeat(refine And.intro (by omega) ?_;(conv=>whnf)))
    refine And.intro ?_ ?_
    · ((conv=>whnf);repeat(refine And.intro (by omega) ?_;(conv=>whnf)))
      refine EvCall.plain Try.call79 (.v (.int .u64 ((b.n.natAbs : Nat) : Int))) rfl (fun ρ W hp => size_s b.n W rb.1) ?_
      ((conv=>whnf);repeat(refine And.intro (by omega) ?_;(conv=>whnf)))
      refine And.intro ?_ ?_
      · ((conv=>whnf);repeat(refine And.intro (by omega) ?_;(conv=>whnf)))
        refine EvCall.plain Try.call78 (.a (nS (dgN 8 (b.n.natAbs : Int)))) rfl (fun ρ W hp => by rw [nS_den]; exact from_s _ W (by omega)) ?_
        ((conv=>whnf);repeat(refine And.intro (by omega) ?_;(conv=>whnf)))
        refine And.intro ?_ ?_
        · ((conv=>whnf);repeat(refine And.intro (by omega) ?_;(conv=>whnf)))
          refine EvCall.plain Try.call78 (.a (nS (dgN 8 a.d))) rfl (fun ρ W hp => by rw [nS_den]; simp only [denL, den, wa]; exact from_s _ W (by omega)) ?_
          ((conv=>whnf);repeat(refine And.intro (by omega) ?_;(conv=>whnf)))
          refine And.intro ?_ ?_
          · ((conv=>whnf);repeat(refine And.intro (by omega) ?_;(conv=>whnf)))
            refine EvCall.plain Try.call77 (.a (nS (dgN 8 Y))) rfl (fun ρ W hp => by simp only [denL, nS_den]; exact t2 W (by omega) (by omega)) ?_
            ((conv=>whnf);repeat(refine And.intro (by omega) ?_;(conv=>whnf)))
            refine Exists.intro () (And.intro trivial (Sub.of [] [] rfl ?_))
            ((repeat' (refine And.intro ?_ ?_)) <;> first | rfl | exact True.intro | omega)
          ((conv=>whnf);repeat(refine And.intro (by omega) ?_;(conv=>whnf)))
          refine EvCall.plain Try.call77 (.a (nS (dgN 8 Y))) rfl (fun ρ W hp => by simp only [denL, nS_den]; exact t2 W (by omega) (by omega)) ?_
          ((conv=>whnf);repeat(refine And.intro (by omega) ?_;(conv=>whnf)))
          refine Exists.intro () (And.intro trivial (Sub.of [] [] rfl ?_))
          ((repeat' (refine And.intro ?_ ?_)) <;> first | rfl | exact True.intro | omega)
        ((conv=>whnf);repeat(refine And.intro (by omega) ?_;(conv=>whnf)))
        refine EvCall.plain Try.call78 (.a (nS (dgN 8 a.d))) rfl (fun ρ W hp => by rw [nS_den]; simp only [denL, den, wa]; exact from_s _ W (by omega)) ?_
        ((conv=>whnf);repeat(refine And.intro (by omega) ?_;(conv=>whnf)))
        refine EvCall.plain Try.call77 (.a (nS (dgN 8 Y))) rfl (fun ρ W hp => by simp only [denL, nS_den]; exact t2 W (by omega) (by omega)) ?_
        ((conv=>whnf);repeat(refine And.intro (by omega) ?_;(conv=>whnf)))
        refine Exists.intro () (And.intro trivial (Sub.of [] [] rfl ?_))
        ((repeat' (refine And.intro ?_ ?_)) <;> first | rfl | exact True.intro | omega)
      ((conv=>whnf);repeat(refine And.intro (by omega) ?_;(conv=>whnf)))
      refine EvCall.plain Try.call78 (.a (nS (dgN 8 (b.n.natAbs : Int)))) rfl (fun ρ W hp => by rw [nS_den]; exact from_s _ W (by omega)) ?_
      ((conv=>whnf);repeat(refine And.intro (by omega) ?_;(conv=>whnf)))
      refine EvCall.plain Try.call78 (.a (nS (dgN 8 a.d))) rfl (fun ρ W hp => by rw [nS_den]; simp only [denL, den, wa]; exact from_s _ W (by omega)) ?_
      ((conv=>whnf);repeat(refine And.intro (by omega) ?_;(conv=>whnf)))
      refine EvCall.plain Try.call77 (.a (nS (dgN 8 Y))) rfl (fun ρ W hp => by simp only [denL, nS_den]; exact t2 W (by omega) (by omega)) ?_
      ((conv=>whnf);repeat(refine And.intro (by omega) ?_;(conv=>whnf)))
      refine Exists.intro () (And.intro trivial (Sub.of [] [] rfl ?_))
      ((repeat' (refine And.intro ?_ ?_)) <;> first | rfl | exact True.intro | omega)
    ((conv=>whnf);repeat(refine And.intro (by omega) ?_;(conv=>whnf)))
    refine EvCall.plain Try.call79 (.v (.int .u64 ((b.n.natAbs : Nat) : Int))) rfl (fun ρ W hp => size_s b.n W rb.1) ?_
    ((conv=>whnf);repeat(refine And.intro (by omega) ?_;(conv=>whnf)))
    refine EvCall.plain Try.call78 (.a (nS (dgN 8 (b.n.natAbs : Int)))) rfl (fun ρ W hp => by rw [nS_den]; exact from_s _ W (by omega)) ?_
    ((conv=>whnf);repeat(refine And.intro (by omega) ?_;(conv=>whnf)))
    refine EvCall.plain Try.call78 (.a (nS (dgN 8 a.d))) rfl (fun ρ W hp => by rw [nS_den]; simp only [denL, den, wa]; exact from_s _ W (by omega)) ?_
    ((conv=>whnf);repeat(refine And.intro (by omega) ?_;(conv=>whnf)))
    refine EvCall.plain Try.call77 (.a (nS (dgN 8 Y))) rfl (fun ρ W hp => by simp only [denL, nS_den]; exact t2 W (by omega) (by omega)) ?_
    ((conv=>whnf);repeat(refine And.intro (by omega) ?_;(conv=>whnf)))
    refine Exists.intro () (And.intro trivial (Sub.of [] [] rfl ?_))
    ((repeat' (refine And.intro ?_ ?_)) <;> first | rfl | exact True.intro | omega)
  intro _ _
  ((conv=>whnf);repeat(refine And.intro (by omega) ?_;(conv=>whnf)))
  refine EvDraw.meet (.q 0 (.q 1 (.q 2 (.q 4 (.q 5 (.q 6 (.n 3 false (.n 7 true (.n 8 true (.n 9 false (.n 10 true (.z) (.e)) (.e)) (.n 9 false (.n 8 true (.n 10 true (.z) (.e)) (.e)) (.e))) (.n 9 false (.n 7 true (.n 8 true (.n 10 true (.z) (.e)) (.e)) (.e)) (.e))) (.n 9 false (.n 3 false (.n 7 true (.n 8 true (.n 10 true (.z) (.e)) (.e)) (.e)) (.e)) (.e))))))))) (by kernel_rfl) (α := Unit) (fun _ => True) (fun _ => [(2, [], .p 0 0), (3, [], .p 1 0), (4, [], .p 2 0), (5, [], .v (.int .i64 (0))), (8, [], .p 3 0), (9, [], .p 4 0), (10, [], .p 5 0)])
    (fun _ => [⟨0, true, 25, 2, 1, .cs (fS a)⟩, ⟨1, true, 25, 2, 1, .cs (fS b)⟩, ⟨2, true, 25, 2, 1, .cs (fS fr0)⟩, ⟨3, true, 83, 8, 1, .cs (nS (dgN 8 X))⟩, ⟨4, true, 83, 8, 1, .cs (nS (dgN 8 Y))⟩, ⟨5, true, 83, 8, 1, .cs (nS (dgN 8 Z))⟩]) 6 ?_ ?_
  · ((conv=>whnf);repeat(refine And.intro (by omega) ?_;(conv=>whnf)))
    refine And.intro ?_ ?_
    · ((conv=>whnf);repeat(refine And.intro (by omega) ?_;(conv=>whnf)))
      refine EvCall.plain Try.call78 (.a (nS (dgN 8 a.d))) rfl (fun ρ W hp => by rw [nS_den]; simp only [denL, den, wa]; exact from_s _ W (by omega)) ?_
      ((conv=>whnf);repeat(refine And.intro (by omega) ?_;(conv=>whnf)))
      refine And.intro ?_ ?_
      · ((conv=>whnf);repeat(refine And.intro (by omega) ?_;(conv=>whnf)))
        refine EvCall.plain Try.call78 (.a (nS (dgN 8 b.d))) rfl (fun ρ W hp => by rw [nS_den]; simp only [denL, den, wb]; exact from_s _ W (by omega)) ?_
        ((conv=>whnf);repeat(refine And.intro (by omega) ?_;(conv=>whnf)))
        refine And.intro ?_ ?_
        · ((conv=>whnf);repeat(refine And.intro (by omega) ?_;(conv=>whnf)))
          refine EvCall.plain Try.call77 (.a (nS (dgN 8 Z))) rfl (fun ρ W hp => by simp only [denL, nS_den]; exact t3 W (by omega) (by omega)) ?_
          ((conv=>whnf);repeat(refine And.intro (by omega) ?_;(conv=>whnf)))
          refine Exists.intro () (And.intro trivial (Sub.of [] [] rfl ?_))
          ((repeat' (refine And.intro ?_ ?_)) <;> first | rfl | exact True.intro | omega)
        ((conv=>whnf);repeat(refine And.intro (by omega) ?_;(conv=>whnf)))
        refine EvCall.plain Try.call77 (.a (nS (dgN 8 Z))) rfl (fun ρ W hp => by simp only [denL, nS_den]; exact t3 W (by omega) (by omega)) ?_
        ((conv=>whnf);repeat(refine And.intro (by omega) ?_;(conv=>whnf)))
        refine Exists.intro () (And.intro trivial (Sub.of [] [] rfl ?_))
        ((repeat' (refine And.intro ?_ ?_)) <;> first | rfl | exact True.intro | omega)
      ((conv=>whnf);repeat(refine And.intro (by omega) ?_;(conv=>whnf)))
      refine EvCall.plain Try.call78 (.a (nS (dgN 8 b.d))) rfl (fun ρ W hp => by rw [nS_den]; simp only [denL, den, wb]; exact from_s _ W (by omega)) ?_
      ((conv=>whnf);repeat(refine And.intro (by omega) ?_;(conv=>whnf)))
      refine EvCall.plain Try.call77 (.a (nS (dgN 8 Z))) rfl (fun ρ W hp => by simp only [denL, nS_den]; exact t3 W (by omega) (by omega)) ?_
      ((conv=>whnf);repeat(refine And.intro (by omega) ?_;(conv=>whnf)))
      refine Exists.intro () (And.intro trivial (Sub.of [] [] rfl ?_))
      ((repeat' (refine And.intro ?_ ?_)) <;> first | rfl | exact True.intro | omega)
    ((conv=>whnf);repeat(refine And.intro (by omega) ?_;(conv=>whnf)))
    refine EvCall.plain Try.call78 (.a (nS (dgN 8 a.d))) rfl (fun ρ W hp => by rw [nS_den]; simp only [denL, den, wa]; exact from_s _ W (by omega)) ?_
    ((conv=>whnf);repeat(refine And.intro (by omega) ?_;(conv=>whnf)))
    refine EvCall.plain Try.call78 (.a (nS (dgN 8 b.d))) rfl (fun ρ W hp => by rw [nS_den]; simp only [denL, den, wb]; exact from_s _ W (by omega)) ?_
    ((conv=>whnf);repeat(refine And.intro (by omega) ?_;(conv=>whnf)))
    refine EvCall.plain Try.call77 (.a (nS (dgN 8 Z))) rfl (fun ρ W hp => by simp only [denL, nS_den]; exact t3 W (by omega) (by omega)) ?_
    ((conv=>whnf);repeat(refine And.intro (by omega) ?_;(conv=>whnf)))
    refine Exists.intro () (And.intro trivial (Sub.of [] [] rfl ?_))
    ((repeat' (refine And.intro ?_ ?_)) <;> first | rfl | exact True.intro | omega)
  intro _ _
  clear t1 t2 t3
  ((conv=>whnf);repeat(refine And.intro (by omega) ?_;(conv=>whnf)))
  refine EvIf.split (fun g3 => ?_) (fun g3 => ?_)
  · have hs : (if decide (a.n < 0) = true then -(X + Y) else X + Y) = P + Q := by
      by_cases h1 : a.n < 0 <;> by_cases h2 : b.n < 0 <;> simp [h1, h2] at g3 ⊢ <;> omega
    have hl := lowestI (decide (a.n < 0)) (X + Y) Z
    rw [hs] at hl
    generalize redF (P + Q) Z = r at *
    ((conv=>whnf);repeat(refine And.intro (by omega) ?_;(conv=>whnf)))
    (refine EvDraw.one (.q 0 (.q 1 (.q 2 (.q 3 (.q 4 (.q 6 (.n 5 false (.n 7 true (.q 8 (.q 9 (.n 10 true (.q 11 (.z)) (.e)))) (.e)) (.e)))))))) (by kernel_rfl) ?_)
    ((conv=>whnf);repeat(refine And.intro (by omega) ?_;(conv=>whnf)))
    refine EvCall.plain Try.call81 (.a (nS (dgN 8 (X + Y)))) rfl (fun ρ W hp => by
      have := plusN X Y W (by omega) (by omega) (by omega)
      rw [← nS_den ρ (dgN 8 X), ← nS_den ρ (dgN 8 Y), ← nS_den ρ (dgN 8 (X + Y))] at this
      exact this) ?_
    ((conv=>whnf);repeat(refine And.intro (by omega) ?_;(conv=>whnf)))
    refine EvCall.plain Try.call80 (feS r) rfl (fun ρ W hp => by
      have := hl W (by omega) (by omega)
      rw [← feS_den ρ r, ← nS_den ρ (dgN 8 (X + Y)), ← nS_den ρ (dgN 8 Z)] at this
      exact this) ?_
    ((conv=>whnf);repeat(refine And.intro (by omega) ?_;(conv=>whnf)))
    exact EvRet.ret (fun _ => feS_den _ _)
  have g4 : ¬ (decide (a.n < 0) = decide (b.n < 0)) := by simpa using g3
  have s1 := sgI_lt (X - Y)
  ((conv=>whnf);repeat(refine And.intro (by omega) ?_;(conv=>whnf)))
  refine EvCall.plain Try.call82 (.v (.int .i64 (sgI (X - Y)))) rfl (fun ρ W hp => by
    have := lessN X Y W (by omega) (by omega)
    rw [← nS_den ρ (dgN 8 X), ← nS_den ρ (dgN 8 Y)] at this
    exact this) ?_
  ((conv=>whnf);repeat(refine And.intro (by omega) ?_;(conv=>whnf)))
  refine EvIf.split (fun g5 => ?_) (fun g5 => ?_)
  · have g6 : X < Y := by have := of_decide_eq_true g5; omega
    have hs : (if decide (b.n < 0) = true then -(Y - X) else Y - X) = P + Q := by
      by_cases h1 : a.n < 0 <;> by_cases h2 : b.n < 0 <;> simp [h1, h2] at g4 ⊢ <;> omega
    have hl := lowestI (decide (b.n < 0)) (Y - X) Z
    rw [hs] at hl
    generalize redF (P + Q) Z = r at *
    ((conv=>whnf);repeat(refine And.intro (by omega) ?_;(conv=>whnf)))
    (refine EvDraw.one (.q 0 (.q 1 (.q 2 (.q 3 (.q 4 (.q 6 (.n 5 false (.n 7 true (.q 8 (.q 9 (.n 10 true (.q 11 (.z)) (.e)))) (.e)) (.e)))))))) (by kernel_rfl) ?_)
    ((conv=>whnf);repeat(refine And.intro (by omega) ?_;(conv=>whnf)))
    refine EvCall.plain Try.call83 (.a (nS (dgN 8 (Y - X)))) rfl (fun ρ W hp => by
      have := minusN Y X W (by omega) (by omega) (by omega)
      rw [← nS_den ρ (dgN 8 X), ← nS_den ρ (dgN 8 Y), ← nS_den ρ (dgN 8 (Y - X))] at this
      exact this) ?_
    ((conv=>whnf);repeat(refine And.intro (by omega) ?_;(conv=>whnf)))
    refine EvCall.plain Try.call80 (feS r) rfl (fun ρ W hp => by
      have := hl W (by omega) (by omega)
      rw [← feS_den ρ r, ← nS_den ρ (dgN 8 (Y - X)), ← nS_den ρ (dgN 8 Z)] at this
      exact this) ?_
    ((conv=>whnf);repeat(refine And.intro (by omega) ?_;(conv=>whnf)))
    exact EvRet.ret (fun _ => feS_den _ _)
  · have g6 : ¬ X < Y := by have := of_decide_eq_false g5; omega
    have hs : (if decide (a.n < 0) = true then -(X - Y) else X - Y) = P + Q := by
      by_cases h1 : a.n < 0 <;> by_cases h2 : b.n < 0 <;> simp [h1, h2] at g4 ⊢ <;> omega
    have hl := lowestI (decide (a.n < 0)) (X - Y) Z
    rw [hs] at hl
    generalize redF (P + Q) Z = r at *
    ((conv=>whnf);repeat(refine And.intro (by omega) ?_;(conv=>whnf)))
    (refine EvDraw.one (.q 0 (.q 1 (.q 2 (.q 3 (.q 4 (.q 6 (.n 5 false (.n 7 true (.q 8 (.q 9 (.n 10 true (.q 11 (.z)) (.e)))) (.e)) (.e)))))))) (by kernel_rfl) ?_)
    ((conv=>whnf);repeat(refine And.intro (by omega) ?_;(conv=>whnf)))
    refine EvCall.plain Try.call83 (.a (nS (dgN 8 (X - Y)))) rfl (fun ρ W hp => by
      have := minusN X Y W (by omega) (by omega) (by omega)
      rw [← nS_den ρ (dgN 8 X), ← nS_den ρ (dgN 8 Y), ← nS_den ρ (dgN 8 (X - Y))] at this
      exact this) ?_
    ((conv=>whnf);repeat(refine And.intro (by omega) ?_;(conv=>whnf)))
    refine EvCall.plain Try.call80 (feS r) rfl (fun ρ W hp => by
      have := hl W (by omega) (by omega)
      rw [← feS_den ρ r, ← nS_den ρ (dgN 8 (X - Y)), ← nS_den ρ (dgN 8 Z)] at this
      exact this) ?_
    ((conv=>whnf);repeat(refine And.intro (by omega) ?_;(conv=>whnf)))
    exact EvRet.ret (fun _ => feS_den _ _)
set_option maxRecDepth 10000 in
theorem mulR_s (a b : Fq) (w : World) (ra : inF a) (rb : inF b) : Con Try.prog 56 #[fV a, fV b] w (Ret w (feV (mulF a b))) := by
  by_cases hsh : vF a ∧ vF b ∧ shF a ∧ shF b
  · obtain ⟨ha, hb, sa, sb⟩ := hsh
    have := mul3_s a b w ha hb sa sb
    have ad := ha.1.1
    have bd := hb.1.1
    have m1 := mul_in (x := a.n) (y := b.n) sa.1 sb.1
    have m3 := mul_in (x := a.d) (y := b.d) (by have := sa.2; omega) (by have := sb.2; omega)
    rw [newF_redF (Int.mul_pos ha.pos hb.pos) (by omega) (by omega), ← mulF_eq ha hb] at this
    exact this
  refine enter tabOk mixed Try.func56 rfl Try.ntmps56 Try.results56 [.a (fS a), .a (fS b)] (fun _ => none) [] 0 rfl rfl (hp0 _ _ _) ?_
  ((conv=>whnf);repeat(refine And.intro (by omega) ?_;(conv=>whnf)))
  refine EvCall.plain Try.call26 (.v (.bool (vB a))) rfl (fun ρ W hp => valid3_s a W ra) ?_
  ((conv=>whnf);repeat(refine And.intro (by omega) ?_;(conv=>whnf)))
  refine EvCall.plain Try.call26 (.v (.bool (vB b))) rfl (fun ρ W hp => valid3_s b W rb) ?_
  ((conv=>whnf);repeat(refine And.intro (by omega) ?_;(conv=>whnf)))
  refine EvIf.split (fun g1 => ?_) (fun g1 => ?_)
  · have g2 : (vB a && vB b) = false := by cases h1 : vB a <;> cases h2 : vB b <;> simp_all
    ((conv=>whnf);repeat(refine And.intro (by omega) ?_;(conv=>whnf)))
    exact EvRet.ret (fun _ => by unfold mulF; rw [g2]; rfl)
  have g2 : vF a ∧ vF b := by
    rw [← vB_iff, ← vB_iff]
    cases h1 : vB a <;> cases h2 : vB b <;> simp_all
  obtain ⟨ha, hb⟩ := g2
  rw [mulF_eq ha hb]
  have ad := ha.1
  have bd := hb.1
  have an := ha.2.1
  have bn := hb.2.1
  ((conv=>whnf);repeat(refine And.intro (by omega) ?_;(conv=>whnf)))
  refine EvCall.plain Try.call76 (.v (.bool (shB a))) rfl (fun ρ W hp => short_b a W ra) ?_
  ((conv=>whnf);repeat(refine And.intro (by omega) ?_;(conv=>whnf)))
  refine EvCall.plain Try.call76 (.v (.bool (shB b))) rfl (fun ρ W hp => short_b b W rb) ?_
  ((conv=>whnf);repeat(refine And.intro (by omega) ?_;(conv=>whnf)))
  refine EvIf.neg ?_ ?_
  · cases h1 : shB a <;> cases h2 : shB b <;> first | rfl | exact absurd ⟨ha, hb, (shB_iff a).1 h1, (shB_iff b).1 h2⟩ hsh
  have p1 := prod_small (x := (a.n.natAbs : Int)) (y := (b.n.natAbs : Int)) (by omega) (by omega)
  have p3 := prod_small (x := a.d) (y := b.d) (by omega) (by omega)
  have pz := Int.mul_pos ha.pos hb.pos
  have hX : (a.n.natAbs : Int) * (b.n.natAbs : Int) = ((a.n * b.n).natAbs : Int) := by rw [← Int.natCast_mul, Int.natAbs_mul]
  have hng : (if (!(decide (a.n < 0) == decide (b.n < 0))) = true then -((a.n.natAbs : Int) * (b.n.natAbs : Int)) else (a.n.natAbs : Int) * (b.n.natAbs : Int)) = a.n * b.n := by
    rw [hX]
    by_cases h0 : a.n * b.n = 0
    · rw [h0]; simp
    · have := mul_neg_iff h0
      cases h1 : (!(decide (a.n < 0) == decide (b.n < 0))) with
      | true =>
        have h2 : decide (a.n * b.n < 0) = true := by rw [this, ← h1]; rfl
        have := of_decide_eq_true h2
        rw [if_pos rfl]; omega
      | false =>
        have h2 : decide (a.n * b.n < 0) = false := by rw [this, ← h1]; rfl
        have := of_decide_eq_false h2
        rw [if_neg (by decide)]; omega
  have t1 := timesN (a.n.natAbs : Int) (b.n.natAbs : Int)
  have t3 := timesN a.d b.d
  generalize (a.n.natAbs : Int) * (b.n.natAbs : Int) = X at *
  generalize a.d * b.d = Z at *
  have wa : IntKind.u64.wrap a.d = a.d := u64_in _ (by omega)
  have wb : IntKind.u64.wrap b.d = b.d := u64_in _ (by omega)
  have hl := lowestI (!(decide (a.n < 0) == decide (b.n < 0))) X Z
  rw [hng] at hl
  generalize redF (a.n * b.n) Z = r at *
  ((conv=>whnf);repeat(refine And.intro (by omega) ?_;(conv=>whnf)))
  refine EvDraw.meet (.q 0 (.q 1 (.q 4 (.q 5 (.n 2 false (.n 3 false (.n 6 true (.n 7 true (.n 8 true (.n 9 false (.n 10 true (.z) (.e)) (.e)) (.n 9 false (.n 8 true (.n 10 true (.z) (.e)) (.e)) (.e))) (.n 9 false (.n 7 true (.n 8 true (.n 10 true (.z) (.e)) (.e)) (.e)) (.e))) (.n 9 false (.n 6 true (.n 7 true (.n 8 true (.n 10 true (.z) (.e)) (.e)) (.e)) (.e)) (.e))) (.n 9 false (.n 3 false (.n 6 true (.n 7 true (.n 8 true (.n 10 true (.z) (.e)) (.e)) (.e)) (.e)) (.e)) (.e))) (.n 9 false (.n 2 false (.n 3 false (.n 6 true (.n 7 true (.n 8 true (.n 10 true (.z) (.e)) (.e)) (.e)) (.e)) (.e)) (.e)) (.e))))))) (by kernel_rfl) (α := Unit) (fun _ => True) (fun _ => [(2, [], .p 0 0), (3, [], .p 1 0), (4, [], .p 2 0), (5, [], .v (.int .i64 (0))), (8, [], .p 3 0)])
    (fun _ => [⟨0, true, 25, 2, 1, .cs (fS a)⟩, ⟨1, true, 25, 2, 1, .cs (fS b)⟩, ⟨2, true, 25, 2, 1, .cs (fS fr0)⟩, ⟨3, true, 83, 8, 1, .cs (nS (dgN 8 X))⟩]) 4 ?_ ?_
  · ((conv=>whnf);repeat(refine And.intro (by omega) ?_;(conv=>whnf)))
    refine And.intro ?_ ?_
    · ((conv=>whnf);repeat(refine And.intro (by omega) ?_;(conv=>whnf)))
      refine EvCall.plain Try.call79 (.v (.int .u64 ((a.n.natAbs : Nat) : Int))) rfl (fun ρ W hp => size_s a.n W ra.1) ?_
      ((conv=>whnf);repeat(refine And.intro (by omega) ?_;(conv=>whnf)))
      refine And.intro ?_ ?_
      · ((conv=>whnf);repeat(refine And.intro (by omega) ?_;(conv=>whnf)))
        refine EvCall.plain Try.call78 (.a (nS (dgN 8 (a.n.natAbs : Int)))) rfl (fun ρ W hp => by rw [nS_den]; exact from_s _ W (by omega)) ?_
        ((conv=>whnf);repeat(refine And.intro (by omega) ?_;(conv=>whnf)))
        refine And.intro ?_ ?_
        · ((conv=>whnf);repeat(refine And.intro (by omega) ?_;(conv=>whnf)))
          refine EvCall.plain Try.call79 (.v (.int .u64 ((b.n.natAbs : Nat) : Int))) rfl (fun ρ W hp => size_s b.n W rb.1) ?_
          ((conv=>whnf);repeat(refine And.intro (by omega) ?_;(conv=>whnf)))
          refine And.intro ?_ ?_
          · ((conv=>whnf);repeat(refine And.intro (by omega) ?_;(conv=>whnf)))
            refine EvCall.plain Try.call78 (.a (nS (dgN 8 (b.n.natAbs : Int)))) rfl (fun ρ W hp => by rw [nS_den]; exact from_s _ W (by omega)) ?_
            ((conv=>whnf);repeat(refine And.intro (by omega) ?_;(conv=>whnf)))
            refine And.intro ?_ ?_
            · ((conv=>whnf);repeat(refine And.intro (by omega) ?_;(conv=>whnf)))
              refine EvCall.plain Try.call77 (.a (nS (dgN 8 X))) rfl (fun ρ W hp => by simp only [denL, nS_den]; exact t1 W (by omega) (by omega)) ?_
              ((conv=>whnf);repeat(refine And.intro (by omega) ?_;(conv=>whnf)))
              refine Exists.intro () (And.intro trivial (Sub.of [] [] rfl ?_))
              ((repeat' (refine And.intro ?_ ?_)) <;> first | rfl | exact True.intro | omega)
            ((conv=>whnf);repeat(refine And.intro (by omega) ?_;(conv=>whnf)))
            refine EvCall.plain Try.call77 (.a (nS (dgN 8 X))) rfl (fun ρ W hp => by simp only [denL, nS_den]; exact t1 W (by omega) (by omega)) ?_
            ((conv=>whnf);repeat(refine And.intro (by omega) ?_;(conv=>whnf)))
            refine Exists.intro () (And.intro trivial (Sub.of [] [] rfl ?_))
            ((repeat' (refine And.intro ?_ ?_)) <;> first | rfl | exact True.intro | omega)
          ((conv=>whnf);repeat(refine And.intro (by omega) ?_;(conv=>whnf)))
          refine EvCall.plain Try.call78 (.a (nS (dgN 8 (b.n.natAbs : Int)))) rfl (fun ρ W hp => by rw [nS_den]; exact from_s _ W (by omega)) ?_
          ((conv=>whnf);repeat(refine And.intro (by omega) ?_;(conv=>whnf)))
          refine EvCall.plain Try.call77 (.a (nS (dgN 8 X))) rfl (fun ρ W hp => by simp only [denL, nS_den]; exact t1 W (by omega) (by omega)) ?_
          ((conv=>whnf);repeat(refine And.intro (by omega) ?_;(conv=>whnf)))
          refine Exists.intro () (And.intro trivial (Sub.of [] [] rfl ?_))
          ((repeat' (refine And.intro ?_ ?_)) <;> first | rfl | exact True.intro | omega)
        ((conv=>whnf);repeat(refine And.intro (by omega) ?_;(conv=>whnf)))
        refine EvCall.plain Try.call79 (.v (.int .u64 ((b.n.natAbs : Nat) : Int))) rfl (fun ρ W hp => size_s b.n W rb.1) ?_
        ((conv=>whnf);repeat(refine And.intro (by omega) ?_;(conv=>whnf)))
        refine EvCall.plain Try.call78 (.a (nS (dgN 8 (b.n.natAbs : Int)))) rfl (fun ρ W hp => by rw [nS_den]; exact from_s _ W (by omega)) ?_
        ((conv=>whnf);repeat(refine And.intro (by omega) ?_;(conv=>whnf)))
        refine EvCall.plain Try.call77 (.a (nS (dgN 8 X))) rfl (fun ρ W hp => by simp only [denL, nS_den]; exact t1 W (by omega) (by omega)) ?_
        ((conv=>whnf);repeat(refine And.intro (by omega) ?_;(conv=>whnf)))
        refine Exists.intro () (And.intro trivial (Sub.of [] [] rfl ?_))
        ((repeat' (refine And.intro ?_ ?_)) <;> first | rfl | exact True.intro | omega)
      ((conv=>whnf);repeat(refine And.intro (by omega) ?_;(conv=>whnf)))
      refine EvCall.plain Try.call78 (.a (nS (dgN 8 (a.n.natAbs : Int)))) rfl (fun ρ W hp => by rw [nS_den]; exact from_s _ W (by omega)) ?_
      ((conv=>whnf);repeat(refine And.intro (by omega) ?_;(conv=>whnf)))
      refine EvCall.plain Try.call79 (.v (.int .u64 ((b.n.natAbs : Nat) : Int))) rfl (fun ρ W hp => size_s b.n W rb.1) ?_
      ((conv=>whnf);repeat(refine And.intro (by omega) ?_;(conv=>whnf)))
      refine EvCall.plain Try.call78 (.a (nS (dgN 8 (b.n.natAbs : Int)))) rfl (fun ρ W hp => by rw [nS_den]; exact from_s _ W (by omega)) ?_
      ((conv=>whnf);repeat(refine And.intro (by omega) ?_;(conv=>whnf)))
      refine EvCall.plain Try.call77 (.a (nS (dgN 8 X))) rfl (fun ρ W hp => by simp only [denL, nS_den]; exact t1 W (by omega) (by omega)) ?_
      ((conv=>whnf);repeat(refine And.intro (by omega) ?_;(conv=>whnf)))
      refine Exists.intro () (And.intro trivial (Sub.of [] [] rfl ?_))
      ((repeat' (refine And.intro ?_ ?_)) <;> first | rfl | exact True.intro | omega)
    ((conv=>whnf);repeat(refine And.intro (by omega) ?_;(conv=>whnf)))
    refine EvCall.plain Try.call79 (.v (.int .u64 ((a.n.natAbs : Nat) : Int))) rfl (fun ρ W hp => size_s a.n W ra.1) ?_
    ((conv=>whnf);repeat(refine And.intro (by omega) ?_;(conv=>whnf)))
    refine EvCall.plain Try.call78 (.a (nS (dgN 8 (a.n.natAbs : Int)))) rfl (fun ρ W hp => by rw [nS_den]; exact from_s _ W (by omega)) ?_
    ((conv=>whnf);repeat(refine And.intro (by omega) ?_;(conv=>whnf)))
    refine EvCall.plain Try.call79 (.v (.int .u64 ((b.n.natAbs : Nat) : Int))) rfl (fun ρ W hp => size_s b.n W rb.1) ?_
    ((conv=>whnf);repeat(refine And.intro (by omega) ?_;(conv=>whnf)))
    refine EvCall.plain Try.call78 (.a (nS (dgN 8 (b.n.natAbs : Int)))) rfl (fun ρ W hp => by rw [nS_den]; exact from_s _ W (by omega)) ?_
    ((conv=>whnf);repeat(refine And.intro (by omega) ?_;(conv=>whnf)))
    refine EvCall.plain Try.call77 (.a (nS (dgN 8 X))) rfl (fun ρ W hp => by simp only [denL, nS_den]; exact t1 W (by omega) (by omega)) ?_
    ((conv=>whnf);repeat(refine And.intro (by omega) ?_;(conv=>whnf)))
    refine Exists.intro () (And.intro trivial (Sub.of [] [] rfl ?_))
    ((repeat' (refine And.intro ?_ ?_)) <;> first | rfl | exact True.intro | omega)
  intro _ _
  ((conv=>whnf);repeat(refine And.intro (by omega) ?_;(conv=>whnf)))
  (refine EvDraw.one (.q 0 (.q 1 (.q 2 (.q 3 (.q 4 (.q 5 (.q 6 (.q 7 (.q 8 (.q 9 (.q 10 (.q 12 (.q 13 (.q 14 (.n 11 false (.n 15 false (.n 16 false (.n 17 true (.q 18 (.q 19 (.n 20 true (.q 21 (.z)) (.e)))) (.e)) (.e)) (.e)) (.e)))))))))))))))) (by kernel_rfl) ?_)
  ((conv=>whnf);repeat(refine And.intro (by omega) ?_;(conv=>whnf)))
  refine EvCall.plain Try.call78 (.a (nS (dgN 8 a.d))) rfl (fun ρ W hp => by rw [nS_den]; simp only [denL, den, wa]; exact from_s _ W (by omega)) ?_
  ((conv=>whnf);repeat(refine And.intro (by omega) ?_;(conv=>whnf)))
  refine EvCall.plain Try.call78 (.a (nS (dgN 8 b.d))) rfl (fun ρ W hp => by rw [nS_den]; simp only [denL, den, wb]; exact from_s _ W (by omega)) ?_
  ((conv=>whnf);repeat(refine And.intro (by omega) ?_;(conv=>whnf)))
  refine EvCall.plain Try.call77 (.a (nS (dgN 8 Z))) rfl (fun ρ W hp => by simp only [denL, nS_den]; exact t3 W (by omega) (by omega)) ?_
  ((conv=>whnf);repeat(refine And.intro (by omega) ?_;(conv=>whnf)))
  refine EvCall.plain Try.call80 (feS r) rfl (fun ρ W hp => by
    have := hl W (by omega) (by omega)
    rw [← feS_den ρ r, ← nS_den ρ (dgN 8 X), ← nS_den ρ (dgN 8 Z)] at this
    exact this) ?_
  ((conv=>whnf);repeat(refine And.intro (by omega) ?_;(conv=>whnf)))
  exact EvRet.ret (fun _ => feS_den _ _)
end Go.Proofs.Ythknflclfmnciaa
