
/- Sums and differences of fractions, walked. -/
import Derived.Test.YthknflclfmnciaaWb
import Derived.Test.YthknflclfmnciaaQl
import Derived.Test.YthknflclfmnciaaWj
namespace Go.Proofs.Ythknflclfmnciaa
open Go.RowKit
set_option linter.unusedVariables false
set_option linter.unusedSimpArgs false

set_option maxRecDepth 10000 in
theorem rem64_s (hi lo y : Nat) (w : World) (hh : hi < 18446744073709551616) (hl : lo < 18446744073709551616) (hy : 0 < y ∧ y < 18446744073709551616) : Con Try.prog 105 #[.int .u64 (hi : Int), .int .u64 (lo : Int), .int .u64 (y : Int)] w (Ret w (.int .u64 (((hi * 18446744073709551616 + lo) % y : Nat) : Int))) := by
  have hm := Nat.mod_lt hi hy.1
  have e : (hi * 18446744073709551616 + lo) % y = (hi % y * 18446744073709551616 + lo) % y := by
    have h5 := Nat.div_add_mod hi y
    have e3 : hi * 18446744073709551616 + lo = (hi % y * 18446744073709551616 + lo) + y * (hi / y * 18446744073709551616) := by
      rw [← Nat.mul_assoc]
      generalize y * (hi / y) = m at *
      generalize hi % y = r at *
      omega
    rw [e3, Nat.add_mul_mod_self_left]
  rw [e]
  have ht : (hi : Int).tmod (y : Int) = ((hi % y : Nat) : Int) := rfl
  refine enter tabOk mixed Try.func105 rfl Try.ntmps105 Try.results105 [.v (.int .u64 (hi : Int)), .v (.int .u64 (lo : Int)), .v (.int .u64 (y : Int))] (fun _ => none) [] 0 rfl rfl (hp0 _ _ _) ?_
  ((conv=>whnf);repeat(refine And.intro (by omega) ?_;(conv=>whnf)))
  rw [ht]
  refine EvCall.plain Try.call107 (.t [.v (.int .u64 (((hi % y * 18446744073709551616 + lo) / y : Nat) : Int)), .v (.int .u64 (((hi % y * 18446744073709551616 + lo) % y : Nat) : Int))]) rfl (fun ρ W hp => div64_s (hi % y) lo y W hm hl hy.2) ?_
  ((conv=>whnf);repeat(refine And.intro (by omega) ?_;(conv=>whnf)))
  exact ret_u rfl
/-- A number of two words divided. -/
theorem wd_div {z p : Int} {h : Nat} (hh : 0 < h) (hz : z = h * p) : whi p = whi z / h ∧ wlo p = (whi z % h * 18446744073709551616 + wlo z) / h ∧ whi z % h < h ∧ decide (z < 0) = decide (p < 0) := by
  have e : z.natAbs = h * p.natAbs := by rw [hz, Int.natAbs_mul]; rfl
  have h1 := wd_split z
  have h2 := wd_split p
  have h3 := wlo_lt z
  have h4 := wlo_lt p
  have h5 := Nat.div_add_mod (whi z) h
  have h6 := Nat.mod_lt (whi z) hh
  have e2 : p.natAbs = whi z / h * 18446744073709551616 + (whi z % h * 18446744073709551616 + wlo z) / h := by
    have : z.natAbs / h = p.natAbs := by rw [e, Nat.mul_div_cancel_left _ hh]
    rw [← this, h1]
    have e3 : whi z * 18446744073709551616 + wlo z = (whi z % h * 18446744073709551616 + wlo z) + h * (whi z / h * 18446744073709551616) := by
      rw [← Nat.mul_assoc]
      generalize h * (whi z / h) = m at *
      generalize whi z % h = r at *
      omega
    rw [e3, Nat.add_mul_div_left _ _ hh, Nat.add_comm]
  have h7 : (whi z % h * 18446744073709551616 + wlo z) / h < 18446744073709551616 := by
    refine (Nat.div_lt_iff_lt_mul hh).2 ?_
    generalize whi z % h = r at *
    omega
  have e4 : whi p = whi z / h ∧ wlo p = (whi z % h * 18446744073709551616 + wlo z) / h := by
    generalize (whi z % h * 18446744073709551616 + wlo z) / h = X at *
    generalize whi z / h = Y at *
    clear h5 h6 e hz
    omega
  refine ⟨e4.1, e4.2, h6, ?_⟩
  apply decide_eq_decide.2
  rw [hz]
  constructor
  · intro h9
    rcases Int.lt_or_le p 0 with h8 | h8
    · exact h8
    · have := Int.mul_nonneg (show (0 : Int) ≤ (h : Int) by omega) h8
      omega
  · intro h8
    exact Int.mul_neg_of_pos_of_neg (by omega) h8
set_option maxRecDepth 10000 in
theorem add_s (a b : Fq) (w : World) : Con Try.prog 91 #[fV a, fV b] w (Ret w (feV (addF a b))) := by
  refine enter tabOk mixed Try.func91 rfl Try.ntmps91 Try.results91 [.a (fS a), .a (fS b)] (fun _ => none) [] 0 rfl rfl (hp0 _ _ _) ?_
  ((conv=>whnf);repeat(refine And.intro (by omega) ?_;(conv=>whnf)))
  refine EvCall.plain Try.call59 (.v (.bool (vB a))) rfl (fun ρ W hp => valid_s a W) ?_
  ((conv=>whnf);repeat(refine And.intro (by omega) ?_;(conv=>whnf)))
  refine EvCallC.plain Try.call59 (.v (.bool (vB b))) rfl (fun _ ρ W hp => valid_s b W) ?_
  ((conv=>whnf);repeat(refine And.intro (by omega) ?_;(conv=>whnf)))
  refine EvIf.split (fun g1 => ?_) (fun g1 => ?_)
  · have g2 : (vB a && vB b) = false := by cases h1 : vB a <;> cases h2 : vB b <;> simp_all
    ((conv=>whnf);repeat(refine And.intro (by omega) ?_;(conv=>whnf)))
    exact EvRet.ret (fun _ => by unfold addF; rw [g2]; rfl)
  have g2 : vF a ∧ vF b := by
    rw [← vB_iff, ← vB_iff]
    cases h1 : vB a <;> cases h2 : vB b <;> simp_all
  obtain ⟨ha, hb⟩ := g2
  obtain ⟨g, a1, b1, S, h, p, e, hg, pg, ea, eb, ra, rb, pa, pb, eS, hh, ph, hdv, rS, re, pe, hc, rN, rD⟩ := add_parts ha hb
  have hF : addF a b = limF p (a1 * e) := by
    unfold addF
    rw [(vB_iff a).2 ha, (vB_iff b).2 hb]
    exact redF_of (c := g * h) (Nat.mul_pos pg ph) (Int.mul_pos pa pe) rN rD hc
  unfold vF at ha hb
  have ka := quo_le (x := a.d) (g := g) (by omega)
  have kb := quo_le (x := b.d) (g := g) (by omega)
  rw [← ea] at ka
  rw [← eb] at kb
  have hgl : g ≤ 4611686018427387904 := by rw [hg]; exact Nat.le_trans (Nat.gcd_le_right _ (by omega)) (by omega)
  have hhl : h ≤ 4611686018427387904 := Nat.le_trans (Nat.le_of_dvd pg hdv) hgl
  ((conv=>whnf);repeat(refine And.intro (by omega) ?_;(conv=>whnf)))
  refine EvCall.plain Try.call85 (.v (.int .i64 (g : Int))) rfl (fun ρ W hp => by
    have := gcd_s a.d.natAbs b.d.natAbs W (by omega) (by omega)
    rw [show ((b.d.natAbs : Nat) : Int) = b.d by omega, show ((a.d.natAbs : Nat) : Int) = a.d by omega, ← hg] at this
    exact this) ?_
  ((conv=>whnf);repeat(refine And.intro (by omega) ?_;(conv=>whnf)))
  have hP := sum_s a.n b1 b.n a1
  rw [← eS] at hP
  rw [ea, eb] at hP
  refine EvDraw.meet (.q 0 (.q 1 (.q 2 (.q 3 (.q 4 (.q 5 (.q 6 (.q 7 (.q 8 (.q 9 (.q 10 (.q 11 (.n 12 true (.n 13 false (.n 14 true (.z) (.e)) (.e)) (.n 13 false (.n 12 true (.n 14 true (.z) (.e)) (.e)) (.e))))))))))))))) (by kernel_rfl) (α := Unit) (fun _ => True) (fun _ => [(2, [], .p 0 0), (3, [], .p 1 0), (4, [], .p 2 0), (5, [], .v (.int .i64 (0))), (6, [], .v (.int .i64 ((g : Int)))), (7, [], .p 3 0)])
    (fun _ => [⟨0, true, 25, 2, 1, .cs (fS a)⟩, ⟨1, true, 25, 2, 1, .cs (fS b)⟩, ⟨2, true, 25, 2, 1, .cs (fS fr0)⟩, ⟨3, true, 71, 3, 1, .cs (wS S)⟩]) 4 ?_ ?_
  · ((conv=>whnf);repeat(refine And.intro (by omega) ?_;(conv=>whnf)))
    refine And.intro ?_ ?_
    · ((conv=>whnf);repeat(refine And.intro (by omega) ?_;(conv=>whnf)))
      refine EvCall.plain Try.call60 (.a (wS S)) rfl (fun ρ W hp => by rw [wS_den]; exact hP W (by omega) (by rw [← eb]; omega) (by omega) (by rw [← ea]; omega)) ?_
      ((conv=>whnf);repeat(refine And.intro (by omega) ?_;(conv=>whnf)))
      refine Exists.intro () (And.intro trivial (Sub.of [] [] rfl ?_))
      ((repeat' (refine And.intro ?_ ?_)) <;> first | rfl | exact True.intro | omega)
    ((conv=>whnf);repeat(refine And.intro (by omega) ?_;(conv=>whnf)))
    refine EvCall.plain Try.call60 (.a (wS S)) rfl (fun ρ W hp => by rw [wS_den]; exact hP W (by omega) (by rw [← eb]; omega) (by omega) (by rw [← ea]; omega)) ?_
    ((conv=>whnf);repeat(refine And.intro (by omega) ?_;(conv=>whnf)))
    refine Exists.intro () (And.intro trivial (Sub.of [] [] rfl ?_))
    ((repeat' (refine And.intro ?_ ?_)) <;> first | rfl | exact True.intro | omega)
  intro _ _
  have bS : S.natAbs ≤ 42535295865117307932921825928971026432 := by
    have m1 : (a.n * b1).natAbs ≤ 21267647932558653966460912964485513216 := by
      rw [Int.natAbs_mul]
      exact Nat.mul_le_mul (show a.n.natAbs ≤ 4611686018427387904 by omega) (show b1.natAbs ≤ 4611686018427387904 by omega)
    have m2 : (b.n * a1).natAbs ≤ 21267647932558653966460912964485513216 := by
      rw [Int.natAbs_mul]
      exact Nat.mul_le_mul (show b.n.natAbs ≤ 4611686018427387904 by omega) (show a1.natAbs ≤ 4611686018427387904 by omega)
    rw [eS]
    generalize a.n * b1 = X at *
    generalize b.n * a1 = Y at *
    omega
  have hz := wd_zero S
  have s1 := wd_split S
  have s2 := wlo_lt S
  have s3 : whi S < 18446744073709551616 := by omega
  obtain ⟨d1, d2, d3, d4⟩ := wd_div ph rS
  have hpS : p = 0 ↔ S = 0 := by
    rw [rS]
    constructor
    · rintro rfl; simp
    · intro h0
      rcases Int.mul_eq_zero.1 h0 with h0 | h0
      · omega
      · exact h0
  clear hP rN rD
  have wg := u64_in (g : Int) (by omega)
  have hgr : Nat.gcd (S.natAbs % g) g = h := by rw [hh, ← Nat.gcd_rec, Nat.gcd_comm]
  have el : a1 = ((a1.toNat : Nat) : Int) := by omega
  have ee : e = ((e.toNat : Nat) : Int) := by omega
  have e3 : IntKind.u64.wrap a1 = a1 := u64_in _ (by omega)
  have e4 : IntKind.u64.wrap b.d = b.d := u64_in _ (by omega)
  have e5 : b.d.tdiv (h : Int) = e := by rw [re]; exact Int.mul_tdiv_cancel_left _ (by omega)
  have hel : e ≤ 4611686018427387904 := by
    have := Int.mul_le_mul_of_nonneg_right (a := 1) (b := (h : Int)) (c := e) (by omega) (by omega)
    omega
  have e6 : IntKind.u64.wrap e = e := u64_in _ (by omega)
  ((conv=>whnf);repeat(refine And.intro (by omega) ?_;(conv=>whnf)))
  refine EvIf.split (fun g5 => ?_) (fun g5 => ?_)
  · have g6 : S = 0 := hz.2 (by
      simp only [Bool.and_eq_true, decide_eq_true_eq, beq_iff_eq] at g5
      omega)
    have g7 := hpS.2 g6
    subst g7
    have g8 : a1 * e = 1 := by
      have := Int.mul_pos pa pe
      simp at hc
      omega
    rw [hF, g8]
    ((conv=>whnf);repeat(refine And.intro (by omega) ?_;(conv=>whnf)))
    exact EvRet.ret (fun _ => rfl)
  have g6 : S ≠ 0 := by
    intro h0
    rw [h0] at g5
    simp [whi, wlo] at g5
  ((conv=>whnf);repeat(refine And.intro (by omega) ?_;(conv=>whnf)))
  rw [wg]
  refine EvCall.plain Try.call105 (.v (.int .u64 ((S.natAbs % g : Nat) : Int))) rfl (fun ρ W hp => by
    have := rem64_s (whi S) (wlo S) g W s3 s2 (by omega)
    rw [← s1] at this
    exact this) ?_
  ((conv=>whnf);repeat(refine And.intro (by omega) ?_;(conv=>whnf)))
  refine EvCall.plain Try.call106 (.v (.int .u64 (h : Int))) rfl (fun ρ W hp => by
    have hml := Nat.mod_lt S.natAbs pg
    have := gcdU_s (S.natAbs % g) g W (by omega) (by omega)
    rw [hgr] at this
    exact this) ?_
  ((conv=>whnf);repeat(refine And.intro (by omega) ?_;(conv=>whnf)))
  rw [quo_u (whi S) h s3, ← d1]
  have htm : (whi S : Int).tmod (h : Int) = ((whi S % h : Nat) : Int) := rfl
  refine EvDraw.meet (.q 0 (.q 1 (.q 2 (.q 3 (.q 4 (.q 5 (.q 6 (.n 7 true (.q 8 (.q 9 (.q 10 (.q 11 (.q 12 (.z)))))) (.e))))))))) (by kernel_rfl) (α := Unit) (fun _ => True) (fun _ => [(2, [], .p 0 0), (3, [], .p 1 0), (4, [], .p 2 0), (5, [], .v (.int .i64 (0))), (6, [], .v (.int .i64 ((g : Int)))), (7, [], .p 3 0), (10, [], .v (.int .u64 (h : Int))), (11, [], .v (.int .u64 (whi p : Int))), (12, [], .v (.int .u64 (wlo p : Int)))])
    (fun _ => [⟨0, true, 25, 2, 1, .cs (fS a)⟩, ⟨1, true, 25, 2, 1, .cs (fS b)⟩, ⟨2, true, 25, 2, 1, .cs (fS fr0)⟩, ⟨3, true, 71, 3, 1, .cs (wS S)⟩]) 4 ?_ ?_
  · ((conv=>whnf);repeat(refine And.intro (by omega) ?_;(conv=>whnf)))
    refine EvCall.plain Try.call107 (.t [.v (.int .u64 (wlo p : Int)), .v (.int .u64 (((whi S % h * 18446744073709551616 + wlo S) % h : Nat) : Int))]) rfl (fun ρ W hp => by
      have := div64_s (whi S % h) (wlo S) h W d3 s2 (by omega)
      rw [← d2] at this
      exact this) ?_
    ((conv=>whnf);repeat(refine And.intro (by omega) ?_;(conv=>whnf)))
    refine Exists.intro () (And.intro trivial (Sub.of [] [] rfl ?_))
    ((repeat' (refine And.intro ?_ ?_)) <;> first | rfl | exact True.intro | omega)
  intro _ _
  have hab : a1.toNat * e.toNat = (a1 * e).natAbs := by
    rw [Int.natAbs_mul, show a1.natAbs = a1.toNat by omega, show e.natAbs = e.toNat by omega]
  ((conv=>whnf);repeat(refine And.intro (by omega) ?_;(conv=>whnf)))
  refine EvDraw.meet (.q 0 (.q 1 (.q 2 (.q 3 (.q 4 (.q 5 (.q 6 (.q 7 (.q 8 (.q 9 (.n 10 true (.q 11 (.q 12 (.q 13 (.q 14 (.q 15 (.z)))))) (.e)))))))))))) (by kernel_rfl) (α := Unit) (fun _ => True) (fun _ => [(2, [], .p 0 0), (3, [], .p 1 0), (4, [], .p 2 0), (5, [], .v (.int .i64 (0))), (6, [], .v (.int .i64 ((g : Int)))), (7, [], .p 3 0), (11, [], .v (.int .u64 (whi p : Int))), (12, [], .v (.int .u64 (wlo p : Int))), (14, [], .v (.int .u64 (whi (a1 * e) : Int))), (15, [], .v (.int .u64 (wlo (a1 * e) : Int)))])
    (fun _ => [⟨0, true, 25, 2, 1, .cs (fS a)⟩, ⟨1, true, 25, 2, 1, .cs (fS b)⟩, ⟨2, true, 25, 2, 1, .cs (fS fr0)⟩, ⟨3, true, 71, 3, 1, .cs (wS S)⟩]) 4 ?_ ?_
  · ((conv=>whnf);repeat(refine And.intro (by omega) ?_;(conv=>whnf)))
    refine EvCall.plain Try.call104 (.t [.v (.int .u64 (whi (a1 * e) : Int)), .v (.int .u64 (wlo (a1 * e) : Int))]) rfl (fun ρ W hp => by
      have := mul64_s a1.toNat e.toNat (by omega) (by omega) W
      rw [hab, ← el, ← ee] at this
      simp only [denL, den, ← ea, e3, e4, e5, e6]
      exact this) ?_
    ((conv=>whnf);repeat(refine And.intro (by omega) ?_;(conv=>whnf)))
    refine Exists.intro () (And.intro trivial (Sub.of [] [] rfl ?_))
    ((repeat' (refine And.intro ?_ ?_)) <;> first | rfl | exact True.intro | omega)
  intro _ _
  have sP := wd_small p
  have sQ := wd_small (a1 * e)
  have tP := wd_split p
  have tQ := wd_split (a1 * e)
  have uQ := Int.mul_pos pa pe
  clear hc hab d1 d2 d3
  generalize a1 * e = Q at *
  rw [hF]
  ((conv=>whnf);repeat(refine And.intro (by omega) ?_;(conv=>whnf)))
  refine EvIf.split (fun g7 => ?_) (fun g7 => ?_)
  · have g8 : 4611686018427387904 < p.natAbs ∨ 4611686018427387904 < Q.natAbs := by
      rw [← sP, ← sQ]
      simp only [Bool.or_eq_true, Bool.not_eq_true', decide_eq_true_eq, decide_eq_false_iff_not] at g7
      omega
    ((conv=>whnf);repeat(refine And.intro (by omega) ?_;(conv=>whnf)))
    exact EvRet.ret (fun _ => by unfold limF; rw [if_pos g8]; rfl)
  have g8 : ¬ (4611686018427387904 < p.natAbs ∨ 4611686018427387904 < Q.natAbs) := by
    rw [← sP, ← sQ]
    simp only [Bool.or_eq_false_iff, Bool.not_eq_false', decide_eq_true_eq, decide_eq_false_iff_not] at g7
    omega
  have hP0 : whi p = 0 ∧ wlo p = p.natAbs := by
    have := wlo_lt p
    omega
  have hQ0 : whi Q = 0 ∧ wlo Q = Q.natAbs := by
    have := wlo_lt Q
    omega
  have wP := i64_in (wlo p : Int) (by omega)
  have wQ := i64_in (wlo Q : Int) (by omega)
  have hl : limF p Q = (⟨p, Q⟩, 0) := by unfold limF; rw [if_neg g8]
  ((conv=>whnf);repeat(refine And.intro (by omega) ?_;(conv=>whnf)))
  refine EvIf.split (fun g9 => ?_) (fun g9 => ?_)
  · have g10 := of_decide_eq_true (d4 ▸ g9)
    ((conv=>whnf);repeat(refine And.intro (by omega) ?_;(conv=>whnf)))
    exact EvRet.ret (fun _ => by
      rw [hl]
      simp only [den, denL, wP, wQ, feV, fV, hP0, hQ0]
      rw [show -(p.natAbs : Int) = p by omega, show (Q.natAbs : Int) = Q by omega])
  · have g10 := of_decide_eq_false (d4 ▸ g9)
    ((conv=>whnf);repeat(refine And.intro (by omega) ?_;(conv=>whnf)))
    exact EvRet.ret (fun _ => by
      rw [hl]
      simp only [den, denL, wP, wQ, feV, fV, hP0, hQ0]
      rw [show (p.natAbs : Int) = p by omega, show (Q.natAbs : Int) = Q by omega])
set_option maxRecDepth 10000 in
theorem sub_s (a b : Fq) (w : World) : Con Try.prog 67 #[fV a, fV b] w (Ret w (feV (subF a b))) := by
  refine enter tabOk mixed Try.func67 rfl Try.ntmps67 Try.results67 [.a (fS a), .a (fS b)] (fun _ => none) [] 0 rfl rfl (hp0 _ _ _) ?_
  ((conv=>whnf);repeat(refine And.intro (by omega) ?_;(conv=>whnf)))
  refine EvCall.plain Try.call59 (.v (.bool (vB a))) rfl (fun ρ W hp => valid_s a W) ?_
  ((conv=>whnf);repeat(refine And.intro (by omega) ?_;(conv=>whnf)))
  refine EvCallC.plain Try.call59 (.v (.bool (vB b))) rfl (fun _ ρ W hp => valid_s b W) ?_
  ((conv=>whnf);repeat(refine And.intro (by omega) ?_;(conv=>whnf)))
  refine EvIf.split (fun g1 => ?_) (fun g1 => ?_)
  · have g2 : (vB a && vB b) = false := by cases h1 : vB a <;> cases h2 : vB b <;> simp_all
    ((conv=>whnf);repeat(refine And.intro (by omega) ?_;(conv=>whnf)))
    exact EvRet.ret (fun _ => by unfold subF; rw [g2]; rfl)
  have g2 : vF a ∧ vF b := by
    rw [← vB_iff, ← vB_iff]
    cases h1 : vB a <;> cases h2 : vB b <;> simp_all
  obtain ⟨ha, hb⟩ := g2
  have hn := hb.2.1
  have hr : subF a b = addF a ⟨-b.n, b.d⟩ := by
    unfold subF
    rw [(vB_iff a).2 ha, (vB_iff b).2 hb]
    rfl
  rw [hr]
  have hc := add_s a ⟨-b.n, b.d⟩
  generalize addF a ⟨-b.n, b.d⟩ = r at *
  ((conv=>whnf);repeat(refine And.intro (by omega) ?_;(conv=>whnf)))
  refine EvCall.plain Try.call91 (feS r) rfl (fun ρ W hp => by rw [feS_den]; exact hc W) ?_
  ((conv=>whnf);repeat(refine And.intro (by omega) ?_;(conv=>whnf)))
  exact EvRet.ret (fun _ => feS_den _ _)
end Go.Proofs.Ythknflclfmnciaa
