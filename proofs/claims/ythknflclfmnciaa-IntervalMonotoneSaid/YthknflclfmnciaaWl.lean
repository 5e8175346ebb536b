
/- Operations on fractions and intervals, walked: the reference's Sub, Div, Apply; interval's Add, Sub, Width; the law's do. -/
import Derived.Test.YthknflclfmnciaaWk
import Derived.Test.YthknflclfmnciaaWm
import Derived.Test.YthknflclfmnciaaQr
namespace Go.Proofs.Ythknflclfmnciaa
open Go.RowKit
set_option linter.unusedVariables false
set_option linter.unusedSimpArgs false

set_option maxRecDepth 10000 in
theorem subR_s (a b : Fq) (w : World) (ra : inF a) (rb : inF b) : Con Try.prog 45 #[fV a, fV b] w (Ret w (feV (subF a b))) := by
  refine enter tabOk mixed Try.func45 rfl Try.ntmps45 Try.results45 [.a (fS a), .a (fS b)] (fun _ => none) [] 0 rfl rfl (hp0 _ _ _) ?_
  ((conv=>whnf);repeat(refine And.intro (by omega) ?_;(conv=>whnf)))
  refine EvCall.plain Try.call26 (.v (.bool (vB b))) rfl (fun ρ W hp => valid3_s b W rb) ?_
  ((conv=>whnf);repeat(refine And.intro (by omega) ?_;(conv=>whnf)))
  refine EvIf.split (fun g1 => ?_) (fun g1 => ?_)
  · have g2 : vB b = false := by simpa using g1
    ((conv=>whnf);repeat(refine And.intro (by omega) ?_;(conv=>whnf)))
    exact EvRet.ret (fun _ => by unfold subF; rw [g2, Bool.and_false]; rfl)
  have g2 : vB b = true := by simpa using g1
  have hb := (vB_iff b).1 g2
  have hn := hb.2.1
  have hr : subF a b = addF a ⟨-b.n, b.d⟩ := by
    unfold subF
    rw [g2, Bool.and_true]
    cases h : vB a with
    | true => rfl
    | false => unfold addF; rw [h]; rfl
  rw [hr]
  have hc := fun W => addR_s a ⟨-b.n, b.d⟩ W ra hb.neg.inF
  generalize addF a ⟨-b.n, b.d⟩ = r at *
  ((conv=>whnf);repeat(refine And.intro (by omega) ?_;(conv=>whnf)))
  refine EvCall.plain Try.call57 (feS r) rfl (fun ρ W hp => by rw [feS_den]; exact hc W) ?_
  ((conv=>whnf);repeat(refine And.intro (by omega) ?_;(conv=>whnf)))
  exact EvRet.ret (fun _ => feS_den _ _)
set_option maxRecDepth 10000 in
theorem divR_s (a b : Fq) (w : World) (ra : inF a) (rb : inF b) : Con Try.prog 70 #[fV a, fV b] w (Ret w (feV (divF a b))) := by
  refine enter tabOk mixed Try.func70 rfl Try.ntmps70 Try.results70 [.a (fS a), .a (fS b)] (fun _ => none) [] 0 rfl rfl (hp0 _ _ _) ?_
  ((conv=>whnf);repeat(refine And.intro (by omega) ?_;(conv=>whnf)))
  refine EvCall.plain Try.call26 (.v (.bool (vB a))) rfl (fun ρ W hp => valid3_s a W ra) ?_
  ((conv=>whnf);repeat(refine And.intro (by omega) ?_;(conv=>whnf)))
  refine EvCall.plain Try.call26 (.v (.bool (vB b))) rfl (fun ρ W hp => valid3_s b W rb) ?_
  ((conv=>whnf);repeat(refine And.intro (by omega) ?_;(conv=>whnf)))
  refine EvIf.split (fun g1 => ?_) (fun g1 => ?_)
  · have g2 : (vB a && vB b) = false := by cases h1 : vB a <;> cases h2 : vB b <;> simp_all
    ((conv=>whnf);repeat(refine And.intro (by omega) ?_;(conv=>whnf)))
    exact EvRet.ret (fun _ => by unfold divF; rw [g2]; rfl)
  have g2 : vF a ∧ vF b := by
    rw [← vB_iff, ← vB_iff]
    cases h1 : vB a <;> cases h2 : vB b <;> simp_all
  obtain ⟨ha, hb⟩ := g2
  have hn := hb.2.1
  have hd := hb.1
  ((conv=>whnf);repeat(refine And.intro (by omega) ?_;(conv=>whnf)))
  refine EvIf.split (fun g3 => ?_) (fun g3 => ?_)
  · have g4 : b.n = 0 := by simpa using g3
    ((conv=>whnf);repeat(refine And.intro (by omega) ?_;(conv=>whnf)))
    exact EvRet.ret (fun _ => by unfold divF; rw [and_v ha hb, if_pos rfl, if_pos g4]; rfl)
  have g4 : b.n ≠ 0 := by simpa using g3
  rw [divF_eq ha hb g4]
  have hi := invF_v hb g4
  ((conv=>whnf);repeat(refine And.intro (by omega) ?_;(conv=>whnf)))
  refine EvIf.split (fun g5 => ?_) (fun g5 => ?_)
  · have e : invF b = ⟨-b.d, -b.n⟩ := by unfold invF; rw [if_pos (of_decide_eq_true g5)]
    rw [e] at hi ⊢
    have hc := fun W => mulR_s a ⟨-b.d, -b.n⟩ W ra hi.inF
    generalize mulF a ⟨-b.d, -b.n⟩ = r at *
    ((conv=>whnf);repeat(refine And.intro (by omega) ?_;(conv=>whnf)))
    refine EvCall.plain Try.call56 (feS r) rfl (fun ρ W hp => by rw [feS_den]; exact hc W) ?_
    ((conv=>whnf);repeat(refine And.intro (by omega) ?_;(conv=>whnf)))
    exact EvRet.ret (fun _ => feS_den _ _)
  · have e : invF b = ⟨b.d, b.n⟩ := by unfold invF; rw [if_neg (of_decide_eq_false g5)]
    rw [e] at hi ⊢
    have hc := fun W => mulR_s a ⟨b.d, b.n⟩ W ra hi.inF
    generalize mulF a ⟨b.d, b.n⟩ = r at *
    ((conv=>whnf);repeat(refine And.intro (by omega) ?_;(conv=>whnf)))
    refine EvCall.plain Try.call56 (feS r) rfl (fun ρ W hp => by rw [feS_den]; exact hc W) ?_
    ((conv=>whnf);repeat(refine And.intro (by omega) ?_;(conv=>whnf)))
    exact EvRet.ret (fun _ => feS_den _ _)
set_option maxRecDepth 10000 in
theorem apply_s (op : Nat) (a b : Fq) (w : World) (hop : op < 4) (ra : inF a) (rb : inF b) : Con Try.prog 50 #[.int .i64 (op : Int), fV a, fV b] w (Ret w (feV (opF op a b))) := by
  refine enter tabOk mixed Try.func50 rfl Try.ntmps50 Try.results50 [.v (.int .i64 (op : Int)), .a (fS a), .a (fS b)] (fun _ => none) [] 0 rfl rfl (hp0 _ _ _) ?_
  ((conv=>whnf);repeat(refine And.intro (by omega) ?_;(conv=>whnf)))
  match op, hop with
  | 0, _ =>
    refine EvIf.pos rfl ?_
    have hc := fun W => addR_s a b W ra rb

    simp only [opF]
    generalize addF a b = r at *
    ((conv=>whnf);repeat(refine And.intro (by omega) ?_;(conv=>whnf)))
    refine EvCall.plain Try.call57 (feS r) rfl (fun ρ W hp => by rw [feS_den]; exact hc W) ?_
    ((conv=>whnf);repeat(refine And.intro (by omega) ?_;(conv=>whnf)))
    exact EvRet.ret (fun _ => feS_den _ _)
  | 1, _ =>
    refine EvIf.neg rfl ?_
    ((conv=>whnf);repeat(refine And.intro (by omega) ?_;(conv=>whnf)))
    refine EvIf.pos rfl ?_
    have hc := fun W => subR_s a b W ra rb
    simp only [opF]
    generalize subF a b = r at *
    ((conv=>whnf);repeat(refine And.intro (by omega) ?_;(conv=>whnf)))
    refine EvCall.plain Try.call45 (feS r) rfl (fun ρ W hp => by rw [feS_den]; exact hc W) ?_
    ((conv=>whnf);repeat(refine And.intro (by omega) ?_;(conv=>whnf)))
    exact EvRet.ret (fun _ => feS_den _ _)
  | 2, _ =>
    refine EvIf.neg rfl ?_
    ((conv=>whnf);repeat(refine And.intro (by omega) ?_;(conv=>whnf)))
    refine EvIf.neg rfl ?_
    ((conv=>whnf);repeat(refine And.intro (by omega) ?_;(conv=>whnf)))
    refine EvIf.pos rfl ?_
    have hc := fun W => mulR_s a b W ra rb
    simp only [opF]
    generalize mulF a b = r at *
    ((conv=>whnf);repeat(refine And.intro (by omega) ?_;(conv=>whnf)))
    refine EvCall.plain Try.call56 (feS r) rfl (fun ρ W hp => by rw [feS_den]; exact hc W) ?_
    ((conv=>whnf);repeat(refine And.intro (by omega) ?_;(conv=>whnf)))
    exact EvRet.ret (fun _ => feS_den _ _)
  | 3, _ =>
    refine EvIf.neg rfl ?_
    ((conv=>whnf);repeat(refine And.intro (by omega) ?_;(conv=>whnf)))
    refine EvIf.neg rfl ?_
    ((conv=>whnf);repeat(refine And.intro (by omega) ?_;(conv=>whnf)))
    refine EvIf.neg rfl ?_
    have hc := fun W => divR_s a b W ra rb
    simp only [opF]
    generalize divF a b = r at *
    ((conv=>whnf);repeat(refine And.intro (by omega) ?_;(conv=>whnf)))
    refine EvCall.plain Try.call70 (feS r) rfl (fun ρ W hp => by rw [feS_den]; exact hc W) ?_
    ((conv=>whnf);repeat(refine And.intro (by omega) ?_;(conv=>whnf)))
    exact EvRet.ret (fun _ => feS_den _ _)
set_option maxRecDepth 10000 in
theorem iadd_s (x y : Iv) (w : World) : Con Try.prog 68 #[iV x, iV y] w (Ret w (ieV (iaddF x y))) := by
  refine enter tabOk mixed Try.func68 rfl Try.ntmps68 Try.results68 [.a (iS x), .a (iS y)] (fun _ => none) [] 0 rfl rfl (hp0 _ _ _) ?_
  ((conv=>whnf);repeat(refine And.intro (by omega) ?_;(conv=>whnf)))
  refine EvCall.plain Try.call27 (.v (.bool (ivB x))) rfl (fun ρ W hp => ivalid_s x W) ?_
  ((conv=>whnf);repeat(refine And.intro (by omega) ?_;(conv=>whnf)))
  refine EvCallC.plain Try.call27 (.v (.bool (ivB y))) rfl (fun _ ρ W hp => ivalid_s y W) ?_
  ((conv=>whnf);repeat(refine And.intro (by omega) ?_;(conv=>whnf)))
  refine EvIf.split (fun g1 => ?_) (fun g1 => ?_)
  · have g2 : (ivB x && ivB y) = false := by cases h1 : ivB x <;> cases h2 : ivB y <;> simp_all
    ((conv=>whnf);repeat(refine And.intro (by omega) ?_;(conv=>whnf)))
    exact EvRet.ret (fun _ => by unfold iaddF; rw [g2]; rfl)
  have g2 : (ivB x && ivB y) = true := by cases h1 : ivB x <;> cases h2 : ivB y <;> simp_all
  have hr : iaddF x y = twoF (addF x.lo y.lo) (addF x.hi y.hi) := by unfold iaddF; rw [g2, if_pos rfl]
  rw [hr]
  have c1 := fun W => add_s x.lo y.lo W
  have c2 := fun W => add_s x.hi y.hi W
  generalize addF x.lo y.lo = r1 at *
  generalize addF x.hi y.hi = r2 at *
  ((conv=>whnf);repeat(refine And.intro (by omega) ?_;(conv=>whnf)))
  refine EvCall.plain Try.call91 (feS r1) rfl (fun ρ W hp => by rw [feS_den]; exact c1 W) ?_
  ((conv=>whnf);repeat(refine And.intro (by omega) ?_;(conv=>whnf)))
  refine EvIf.split (fun g3 => ?_) (fun g3 => ?_)
  · have g4 : r1.2 ≠ 0 := by simpa using g3
    ((conv=>whnf);repeat(refine And.intro (by omega) ?_;(conv=>whnf)))
    exact EvRet.ret (fun _ => by unfold twoF; rw [if_pos g4]; rfl)
  have g4 : ¬ r1.2 ≠ 0 := by simpa using g3
  ((conv=>whnf);repeat(refine And.intro (by omega) ?_;(conv=>whnf)))
  refine EvCall.plain Try.call91 (feS r2) rfl (fun ρ W hp => by rw [feS_den]; exact c2 W) ?_
  ((conv=>whnf);repeat(refine And.intro (by omega) ?_;(conv=>whnf)))
  refine EvIf.split (fun g5 => ?_) (fun g5 => ?_)
  · have g6 : r2.2 ≠ 0 := by simpa using g5
    ((conv=>whnf);repeat(refine And.intro (by omega) ?_;(conv=>whnf)))
    exact EvRet.ret (fun _ => by unfold twoF; rw [if_neg g4, if_pos g6]; rfl)
  have g6 : ¬ r2.2 ≠ 0 := by simpa using g5
  ((conv=>whnf);repeat(refine And.intro (by omega) ?_;(conv=>whnf)))
  exact EvRet.ret (fun _ => by unfold twoF; rw [if_neg g4, if_neg g6]; rfl)
set_option maxRecDepth 10000 in
theorem isub_s (x y : Iv) (w : World) : Con Try.prog 69 #[iV x, iV y] w (Ret w (ieV (isubF x y))) := by
  refine enter tabOk mixed Try.func69 rfl Try.ntmps69 Try.results69 [.a (iS x), .a (iS y)] (fun _ => none) [] 0 rfl rfl (hp0 _ _ _) ?_
  ((conv=>whnf);repeat(refine And.intro (by omega) ?_;(conv=>whnf)))
  refine EvCall.plain Try.call27 (.v (.bool (ivB x))) rfl (fun ρ W hp => ivalid_s x W) ?_
  ((conv=>whnf);repeat(refine And.intro (by omega) ?_;(conv=>whnf)))
  refine EvCallC.plain Try.call27 (.v (.bool (ivB y))) rfl (fun _ ρ W hp => ivalid_s y W) ?_
  ((conv=>whnf);repeat(refine And.intro (by omega) ?_;(conv=>whnf)))
  refine EvIf.split (fun g1 => ?_) (fun g1 => ?_)
  · have g2 : (ivB x && ivB y) = false := by cases h1 : ivB x <;> cases h2 : ivB y <;> simp_all
    ((conv=>whnf);repeat(refine And.intro (by omega) ?_;(conv=>whnf)))
    exact EvRet.ret (fun _ => by unfold isubF; rw [g2]; rfl)
  have g2 : (ivB x && ivB y) = true := by cases h1 : ivB x <;> cases h2 : ivB y <;> simp_all
  have hr : isubF x y = twoF (subF x.lo y.hi) (subF x.hi y.lo) := by unfold isubF; rw [g2, if_pos rfl]
  rw [hr]
  have c1 := fun W => sub_s x.lo y.hi W
  have c2 := fun W => sub_s x.hi y.lo W
  generalize subF x.lo y.hi = r1 at *
  generalize subF x.hi y.lo = r2 at *
  ((conv=>whnf);repeat(refine And.intro (by omega) ?_;(conv=>whnf)))
  refine EvCall.plain Try.call67 (feS r1) rfl (fun ρ W hp => by rw [feS_den]; exact c1 W) ?_
  ((conv=>whnf);repeat(refine And.intro (by omega) ?_;(conv=>whnf)))
  refine EvIf.split (fun g3 => ?_) (fun g3 => ?_)
  · have g4 : r1.2 ≠ 0 := by simpa using g3
    ((conv=>whnf);repeat(refine And.intro (by omega) ?_;(conv=>whnf)))
    exact EvRet.ret (fun _ => by unfold twoF; rw [if_pos g4]; rfl)
  have g4 : ¬ r1.2 ≠ 0 := by simpa using g3
  ((conv=>whnf);repeat(refine And.intro (by omega) ?_;(conv=>whnf)))
  refine EvCall.plain Try.call67 (feS r2) rfl (fun ρ W hp => by rw [feS_den]; exact c2 W) ?_
  ((conv=>whnf);repeat(refine And.intro (by omega) ?_;(conv=>whnf)))
  refine EvIf.split (fun g5 => ?_) (fun g5 => ?_)
  · have g6 : r2.2 ≠ 0 := by simpa using g5
    ((conv=>whnf);repeat(refine And.intro (by omega) ?_;(conv=>whnf)))
    exact EvRet.ret (fun _ => by unfold twoF; rw [if_neg g4, if_pos g6]; rfl)
  have g6 : ¬ r2.2 ≠ 0 := by simpa using g5
  ((conv=>whnf);repeat(refine And.intro (by omega) ?_;(conv=>whnf)))
  exact EvRet.ret (fun _ => by unfold twoF; rw [if_neg g4, if_neg g6]; rfl)
def widF (x : Iv) : Fq × Int := if ivB x then subF x.hi x.lo else (fr0, 1)
set_option maxRecDepth 10000 in
theorem width_s (x : Iv) (w : World) : Con Try.prog 44 #[iV x] w (Ret w (feV (widF x))) := by
  refine enter tabOk mixed Try.func44 rfl Try.ntmps44 Try.results44 [.a (iS x)] (fun _ => none) [] 0 rfl rfl (hp0 _ _ _) ?_
  ((conv=>whnf);repeat(refine And.intro (by omega) ?_;(conv=>whnf)))
  refine EvCall.plain Try.call27 (.v (.bool (ivB x))) rfl (fun ρ W hp => ivalid_s x W) ?_
  ((conv=>whnf);repeat(refine And.intro (by omega) ?_;(conv=>whnf)))
  refine EvIf.split (fun g1 => ?_) (fun g1 => ?_)
  · have g2 : ivB x = false := by simpa using g1
    ((conv=>whnf);repeat(refine And.intro (by omega) ?_;(conv=>whnf)))
    exact EvRet.ret (fun _ => by unfold widF; rw [g2]; rfl)
  have g2 : ivB x = true := by simpa using g1
  have hr : widF x = subF x.hi x.lo := by unfold widF; rw [g2, if_pos rfl]
  rw [hr]
  have c1 := fun W => sub_s x.hi x.lo W
  generalize subF x.hi x.lo = r1 at *
  ((conv=>whnf);repeat(refine And.intro (by omega) ?_;(conv=>whnf)))
  refine EvCall.plain Try.call67 (feS r1) rfl (fun ρ W hp => by rw [feS_den]; exact c1 W) ?_
  ((conv=>whnf);repeat(refine And.intro (by omega) ?_;(conv=>whnf)))
  exact EvRet.ret (fun _ => feS_den _ _)
set_option maxRecDepth 10000 in
theorem do_s (op : Nat) (x y : Iv) (w : World) (hop : op < 4) : Con Try.prog 48 #[.int .i64 (op : Int), iV x, iV y] w (Ret w (ieV (iopF op x y))) := by
  refine enter tabOk mixed Try.func48 rfl Try.ntmps48 Try.results48 [.v (.int .i64 (op : Int)), .a (iS x), .a (iS y)] (fun _ => none) [] 0 rfl rfl (hp0 _ _ _) ?_
  ((conv=>whnf);repeat(refine And.intro (by omega) ?_;(conv=>whnf)))
  match op, hop with
  | 0, _ =>
    refine EvIf.pos rfl ?_
    have hc := fun W => iadd_s x y W
    simp only [iopF]
    generalize iaddF x y = r at *
    ((conv=>whnf);repeat(refine And.intro (by omega) ?_;(conv=>whnf)))
    refine EvCall.plain Try.call68 (ieS r) rfl (fun ρ W hp => by rw [ieS_den]; exact hc W) ?_
    ((conv=>whnf);repeat(refine And.intro (by omega) ?_;(conv=>whnf)))
    exact EvRet.ret (fun _ => ieS_den _ _)
  | 1, _ =>
    refine EvIf.neg rfl ?_
    ((conv=>whnf);repeat(refine And.intro (by omega) ?_;(conv=>whnf)))
    refine EvIf.pos rfl ?_
    have hc := fun W => isub_s x y W
    simp only [iopF]
    generalize isubF x y = r at *
    ((conv=>whnf);repeat(refine And.intro (by omega) ?_;(conv=>whnf)))
    refine EvCall.plain Try.call69 (ieS r) rfl (fun ρ W hp => by rw [ieS_den]; exact hc W) ?_
    ((conv=>whnf);repeat(refine And.intro (by omega) ?_;(conv=>whnf)))
    exact EvRet.ret (fun _ => ieS_den _ _)
  | 2, _ =>
    refine EvIf.neg rfl ?_
    ((conv=>whnf);repeat(refine And.intro (by omega) ?_;(conv=>whnf)))
    refine EvIf.neg rfl ?_
    ((conv=>whnf);repeat(refine And.intro (by omega) ?_;(conv=>whnf)))
    refine EvIf.pos rfl ?_
    have hc := fun W => imul_s x y W
    simp only [iopF]
    generalize imulF x y = r at *
    ((conv=>whnf);repeat(refine And.intro (by omega) ?_;(conv=>whnf)))
    refine EvCall.plain Try.call52 (ieS r) rfl (fun ρ W hp => by rw [ieS_den]; exact hc W) ?_
    ((conv=>whnf);repeat(refine And.intro (by omega) ?_;(conv=>whnf)))
    exact EvRet.ret (fun _ => ieS_den _ _)
  | 3, _ =>
    refine EvIf.neg rfl ?_
    ((conv=>whnf);repeat(refine And.intro (by omega) ?_;(conv=>whnf)))
    refine EvIf.neg rfl ?_
    ((conv=>whnf);repeat(refine And.intro (by omega) ?_;(conv=>whnf)))
    refine EvIf.neg rfl ?_
    have hc := fun W => idiv_s x y W
    simp only [iopF]
    generalize idivF x y = r at *
    ((conv=>whnf);repeat(refine And.intro (by omega) ?_;(conv=>whnf)))
    refine EvCall.plain Try.call54 (ieS r) rfl (fun ρ W hp => by rw [ieS_den]; exact hc W) ?_
    ((conv=>whnf);repeat(refine And.intro (by omega) ?_;(conv=>whnf)))
    exact EvRet.ret (fun _ => ieS_den _ _)
end Go.Proofs.Ythknflclfmnciaa
