
/- The reference of the lattice of intervals, and the law IntervalLattice; walked. -/
import Derived.Test.YthknflclfmnciaaUa
namespace Go.Proofs.Ythknflclfmnciaa
open Go.RowKit
set_option linter.unusedVariables false
set_option linter.unusedSimpArgs false

theorem all4 {x y : Iv} (hx : vI x) (hy : vI y) : ∀ z ∈ [x.lo, x.hi, y.lo, y.hi], vF z := by
  intro z hz
  simp only [List.mem_cons, List.not_mem_nil, or_false] at hz
  rcases hz with rfl | rfl | rfl | rfl
  · exact hx.1
  · exact hx.2.1
  · exact hy.1
  · exact hy.2.1
set_option maxRecDepth 10000 in
theorem ihull4_s (x y : Iv) (w : World) (rx : inI x) (ry : inI y) : Con Try.prog 40 #[iV x, iV y] w (Ret w (iV (ihullF x y))) := by
  refine enter tabOk mixed Try.func40 rfl Try.ntmps40 Try.results40 [.a (iS x), .a (iS y)] (fun _ => none) [] 0 rfl rfl (hp0 _ _ _) ?_
  ((conv=>whnf);repeat(refine And.intro (by omega) ?_;(conv=>whnf)))
  refine EvCall.plain Try.call66 (.v (.bool (ivB x && ivB y))) rfl (fun ρ W hp => both4_s x y W rx ry) ?_
  ((conv=>whnf);repeat(refine And.intro (by omega) ?_;(conv=>whnf)))
  refine EvIf.split (fun g1 => ?_) (fun g1 => ?_)
  · have g2 : (ivB x && ivB y) = false := by rw [Bool.not_eq_true'] at g1; exact g1
    ((conv=>whnf);repeat(refine And.intro (by omega) ?_;(conv=>whnf)))
    exact EvRet.ret (fun _ => by unfold ihullF; rw [g2]; rfl)
  have g2 : (ivB x && ivB y) = true := by rw [Bool.not_eq_false'] at g1; exact g1
  obtain ⟨hx, hy⟩ := both_v g2
  ((conv=>whnf);repeat(refine And.intro (by omega) ?_;(conv=>whnf)))
  refine EvCall.plain Try.call55 (.a (iS ⟨lesF x.lo y.lo, greF x.hi y.hi⟩)) rfl (fun ρ W hp => by
    rw [iS_den, ← hull_0 hx hy, ← hull_3 hx hy]
    exact from4_s _ [x.lo, x.hi, y.lo, y.hi] W (hp.lit (R := rF) (ys := [x.lo, x.hi, y.lo, y.hi]) (n := 3) rfl (by decide) (by simp) (by omega) rfl) (by simp) (by simp) (all4 hx hy)) ?_
  ((conv=>whnf);repeat(refine And.intro (by omega) ?_;(conv=>whnf)))
  exact EvRet.ret (fun _ => by unfold ihullF; rw [g2]; rfl)
set_option maxRecDepth 10000 in
theorem imeet4_s (x y : Iv) (w : World) (rx : inI x) (ry : inI y) : Con Try.prog 34 #[iV x, iV y] w (Ret w (ieV (imeetF x y))) := by
  refine enter tabOk mixed Try.func34 rfl Try.ntmps34 Try.results34 [.a (iS x), .a (iS y)] (fun _ => none) [] 0 rfl rfl (hp0 _ _ _) ?_
  ((conv=>whnf);repeat(refine And.intro (by omega) ?_;(conv=>whnf)))
  refine EvCall.plain Try.call66 (.v (.bool (ivB x && ivB y))) rfl (fun ρ W hp => both4_s x y W rx ry) ?_
  ((conv=>whnf);repeat(refine And.intro (by omega) ?_;(conv=>whnf)))
  refine EvIf.split (fun g1 => ?_) (fun g1 => ?_)
  · have g2 : (ivB x && ivB y) = false := by rw [Bool.not_eq_true'] at g1; exact g1
    ((conv=>whnf);repeat(refine And.intro (by omega) ?_;(conv=>whnf)))
    exact EvRet.ret (fun _ => by unfold imeetF; rw [g2]; rfl)
  have g2 : (ivB x && ivB y) = true := by rw [Bool.not_eq_false'] at g1; exact g1
  obtain ⟨hx, hy⟩ := both_v g2
  have l1 : (sortF [x.lo, y.lo]).length = 2 := by rw [sortF_len]; rfl
  have l2 : (sortF [x.hi, y.hi]).length = 2 := by rw [sortF_len]; rfl
  have r1 := sort2_1 hx.1 hy.1
  have r2 := sort2_0 x.hi y.hi
  have v1 := (greF_v hx.1 hy.1).1
  have v2 := (lesF_v hx.2.1 hy.2.1).1
  ((conv=>whnf);repeat(refine And.intro (by omega) ?_;(conv=>whnf)))
  refine EvDraw.meet (.q 0 (.q 1 (.q 2 (.q 3 (.q 8 (.q 9 (.q 10 (.q 11 (.n 4 false (.n 5 false (.q 6 (.q 7 (.n 12 false (.n 13 false (.q 14 (.q 15 (.q 16 (.n 17 false (.n 18 true (.z) (.e)) (.e))))) (.n 17 false (.n 13 false (.q 14 (.q 15 (.q 16 (.n 18 true (.z) (.e))))) (.e)) (.e))) (.n 17 false (.n 12 false (.n 13 false (.q 14 (.q 15 (.q 16 (.n 18 true (.z) (.e))))) (.e)) (.e)) (.e))))) (.n 12 false (.n 5 false (.q 6 (.q 7 (.n 13 false (.q 14 (.q 15 (.q 16 (.n 17 false (.n 18 true (.z) (.e)) (.e))))) (.n 17 false (.n 13 false (.q 14 (.q 15 (.q 16 (.n 18 true (.z) (.e))))) (.e)) (.e))))) (.n 17 false (.n 5 false (.q 6 (.q 7 (.n 13 false (.q 14 (.q 15 (.q 16 (.n 18 true (.z) (.e))))) (.e)))) (.e)) (.e))) (.n 17 false (.n 5 false (.q 6 (.q 7 (.n 12 false (.n 13 false (.q 14 (.q 15 (.q 16 (.n 18 true (.z) (.e))))) (.e)) (.e)))) (.n 12 false (.n 5 false (.q 6 (.q 7 (.n 13 false (.q 14 (.q 15 (.q 16 (.n 18 true (.z) (.e))))) (.e)))) (.e)) (.e))) (.e)))) (.n 12 false (.n 4 false (.n 5 false (.q 6 (.q 7 (.n 13 false (.q 14 (.q 15 (.q 16 (.n 17 false (.n 18 true (.z) (.e)) (.e))))) (.n 17 false (.n 13 false (.q 14 (.q 15 (.q 16 (.n 18 true (.z) (.e))))) (.e)) (.e))))) (.n 17 false (.n 5 false (.q 6 (.q 7 (.n 13 false (.q 14 (.q 15 (.q 16 (.n 18 true (.z) (.e))))) (.e)))) (.e)) (.e))) (.n 17 false (.n 4 false (.n 5 false (.q 6 (.q 7 (.n 13 false (.q 14 (.q 15 (.q 16 (.n 18 true (.z) (.e))))) (.e)))) (.e)) (.e)) (.e))) (.n 17 false (.n 4 false (.n 5 false (.q 6 (.q 7 (.n 12 false (.n 13 false (.q 14 (.q 15 (.q 16 (.n 18 true (.z) (.e))))) (.e)) (.e)))) (.n 12 false (.n 5 false (.q 6 (.q 7 (.n 13 false (.q 14 (.q 15 (.q 16 (.n 18 true (.z) (.e))))) (.e)))) (.e)) (.e))) (.n 12 false (.n 4 false (.n 5 false (.q 6 (.q 7 (.n 13 false (.q 14 (.q 15 (.q 16 (.n 18 true (.z) (.e))))) (.e)))) (.e)) (.e)) (.e))) (.e)))))))))))) (by kernel_rfl) (α := Unit) (fun _ => True) (fun _ => [(4, [], .p 2 0), (5, [], .v (.int .i64 (0))), (7, [], .p 3 0)])
    (fun _ => [⟨2, true, 27, 4, 1, .cs (iS iv0)⟩, ⟨3, true, 27, 4, 1, .cs (iS ⟨(sortF [x.lo, y.lo]).getD 1 fr0, (sortF [x.hi, y.hi]).getD 0 fr0⟩)⟩]) 4 ?_ ?_
  · ((conv=>whnf);repeat(refine And.intro (by omega) ?_;(conv=>whnf)))
    refine And.intro ?_ ?_
    · ((conv=>whnf);repeat(refine And.intro (by omega) ?_;(conv=>whnf)))
      refine And.intro ?_ ?_
      · ((conv=>whnf);repeat(refine And.intro (by omega) ?_;(conv=>whnf)))
        refine EvCall.rows (R := rF) (ty := 25) (xs := sortF [x.lo, y.lo]) Try.call32 (fun ρ W hp => sorted4_s _ [x.lo, y.lo] W (hp.lit (R := rF) (ys := [x.lo, y.lo]) (n := 3) rfl (by decide) (by simp) (by omega) rfl) (by simp) (all2 hx.1 hy.1)) (fun cc hq1 hq2 => ?_)
        ((conv=>whnf);(repeat(refine And.intro ?_ ?_;(focus((first|omega|exact⟨rfl,True.intro⟩|exact⟨rfl,rfl,True.intro⟩|rfl|(simp only[List.length_set];first|omega|(refine⟨?_,?_⟩<;>omega)|(refine⟨?_,?_,?_⟩<;>omega))|(intro hg;(try simp only[bB]at hg);first|omega|(refine⟨?_,?_⟩<;>omega)|(refine⟨?_,?_,?_⟩<;>first|omega|(show _<_;(try simp only[List.length_set]);omega)|exact leT rfl))|(refine⟨?_,?_⟩<;>omega)|(refine⟨?_,?_,?_⟩<;>first|omega|(show _<_;(try simp only[List.length_set]);omega)|exact leT rfl)|(simp only[show rI.d=(0:Int)from rfl];omega));done));(conv=>whnf))))
        refine And.intro ?_ ?_
        · ((conv=>whnf);repeat(refine And.intro (by omega) ?_;(conv=>whnf)))
          refine And.intro ?_ ?_
          · ((conv=>whnf);repeat(refine And.intro (by omega) ?_;(conv=>whnf)))
            refine EvCall.rows (R := rF) (ty := 25) (xs := sortF [x.hi, y.hi]) Try.call32 (fun ρ W hp => sorted4_s _ [x.hi, y.hi] W (hp.lit (R := rF) (ys := [x.hi, y.hi]) (n := 5) rfl (by decide) (by simp) (by omega) rfl) (by simp) (all2 hx.2.1 hy.2.1)) (fun cd hq3 hq4 => ?_)
            ((conv=>whnf);(repeat(refine And.intro ?_ ?_;(focus((first|omega|exact⟨rfl,True.intro⟩|exact⟨rfl,rfl,True.intro⟩|rfl|(simp only[List.length_set];first|omega|(refine⟨?_,?_⟩<;>omega)|(refine⟨?_,?_,?_⟩<;>omega))|(intro hg;(try simp only[bB]at hg);first|omega|(refine⟨?_,?_⟩<;>omega)|(refine⟨?_,?_,?_⟩<;>first|omega|(show _<_;(try simp only[List.length_set]);omega)|exact leT rfl))|(refine⟨?_,?_⟩<;>omega)|(refine⟨?_,?_,?_⟩<;>first|omega|(show _<_;(try simp only[List.length_set]);omega)|exact leT rfl)|(simp only[show rI.d=(0:Int)from rfl];omega));done));(conv=>whnf))))
            refine Exists.intro () (And.intro trivial (Sub.of [(3, 7)] [] rfl ?_))
            ((repeat' (refine And.intro ?_ ?_)) <;> first | rfl | exact True.intro | omega)
          ((conv=>whnf);repeat(refine And.intro (by omega) ?_;(conv=>whnf)))
          refine EvCall.rows (R := rF) (ty := 25) (xs := sortF [x.hi, y.hi]) Try.call32 (fun ρ W hp => sorted4_s _ [x.hi, y.hi] W (hp.lit (R := rF) (ys := [x.hi, y.hi]) (n := 5) rfl (by decide) (by simp) (by omega) rfl) (by simp) (all2 hx.2.1 hy.2.1)) (fun cd hq3 hq4 => ?_)
          ((conv=>whnf);(repeat(refine And.intro ?_ ?_;(focus((first|omega|exact⟨rfl,True.intro⟩|exact⟨rfl,rfl,True.intro⟩|rfl|(simp only[List.length_set];first|omega|(refine⟨?_,?_⟩<;>omega)|(refine⟨?_,?_,?_⟩<;>omega))|(intro hg;(try simp only[bB]at hg);first|omega|(refine⟨?_,?_⟩<;>omega)|(refine⟨?_,?_,?_⟩<;>first|omega|(show _<_;(try simp only[List.length_set]);omega)|exact leT rfl))|(refine⟨?_,?_⟩<;>omega)|(refine⟨?_,?_,?_⟩<;>first|omega|(show _<_;(try simp only[List.length_set]);omega)|exact leT rfl)|(simp only[show rI.d=(0:Int)from rfl];omega));done));(conv=>whnf))))
          refine Exists.intro () (And.intro trivial (Sub.of [(3, 6)] [] rfl ?_))
          ((repeat' (refine And.intro ?_ ?_)) <;> first | rfl | exact True.intro | omega)
        ((conv=>whnf);repeat(refine And.intro (by omega) ?_;(conv=>whnf)))
        refine EvCall.rows (R := rF) (ty := 25) (xs := sortF [x.hi, y.hi]) Try.call32 (fun ρ W hp => sorted4_s _ [x.hi, y.hi] W (hp.lit (R := rF) (ys := [x.hi, y.hi]) (n := 6) rfl (by decide) (by simp) (by omega) rfl) (by simp) (all2 hx.2.1 hy.2.1)) (fun cd hq3 hq4 => ?_)
        ((conv=>whnf);(repeat(refine And.intro ?_ ?_;(focus((first|omega|exact⟨rfl,True.intro⟩|exact⟨rfl,rfl,True.intro⟩|rfl|(simp only[List.length_set];first|omega|(refine⟨?_,?_⟩<;>omega)|(refine⟨?_,?_,?_⟩<;>omega))|(intro hg;(try simp only[bB]at hg);first|omega|(refine⟨?_,?_⟩<;>omega)|(refine⟨?_,?_,?_⟩<;>first|omega|(show _<_;(try simp only[List.length_set]);omega)|exact leT rfl))|(refine⟨?_,?_⟩<;>omega)|(refine⟨?_,?_,?_⟩<;>first|omega|(show _<_;(try simp only[List.length_set]);omega)|exact leT rfl)|(simp only[show rI.d=(0:Int)from rfl];omega));done));(conv=>whnf))))
        refine Exists.intro () (And.intro trivial (Sub.of [(3, 5)] [] rfl ?_))
        ((repeat' (refine And.intro ?_ ?_)) <;> first | rfl | exact True.intro | omega)
      ((conv=>whnf);repeat(refine And.intro (by omega) ?_;(conv=>whnf)))
      refine And.intro ?_ ?_
      · ((conv=>whnf);repeat(refine And.intro (by omega) ?_;(conv=>whnf)))
        refine And.intro ?_ ?_
        · ((conv=>whnf);repeat(refine And.intro (by omega) ?_;(conv=>whnf)))
          refine EvCall.rows (R := rF) (ty := 25) (xs := sortF [x.lo, y.lo]) Try.call32 (fun ρ W hp => sorted4_s _ [x.lo, y.lo] W (hp.lit (R := rF) (ys := [x.lo, y.lo]) (n := 3) rfl (by decide) (by simp) (by omega) rfl) (by simp) (all2 hx.1 hy.1)) (fun cc hq1 hq2 => ?_)
          ((conv=>whnf);(repeat(refine And.intro ?_ ?_;(focus((first|omega|exact⟨rfl,True.intro⟩|exact⟨rfl,rfl,True.intro⟩|rfl|(simp only[List.length_set];first|omega|(refine⟨?_,?_⟩<;>omega)|(refine⟨?_,?_,?_⟩<;>omega))|(intro hg;(try simp only[bB]at hg);first|omega|(refine⟨?_,?_⟩<;>omega)|(refine⟨?_,?_,?_⟩<;>first|omega|(show _<_;(try simp only[List.length_set]);omega)|exact leT rfl))|(refine⟨?_,?_⟩<;>omega)|(refine⟨?_,?_,?_⟩<;>first|omega|(show _<_;(try simp only[List.length_set]);omega)|exact leT rfl)|(simp only[show rI.d=(0:Int)from rfl];omega));done));(conv=>whnf))))
          refine And.intro ?_ ?_
          · ((conv=>whnf);repeat(refine And.intro (by omega) ?_;(conv=>whnf)))
            refine EvCall.rows (R := rF) (ty := 25) (xs := sortF [x.hi, y.hi]) Try.call32 (fun ρ W hp => sorted4_s _ [x.hi, y.hi] W (hp.lit (R := rF) (ys := [x.hi, y.hi]) (n := 4) rfl (by decide) (by simp) (by omega) rfl) (by simp) (all2 hx.2.1 hy.2.1)) (fun cd hq3 hq4 => ?_)
            ((conv=>whnf);(repeat(refine And.intro ?_ ?_;(focus((first|omega|exact⟨rfl,True.intro⟩|exact⟨rfl,rfl,True.intro⟩|rfl|(simp only[List.length_set];first|omega|(refine⟨?_,?_⟩<;>omega)|(refine⟨?_,?_,?_⟩<;>omega))|(intro hg;(try simp only[bB]at hg);first|omega|(refine⟨?_,?_⟩<;>omega)|(refine⟨?_,?_,?_⟩<;>first|omega|(show _<_;(try simp only[List.length_set]);omega)|exact leT rfl))|(refine⟨?_,?_⟩<;>omega)|(refine⟨?_,?_,?_⟩<;>first|omega|(show _<_;(try simp only[List.length_set]);omega)|exact leT rfl)|(simp only[show rI.d=(0:Int)from rfl];omega));done));(conv=>whnf))))
            refine Exists.intro () (And.intro trivial (Sub.of [(3, 7)] [] rfl ?_))
            ((repeat' (refine And.intro ?_ ?_)) <;> first | rfl | exact True.intro | omega)
          ((conv=>whnf);repeat(refine And.intro (by omega) ?_;(conv=>whnf)))
          refine EvCall.rows (R := rF) (ty := 25) (xs := sortF [x.hi, y.hi]) Try.call32 (fun ρ W hp => sorted4_s _ [x.hi, y.hi] W (hp.lit (R := rF) (ys := [x.hi, y.hi]) (n := 4) rfl (by decide) (by simp) (by omega) rfl) (by simp) (all2 hx.2.1 hy.2.1)) (fun cd hq3 hq4 => ?_)
          ((conv=>whnf);(repeat(refine And.intro ?_ ?_;(focus((first|omega|exact⟨rfl,True.intro⟩|exact⟨rfl,rfl,True.intro⟩|rfl|(simp only[List.length_set];first|omega|(refine⟨?_,?_⟩<;>omega)|(refine⟨?_,?_,?_⟩<;>omega))|(intro hg;(try simp only[bB]at hg);first|omega|(refine⟨?_,?_⟩<;>omega)|(refine⟨?_,?_,?_⟩<;>first|omega|(show _<_;(try simp only[List.length_set]);omega)|exact leT rfl))|(refine⟨?_,?_⟩<;>omega)|(refine⟨?_,?_,?_⟩<;>first|omega|(show _<_;(try simp only[List.length_set]);omega)|exact leT rfl)|(simp only[show rI.d=(0:Int)from rfl];omega));done));(conv=>whnf))))
          refine Exists.intro () (And.intro trivial (Sub.of [(3, 6)] [] rfl ?_))
          ((repeat' (refine And.intro ?_ ?_)) <;> first | rfl | exact True.intro | omega)
        ((conv=>whnf);repeat(refine And.intro (by omega) ?_;(conv=>whnf)))
        refine EvCall.rows (R := rF) (ty := 25) (xs := sortF [x.lo, y.lo]) Try.call32 (fun ρ W hp => sorted4_s _ [x.lo, y.lo] W (hp.lit (R := rF) (ys := [x.lo, y.lo]) (n := 3) rfl (by decide) (by simp) (by omega) rfl) (by simp) (all2 hx.1 hy.1)) (fun cc hq1 hq2 => ?_)
        ((conv=>whnf);(repeat(refine And.intro ?_ ?_;(focus((first|omega|exact⟨rfl,True.intro⟩|exact⟨rfl,rfl,True.intro⟩|rfl|(simp only[List.length_set];first|omega|(refine⟨?_,?_⟩<;>omega)|(refine⟨?_,?_,?_⟩<;>omega))|(intro hg;(try simp only[bB]at hg);first|omega|(refine⟨?_,?_⟩<;>omega)|(refine⟨?_,?_,?_⟩<;>first|omega|(show _<_;(try simp only[List.length_set]);omega)|exact leT rfl))|(refine⟨?_,?_⟩<;>omega)|(refine⟨?_,?_,?_⟩<;>first|omega|(show _<_;(try simp only[List.length_set]);omega)|exact leT rfl)|(simp only[show rI.d=(0:Int)from rfl];omega));done));(conv=>whnf))))
        refine EvCall.rows (R := rF) (ty := 25) (xs := sortF [x.hi, y.hi]) Try.call32 (fun ρ W hp => sorted4_s _ [x.hi, y.hi] W (hp.lit (R := rF) (ys := [x.hi, y.hi]) (n := 4) rfl (by decide) (by simp) (by omega) rfl) (by simp) (all2 hx.2.1 hy.2.1)) (fun cd hq3 hq4 => ?_)
        ((conv=>whnf);(repeat(refine And.intro ?_ ?_;(focus((first|omega|exact⟨rfl,True.intro⟩|exact⟨rfl,rfl,True.intro⟩|rfl|(simp only[List.length_set];first|omega|(refine⟨?_,?_⟩<;>omega)|(refine⟨?_,?_,?_⟩<;>omega))|(intro hg;(try simp only[bB]at hg);first|omega|(refine⟨?_,?_⟩<;>omega)|(refine⟨?_,?_,?_⟩<;>first|omega|(show _<_;(try simp only[List.length_set]);omega)|exact leT rfl))|(refine⟨?_,?_⟩<;>omega)|(refine⟨?_,?_,?_⟩<;>first|omega|(show _<_;(try simp only[List.length_set]);omega)|exact leT rfl)|(simp only[show rI.d=(0:Int)from rfl];omega));done));(conv=>whnf))))
        refine Exists.intro () (And.intro trivial (Sub.of [(3, 5)] [] rfl ?_))
        ((repeat' (refine And.intro ?_ ?_)) <;> first | rfl | exact True.intro | omega)
      ((conv=>whnf);repeat(refine And.intro (by omega) ?_;(conv=>whnf)))
      refine And.intro ?_ ?_
      · ((conv=>whnf);repeat(refine And.intro (by omega) ?_;(conv=>whnf)))
        refine EvCall.rows (R := rF) (ty := 25) (xs := sortF [x.lo, y.lo]) Try.call32 (fun ρ W hp => sorted4_s _ [x.lo, y.lo] W (hp.lit (R := rF) (ys := [x.lo, y.lo]) (n := 3) rfl (by decide) (by simp) (by omega) rfl) (by simp) (all2 hx.1 hy.1)) (fun cc hq1 hq2 => ?_)
        ((conv=>whnf);(repeat(refine And.intro ?_ ?_;(focus((first|omega|exact⟨rfl,True.intro⟩|exact⟨rfl,rfl,True.intro⟩|rfl|(simp only[List.length_set];first|omega|(refine⟨?_,?_⟩<;>omega)|(refine⟨?_,?_,?_⟩<;>omega))|(intro hg;(try simp only[bB]at hg);first|omega|(refine⟨?_,?_⟩<;>omega)|(refine⟨?_,?_,?_⟩<;>first|omega|(show _<_;(try simp only[List.length_set]);omega)|exact leT rfl))|(refine⟨?_,?_⟩<;>omega)|(refine⟨?_,?_,?_⟩<;>first|omega|(show _<_;(try simp only[List.length_set]);omega)|exact leT rfl)|(simp only[show rI.d=(0:Int)from rfl];omega));done));(conv=>whnf))))
        refine EvCall.rows (R := rF) (ty := 25) (xs := sortF [x.hi, y.hi]) Try.call32 (fun ρ W hp => sorted4_s _ [x.hi, y.hi] W (hp.lit (R := rF) (ys := [x.hi, y.hi]) (n := 6) rfl (by decide) (by simp) (by omega) rfl) (by simp) (all2 hx.2.1 hy.2.1)) (fun cd hq3 hq4 => ?_)
        ((conv=>whnf);(repeat(refine And.intro ?_ ?_;(focus((first|omega|exact⟨rfl,True.intro⟩|exact⟨rfl,rfl,True.intro⟩|rfl|(simp only[List.length_set];first|omega|(refine⟨?_,?_⟩<;>omega)|(refine⟨?_,?_,?_⟩<;>omega))|(intro hg;(try simp only[bB]at hg);first|omega|(refine⟨?_,?_⟩<;>omega)|(refine⟨?_,?_,?_⟩<;>first|omega|(show _<_;(try simp only[List.length_set]);omega)|exact leT rfl))|(refine⟨?_,?_⟩<;>omega)|(refine⟨?_,?_,?_⟩<;>first|omega|(show _<_;(try simp only[List.length_set]);omega)|exact leT rfl)|(simp only[show rI.d=(0:Int)from rfl];omega));done));(conv=>whnf))))
        refine Exists.intro () (And.intro trivial (Sub.of [(3, 4)] [] rfl ?_))
        ((repeat' (refine And.intro ?_ ?_)) <;> first | rfl | exact True.intro | omega)
      ((conv=>whnf);repeat(refine And.intro (by omega) ?_;(conv=>whnf)))
      refine EvCall.rows (R := rF) (ty := 25) (xs := sortF [x.lo, y.lo]) Try.call32 (fun ρ W hp => sorted4_s _ [x.lo, y.lo] W (hp.lit (R := rF) (ys := [x.lo, y.lo]) (n := 3) rfl (by decide) (by simp) (by omega) rfl) (by simp) (all2 hx.1 hy.1)) (fun cc hq1 hq2 => ?_)
      ((conv=>whnf);(repeat(refine And.intro ?_ ?_;(focus((first|omega|exact⟨rfl,True.intro⟩|exact⟨rfl,rfl,True.intro⟩|rfl|(simp only[List.length_set];first|omega|(refine⟨?_,?_⟩<;>omega)|(refine⟨?_,?_,?_⟩<;>omega))|(intro hg;(try simp only[bB]at hg);first|omega|(refine⟨?_,?_⟩<;>omega)|(refine⟨?_,?_,?_⟩<;>first|omega|(show _<_;(try simp only[List.length_set]);omega)|exact leT rfl))|(refine⟨?_,?_⟩<;>omega)|(refine⟨?_,?_,?_⟩<;>first|omega|(show _<_;(try simp only[List.length_set]);omega)|exact leT rfl)|(simp only[show rI.d=(0:Int)from rfl];omega));done));(conv=>whnf))))
      refine EvCall.rows (R := rF) (ty := 25) (xs := sortF [x.hi, y.hi]) Try.call32 (fun ρ W hp => sorted4_s _ [x.hi, y.hi] W (hp.lit (R := rF) (ys := [x.hi, y.hi]) (n := 5) rfl (by decide) (by simp) (by omega) rfl) (by simp) (all2 hx.2.1 hy.2.1)) (fun cd hq3 hq4 => ?_)
      ((conv=>whnf);(repeat(refine And.intro ?_ ?_;(focus((first|omega|exact⟨rfl,True.intro⟩|exact⟨rfl,rfl,True.intro⟩|rfl|(simp only[List.length_set];first|omega|(refine⟨?_,?_⟩<;>omega)|(refine⟨?_,?_,?_⟩<;>omega))|(intro hg;(try simp only[bB]at hg);first|omega|(refine⟨?_,?_⟩<;>omega)|(refine⟨?_,?_,?_⟩<;>first|omega|(show _<_;(try simp only[List.length_set]);omega)|exact leT rfl))|(refine⟨?_,?_⟩<;>omega)|(refine⟨?_,?_,?_⟩<;>first|omega|(show _<_;(try simp only[List.length_set]);omega)|exact leT rfl)|(simp only[show rI.d=(0:Int)from rfl];omega));done));(conv=>whnf))))
      refine Exists.intro () (And.intro trivial (Sub.of [(3, 4)] [] rfl ?_))
      ((repeat' (refine And.intro ?_ ?_)) <;> first | rfl | exact True.intro | omega)
    ((conv=>whnf);repeat(refine And.intro (by omega) ?_;(conv=>whnf)))
    refine And.intro ?_ ?_
    · ((conv=>whnf);repeat(refine And.intro (by omega) ?_;(conv=>whnf)))
      refine And.intro ?_ ?_
      · ((conv=>whnf);repeat(refine And.intro (by omega) ?_;(conv=>whnf)))
        refine And.intro ?_ ?_
        · ((conv=>whnf);repeat(refine And.intro (by omega) ?_;(conv=>whnf)))
          refine EvCall.rows (R := rF) (ty := 25) (xs := sortF [x.lo, y.lo]) Try.call32 (fun ρ W hp => sorted4_s _ [x.lo, y.lo] W (hp.lit (R := rF) (ys := [x.lo, y.lo]) (n := 4) rfl (by decide) (by simp) (by omega) rfl) (by simp) (all2 hx.1 hy.1)) (fun cc hq1 hq2 => ?_)
          ((conv=>whnf);(repeat(refine And.intro ?_ ?_;(focus((first|omega|exact⟨rfl,True.intro⟩|exact⟨rfl,rfl,True.intro⟩|rfl|(simp only[List.length_set];first|omega|(refine⟨?_,?_⟩<;>omega)|(refine⟨?_,?_,?_⟩<;>omega))|(intro hg;(try simp only[bB]at hg);first|omega|(refine⟨?_,?_⟩<;>omega)|(refine⟨?_,?_,?_⟩<;>first|omega|(show _<_;(try simp only[List.length_set]);omega)|exact leT rfl))|(refine⟨?_,?_⟩<;>omega)|(refine⟨?_,?_,?_⟩<;>first|omega|(show _<_;(try simp only[List.length_set]);omega)|exact leT rfl)|(simp only[show rI.d=(0:Int)from rfl];omega));done));(conv=>whnf))))
          refine And.intro ?_ ?_
          · ((conv=>whnf);repeat(refine And.intro (by omega) ?_;(conv=>whnf)))
            refine EvCall.rows (R := rF) (ty := 25) (xs := sortF [x.hi, y.hi]) Try.call32 (fun ρ W hp => sorted4_s _ [x.hi, y.hi] W (hp.lit (R := rF) (ys := [x.hi, y.hi]) (n := 3) rfl (by decide) (by simp) (by omega) rfl) (by simp) (all2 hx.2.1 hy.2.1)) (fun cd hq3 hq4 => ?_)
            ((conv=>whnf);(repeat(refine And.intro ?_ ?_;(focus((first|omega|exact⟨rfl,True.intro⟩|exact⟨rfl,rfl,True.intro⟩|rfl|(simp only[List.length_set];first|omega|(refine⟨?_,?_⟩<;>omega)|(refine⟨?_,?_,?_⟩<;>omega))|(intro hg;(try simp only[bB]at hg);first|omega|(refine⟨?_,?_⟩<;>omega)|(refine⟨?_,?_,?_⟩<;>first|omega|(show _<_;(try simp only[List.length_set]);omega)|exact leT rfl))|(refine⟨?_,?_⟩<;>omega)|(refine⟨?_,?_,?_⟩<;>first|omega|(show _<_;(try simp only[List.length_set]);omega)|exact leT rfl)|(simp only[show rI.d=(0:Int)from rfl];omega));done));(conv=>whnf))))
            refine Exists.intro () (And.intro trivial (Sub.of [(3, 7)] [] rfl ?_))
            ((repeat' (refine And.intro ?_ ?_)) <;> first | rfl | exact True.intro | omega)
          ((conv=>whnf);repeat(refine And.intro (by omega) ?_;(conv=>whnf)))
          refine EvCall.rows (R := rF) (ty := 25) (xs := sortF [x.hi, y.hi]) Try.call32 (fun ρ W hp => sorted4_s _ [x.hi, y.hi] W (hp.lit (R := rF) (ys := [x.hi, y.hi]) (n := 3) rfl (by decide) (by simp) (by omega) rfl) (by simp) (all2 hx.2.1 hy.2.1)) (fun cd hq3 hq4 => ?_)
          ((conv=>whnf);(repeat(refine And.intro ?_ ?_;(focus((first|omega|exact⟨rfl,True.intro⟩|exact⟨rfl,rfl,True.intro⟩|rfl|(simp only[List.length_set];first|omega|(refine⟨?_,?_⟩<;>omega)|(refine⟨?_,?_,?_⟩<;>omega))|(intro hg;(try simp only[bB]at hg);first|omega|(refine⟨?_,?_⟩<;>omega)|(refine⟨?_,?_,?_⟩<;>first|omega|(show _<_;(try simp only[List.length_set]);omega)|exact leT rfl))|(refine⟨?_,?_⟩<;>omega)|(refine⟨?_,?_,?_⟩<;>first|omega|(show _<_;(try simp only[List.length_set]);omega)|exact leT rfl)|(simp only[show rI.d=(0:Int)from rfl];omega));done));(conv=>whnf))))
          refine Exists.intro () (And.intro trivial (Sub.of [(3, 6)] [] rfl ?_))
          ((repeat' (refine And.intro ?_ ?_)) <;> first | rfl | exact True.intro | omega)
        ((conv=>whnf);repeat(refine And.intro (by omega) ?_;(conv=>whnf)))
        refine EvCall.rows (R := rF) (ty := 25) (xs := sortF [x.lo, y.lo]) Try.call32 (fun ρ W hp => sorted4_s _ [x.lo, y.lo] W (hp.lit (R := rF) (ys := [x.lo, y.lo]) (n := 4) rfl (by decide) (by simp) (by omega) rfl) (by simp) (all2 hx.1 hy.1)) (fun cc hq1 hq2 => ?_)
        ((conv=>whnf);(repeat(refine And.intro ?_ ?_;(focus((first|omega|exact⟨rfl,True.intro⟩|exact⟨rfl,rfl,True.intro⟩|rfl|(simp only[List.length_set];first|omega|(refine⟨?_,?_⟩<;>omega)|(refine⟨?_,?_,?_⟩<;>omega))|(intro hg;(try simp only[bB]at hg);first|omega|(refine⟨?_,?_⟩<;>omega)|(refine⟨?_,?_,?_⟩<;>first|omega|(show _<_;(try simp only[List.length_set]);omega)|exact leT rfl))|(refine⟨?_,?_⟩<;>omega)|(refine⟨?_,?_,?_⟩<;>first|omega|(show _<_;(try simp only[List.length_set]);omega)|exact leT rfl)|(simp only[show rI.d=(0:Int)from rfl];omega));done));(conv=>whnf))))
        refine EvCall.rows (R := rF) (ty := 25) (xs := sortF [x.hi, y.hi]) Try.call32 (fun ρ W hp => sorted4_s _ [x.hi, y.hi] W (hp.lit (R := rF) (ys := [x.hi, y.hi]) (n := 3) rfl (by decide) (by simp) (by omega) rfl) (by simp) (all2 hx.2.1 hy.2.1)) (fun cd hq3 hq4 => ?_)
        ((conv=>whnf);(repeat(refine And.intro ?_ ?_;(focus((first|omega|exact⟨rfl,True.intro⟩|exact⟨rfl,rfl,True.intro⟩|rfl|(simp only[List.length_set];first|omega|(refine⟨?_,?_⟩<;>omega)|(refine⟨?_,?_,?_⟩<;>omega))|(intro hg;(try simp only[bB]at hg);first|omega|(refine⟨?_,?_⟩<;>omega)|(refine⟨?_,?_,?_⟩<;>first|omega|(show _<_;(try simp only[List.length_set]);omega)|exact leT rfl))|(refine⟨?_,?_⟩<;>omega)|(refine⟨?_,?_,?_⟩<;>first|omega|(show _<_;(try simp only[List.length_set]);omega)|exact leT rfl)|(simp only[show rI.d=(0:Int)from rfl];omega));done));(conv=>whnf))))
        refine Exists.intro () (And.intro trivial (Sub.of [(3, 5)] [] rfl ?_))
        ((repeat' (refine And.intro ?_ ?_)) <;> first | rfl | exact True.intro | omega)
      ((conv=>whnf);repeat(refine And.intro (by omega) ?_;(conv=>whnf)))
      refine EvCall.rows (R := rF) (ty := 25) (xs := sortF [x.lo, y.lo]) Try.call32 (fun ρ W hp => sorted4_s _ [x.lo, y.lo] W (hp.lit (R := rF) (ys := [x.lo, y.lo]) (n := 5) rfl (by decide) (by simp) (by omega) rfl) (by simp) (all2 hx.1 hy.1)) (fun cc hq1 hq2 => ?_)
      ((conv=>whnf);(repeat(refine And.intro ?_ ?_;(focus((first|omega|exact⟨rfl,True.intro⟩|exact⟨rfl,rfl,True.intro⟩|rfl|(simp only[List.length_set];first|omega|(refine⟨?_,?_⟩<;>omega)|(refine⟨?_,?_,?_⟩<;>omega))|(intro hg;(try simp only[bB]at hg);first|omega|(refine⟨?_,?_⟩<;>omega)|(refine⟨?_,?_,?_⟩<;>first|omega|(show _<_;(try simp only[List.length_set]);omega)|exact leT rfl))|(refine⟨?_,?_⟩<;>omega)|(refine⟨?_,?_,?_⟩<;>first|omega|(show _<_;(try simp only[List.length_set]);omega)|exact leT rfl)|(simp only[show rI.d=(0:Int)from rfl];omega));done));(conv=>whnf))))
      refine EvCall.rows (R := rF) (ty := 25) (xs := sortF [x.hi, y.hi]) Try.call32 (fun ρ W hp => sorted4_s _ [x.hi, y.hi] W (hp.lit (R := rF) (ys := [x.hi, y.hi]) (n := 3) rfl (by decide) (by simp) (by omega) rfl) (by simp) (all2 hx.2.1 hy.2.1)) (fun cd hq3 hq4 => ?_)
      ((conv=>whnf);(repeat(refine And.intro ?_ ?_;(focus((first|omega|exact⟨rfl,True.intro⟩|exact⟨rfl,rfl,True.intro⟩|rfl|(simp only[List.length_set];first|omega|(refine⟨?_,?_⟩<;>omega)|(refine⟨?_,?_,?_⟩<;>omega))|(intro hg;(try simp only[bB]at hg);first|omega|(refine⟨?_,?_⟩<;>omega)|(refine⟨?_,?_,?_⟩<;>first|omega|(show _<_;(try simp only[List.length_set]);omega)|exact leT rfl))|(refine⟨?_,?_⟩<;>omega)|(refine⟨?_,?_,?_⟩<;>first|omega|(show _<_;(try simp only[List.length_set]);omega)|exact leT rfl)|(simp only[show rI.d=(0:Int)from rfl];omega));done));(conv=>whnf))))
      refine Exists.intro () (And.intro trivial (Sub.of [(3, 4)] [] rfl ?_))
      ((repeat' (refine And.intro ?_ ?_)) <;> first | rfl | exact True.intro | omega)
    ((conv=>whnf);repeat(refine And.intro (by omega) ?_;(conv=>whnf)))
    refine And.intro ?_ ?_
    · ((conv=>whnf);repeat(refine And.intro (by omega) ?_;(conv=>whnf)))
      refine And.intro ?_ ?_
      · ((conv=>whnf);repeat(refine And.intro (by omega) ?_;(conv=>whnf)))
        refine EvCall.rows (R := rF) (ty := 25) (xs := sortF [x.lo, y.lo]) Try.call32 (fun ρ W hp => sorted4_s _ [x.lo, y.lo] W (hp.lit (R := rF) (ys := [x.lo, y.lo]) (n := 4) rfl (by decide) (by simp) (by omega) rfl) (by simp) (all2 hx.1 hy.1)) (fun cc hq1 hq2 => ?_)
        ((conv=>whnf);(repeat(refine And.intro ?_ ?_;(focus((first|omega|exact⟨rfl,True.intro⟩|exact⟨rfl,rfl,True.intro⟩|rfl|(simp only[List.length_set];first|omega|(refine⟨?_,?_⟩<;>omega)|(refine⟨?_,?_,?_⟩<;>omega))|(intro hg;(try simp only[bB]at hg);first|omega|(refine⟨?_,?_⟩<;>omega)|(refine⟨?_,?_,?_⟩<;>first|omega|(show _<_;(try simp only[List.length_set]);omega)|exact leT rfl))|(refine⟨?_,?_⟩<;>omega)|(refine⟨?_,?_,?_⟩<;>first|omega|(show _<_;(try simp only[List.length_set]);omega)|exact leT rfl)|(simp only[show rI.d=(0:Int)from rfl];omega));done));(conv=>whnf))))
        refine EvCall.rows (R := rF) (ty := 25) (xs := sortF [x.hi, y.hi]) Try.call32 (fun ρ W hp => sorted4_s _ [x.hi, y.hi] W (hp.lit (R := rF) (ys := [x.hi, y.hi]) (n := 6) rfl (by decide) (by simp) (by omega) rfl) (by simp) (all2 hx.2.1 hy.2.1)) (fun cd hq3 hq4 => ?_)
        ((conv=>whnf);(repeat(refine And.intro ?_ ?_;(focus((first|omega|exact⟨rfl,True.intro⟩|exact⟨rfl,rfl,True.intro⟩|rfl|(simp only[List.length_set];first|omega|(refine⟨?_,?_⟩<;>omega)|(refine⟨?_,?_,?_⟩<;>omega))|(intro hg;(try simp only[bB]at hg);first|omega|(refine⟨?_,?_⟩<;>omega)|(refine⟨?_,?_,?_⟩<;>first|omega|(show _<_;(try simp only[List.length_set]);omega)|exact leT rfl))|(refine⟨?_,?_⟩<;>omega)|(refine⟨?_,?_,?_⟩<;>first|omega|(show _<_;(try simp only[List.length_set]);omega)|exact leT rfl)|(simp only[show rI.d=(0:Int)from rfl];omega));done));(conv=>whnf))))
        refine Exists.intro () (And.intro trivial (Sub.of [] [] rfl ?_))
        ((repeat' (refine And.intro ?_ ?_)) <;> first | rfl | exact True.intro | omega)
      ((conv=>whnf);repeat(refine And.intro (by omega) ?_;(conv=>whnf)))
      refine EvCall.rows (R := rF) (ty := 25) (xs := sortF [x.lo, y.lo]) Try.call32 (fun ρ W hp => sorted4_s _ [x.lo, y.lo] W (hp.lit (R := rF) (ys := [x.lo, y.lo]) (n := 4) rfl (by decide) (by simp) (by omega) rfl) (by simp) (all2 hx.1 hy.1)) (fun cc hq1 hq2 => ?_)
      ((conv=>whnf);(repeat(refine And.intro ?_ ?_;(focus((first|omega|exact⟨rfl,True.intro⟩|exact⟨rfl,rfl,True.intro⟩|rfl|(simp only[List.length_set];first|omega|(refine⟨?_,?_⟩<;>omega)|(refine⟨?_,?_,?_⟩<;>omega))|(intro hg;(try simp only[bB]at hg);first|omega|(refine⟨?_,?_⟩<;>omega)|(refine⟨?_,?_,?_⟩<;>first|omega|(show _<_;(try simp only[List.length_set]);omega)|exact leT rfl))|(refine⟨?_,?_⟩<;>omega)|(refine⟨?_,?_,?_⟩<;>first|omega|(show _<_;(try simp only[List.length_set]);omega)|exact leT rfl)|(simp only[show rI.d=(0:Int)from rfl];omega));done));(conv=>whnf))))
      refine EvCall.rows (R := rF) (ty := 25) (xs := sortF [x.hi, y.hi]) Try.call32 (fun ρ W hp => sorted4_s _ [x.hi, y.hi] W (hp.lit (R := rF) (ys := [x.hi, y.hi]) (n := 5) rfl (by decide) (by simp) (by omega) rfl) (by simp) (all2 hx.2.1 hy.2.1)) (fun cd hq3 hq4 => ?_)
      ((conv=>whnf);(repeat(refine And.intro ?_ ?_;(focus((first|omega|exact⟨rfl,True.intro⟩|exact⟨rfl,rfl,True.intro⟩|rfl|(simp only[List.length_set];first|omega|(refine⟨?_,?_⟩<;>omega)|(refine⟨?_,?_,?_⟩<;>omega))|(intro hg;(try simp only[bB]at hg);first|omega|(refine⟨?_,?_⟩<;>omega)|(refine⟨?_,?_,?_⟩<;>first|omega|(show _<_;(try simp only[List.length_set]);omega)|exact leT rfl))|(refine⟨?_,?_⟩<;>omega)|(refine⟨?_,?_,?_⟩<;>first|omega|(show _<_;(try simp only[List.length_set]);omega)|exact leT rfl)|(simp only[show rI.d=(0:Int)from rfl];omega));done));(conv=>whnf))))
      refine Exists.intro () (And.intro trivial (Sub.of [] [] rfl ?_))
      ((repeat' (refine And.intro ?_ ?_)) <;> first | rfl | exact True.intro | omega)
    ((conv=>whnf);repeat(refine And.intro (by omega) ?_;(conv=>whnf)))
    refine EvCall.rows (R := rF) (ty := 25) (xs := sortF [x.lo, y.lo]) Try.call32 (fun ρ W hp => sorted4_s _ [x.lo, y.lo] W (hp.lit (R := rF) (ys := [x.lo, y.lo]) (n := 5) rfl (by decide) (by simp) (by omega) rfl) (by simp) (all2 hx.1 hy.1)) (fun cc hq1 hq2 => ?_)
    ((conv=>whnf);(repeat(refine And.intro ?_ ?_;(focus((first|omega|exact⟨rfl,True.intro⟩|exact⟨rfl,rfl,True.intro⟩|rfl|(simp only[List.length_set];first|omega|(refine⟨?_,?_⟩<;>omega)|(refine⟨?_,?_,?_⟩<;>omega))|(intro hg;(try simp only[bB]at hg);first|omega|(refine⟨?_,?_⟩<;>omega)|(refine⟨?_,?_,?_⟩<;>first|omega|(show _<_;(try simp only[List.length_set]);omega)|exact leT rfl))|(refine⟨?_,?_⟩<;>omega)|(refine⟨?_,?_,?_⟩<;>first|omega|(show _<_;(try simp only[List.length_set]);omega)|exact leT rfl)|(simp only[show rI.d=(0:Int)from rfl];omega));done));(conv=>whnf))))
    refine EvCall.rows (R := rF) (ty := 25) (xs := sortF [x.hi, y.hi]) Try.call32 (fun ρ W hp => sorted4_s _ [x.hi, y.hi] W (hp.lit (R := rF) (ys := [x.hi, y.hi]) (n := 4) rfl (by decide) (by simp) (by omega) rfl) (by simp) (all2 hx.2.1 hy.2.1)) (fun cd hq3 hq4 => ?_)
    ((conv=>whnf);(repeat(refine And.intro ?_ ?_;(focus((first|omega|exact⟨rfl,True.intro⟩|exact⟨rfl,rfl,True.intro⟩|rfl|(simp only[List.length_set];first|omega|(refine⟨?_,?_⟩<;>omega)|(refine⟨?_,?_,?_⟩<;>omega))|(intro hg;(try simp only[bB]at hg);first|omega|(refine⟨?_,?_⟩<;>omega)|(refine⟨?_,?_,?_⟩<;>first|omega|(show _<_;(try simp only[List.length_set]);omega)|exact leT rfl))|(refine⟨?_,?_⟩<;>omega)|(refine⟨?_,?_,?_⟩<;>first|omega|(show _<_;(try simp only[List.length_set]);omega)|exact leT rfl)|(simp only[show rI.d=(0:Int)from rfl];omega));done));(conv=>whnf))))
    refine Exists.intro () (And.intro trivial (Sub.of [] [] rfl ?_))
    ((repeat' (refine And.intro ?_ ?_)) <;> first | rfl | exact True.intro | omega)
  intro _ _
  rw [r1, r2]
  ((conv=>whnf);repeat(refine And.intro (by omega) ?_;(conv=>whnf)))
  refine EvCall.plain Try.call61 (.v (.int .i64 (cmpF (greF x.lo y.lo) (lesF x.hi y.hi)))) rfl (fun ρ W hp => compare3_s _ _ W v1.inF v2.inF) ?_
  ((conv=>whnf);repeat(refine And.intro (by omega) ?_;(conv=>whnf)))
  refine EvIf.split (fun g3 => ?_) (fun g3 => ?_)
  · have g4 := of_decide_eq_true g3
    ((conv=>whnf);repeat(refine And.intro (by omega) ?_;(conv=>whnf)))
    exact EvRet.ret (fun _ => by unfold imeetF; rw [g2, if_pos rfl, if_pos g4]; rfl)
  · have g4 := of_decide_eq_false g3
    ((conv=>whnf);repeat(refine And.intro (by omega) ?_;(conv=>whnf)))
    exact EvRet.ret (fun _ => by unfold imeetF; rw [g2, if_pos rfl, if_neg g4]; rfl)
set_option maxRecDepth 10000 in
theorem cont4_s (x : Iv) (a : Fq) (w : World) (rx : inI x) (ra : inF a) : Con Try.prog 43 #[iV x, fV a] w (Ret w (.bool (contB x a))) := by
  refine enter tabOk mixed Try.func43 rfl Try.ntmps43 Try.results43 [.a (iS x), .a (fS a)] (fun _ => none) [] 0 rfl rfl (hp0 _ _ _) ?_
  ((conv=>whnf);repeat(refine And.intro (by omega) ?_;(conv=>whnf)))
  refine EvCall.plain Try.call25 (.v (.bool (ivB x))) rfl (fun ρ W hp => ivalid4_s x W rx) ?_
  ((conv=>whnf);repeat(refine And.intro (by omega) ?_;(conv=>whnf)))
  refine EvCall.plain Try.call26 (.v (.bool (vB a))) rfl (fun ρ W hp => valid3_s a W ra) ?_
  ((conv=>whnf);repeat(refine And.intro (by omega) ?_;(conv=>whnf)))
  refine EvCallC.plain Try.call61 (.v (.int .i64 (cmpF x.lo a))) rfl (fun _ ρ W hp => compare3_s x.lo a W rx.1 ra) ?_
  ((conv=>whnf);repeat(refine And.intro (by omega) ?_;(conv=>whnf)))
  refine EvCallC.plain Try.call61 (.v (.int .i64 (cmpF a x.hi))) rfl (fun _ ρ W hp => compare3_s a x.hi W ra rx.2) ?_
  ((conv=>whnf);repeat(refine And.intro (by omega) ?_;(conv=>whnf)))
  exact ret_bool rfl
theorem with_cont (x y : Iv) : withB x y = ((ivB x && contB y x.lo) && contB y x.hi) := by
  rw [Bool.eq_iff_iff]
  unfold withB contB
  simp only [Bool.and_eq_true, decide_eq_true_eq, ivB_iff, vB_iff]
  constructor
  · rintro ⟨⟨⟨h1, h2⟩, h3⟩, h4⟩
    exact ⟨⟨h1, ⟨⟨h2, h1.1⟩, h3⟩, cmpF_trans h1.1 h1.2.1 h2.2.1 h1.2.2 h4⟩, ⟨⟨h2, h1.2.1⟩, cmpF_trans h2.1 h1.1 h1.2.1 h3 h1.2.2⟩, h4⟩
  · rintro ⟨⟨h1, ⟨⟨h2, _⟩, h3⟩, _⟩, ⟨⟨_, _⟩, _⟩, h4⟩
    exact ⟨⟨⟨h1, h2⟩, h3⟩, h4⟩
set_option maxRecDepth 10000 in
theorem with4_s (x y : Iv) (w : World) (rx : inI x) (ry : inI y) : Con Try.prog 42 #[iV x, iV y] w (Ret w (.bool (withB x y))) := by
  refine enter tabOk mixed Try.func42 rfl Try.ntmps42 Try.results42 [.a (iS x), .a (iS y)] (fun _ => none) [] 0 rfl rfl (hp0 _ _ _) ?_
  ((conv=>whnf);repeat(refine And.intro (by omega) ?_;(conv=>whnf)))
  refine EvCall.plain Try.call25 (.v (.bool (ivB x))) rfl (fun ρ W hp => ivalid4_s x W rx) ?_
  ((conv=>whnf);repeat(refine And.intro (by omega) ?_;(conv=>whnf)))
  refine EvCall.plain Try.call43 (.v (.bool (contB y x.lo))) rfl (fun ρ W hp => cont4_s y x.lo W ry rx.1) ?_
  ((conv=>whnf);repeat(refine And.intro (by omega) ?_;(conv=>whnf)))
  refine EvCall.plain Try.call43 (.v (.bool (contB y x.hi))) rfl (fun ρ W hp => cont4_s y x.hi W ry rx.2) ?_
  ((conv=>whnf);repeat(refine And.intro (by omega) ?_;(conv=>whnf)))
  exact ret_bool (with_cont x y)
end Go.Proofs.Ythknflclfmnciaa
