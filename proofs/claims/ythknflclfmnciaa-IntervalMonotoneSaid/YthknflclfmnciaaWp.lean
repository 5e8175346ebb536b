
/- The reference's Do, walked; the law IntervalArithmetic. -/
import Derived.Test.YthknflclfmnciaaWl
import Derived.Test.YthknflclfmnciaaWo
import Derived.Test.YthknflclfmnciaaUb
namespace Go.Proofs.Ythknflclfmnciaa
open Go.RowKit
set_option linter.unusedVariables false
set_option linter.unusedSimpArgs false

theorem lhs4_in {x : Iv} (h : inI x) {i : Nat} (hi : i < 4) : inF ((lhs4 x).getD i fr0) := by
  rcases lhs4_mem x hi with e | e <;> rw [e]
  · exact h.1
  · exact h.2
theorem rhs4_in {y : Iv} (op : Nat) (h : inI y) {i : Nat} (hi : i < 4) : inF ((rhs4 op y).getD i fr0) := by
  rcases rhs4_mem op y hi with e | e <;> rw [e]
  · exact h.1
  · exact h.2
set_option maxRecDepth 10000 in
theorem doR_0 (x y : Iv) (w : World) (rx : inI x) (ry : inI y) : Con Try.prog 49 #[.int .i64 0, iV x, iV y] w (Ret w (ieV (iopF 0 x y))) := by
  obtain ⟨n4, hn4⟩ : ∃ k, ((0 : Nat)) = k := ⟨_, rfl⟩
  refine enter tabOk mixed Try.func49 rfl Try.ntmps49 Try.results49 [.v (.int .i64 0), .a (iS x), .a (iS y)] (fun _ => none) [] 0 rfl rfl (hp0 _ _ _) ?_
  ((conv=>whnf);repeat(refine And.intro (by omega) ?_;(conv=>whnf)))
  refine EvCall.plain Try.call66 (.v (.bool (ivB x && ivB y))) rfl (fun ρ W hp => both4_s x y W rx ry) ?_
  ((conv=>whnf);repeat(refine And.intro (by omega) ?_;(conv=>whnf)))
  refine EvIf.split (fun g1 => ?_) (fun g1 => ?_)
  · have g2 : (ivB x && ivB y) = false := by rw [Bool.not_eq_true'] at g1; exact g1
    ((conv=>whnf);repeat(refine And.intro (by omega) ?_;(conv=>whnf)))
    exact EvRet.ret (fun _ => by simp only [iopF]; unfold iaddF; rw [g2]; rfl)
  have g2 : (ivB x && ivB y) = true := by rw [Bool.not_eq_false'] at g1; exact g1
  obtain ⟨hx, hy⟩ := both_v g2
  ((conv=>whnf);repeat(refine And.intro (by omega) ?_;(conv=>whnf)))
  refine EvIf.neg rfl ?_
  have h0 : 3 ≤ n4 → Nz y := fun h3 => by rw [← hn4] at h3; omega
  obtain ⟨pe, pf⟩ := do_plain (op := 0) (by omega) hx hy (by rw [← hn4] at h0; exact h0)
  have hm4 : many4 0 = 2 := rfl
  rw [hm4] at pe pf
  ((conv=>whnf);repeat(refine And.intro (by omega) ?_;(conv=>whnf)))
  refine EvIf.neg rfl ?_
  ((conv=>whnf);repeat(refine And.intro (by omega) ?_;(conv=>whnf)))
  refine EvIf.pos rfl ?_
  ((conv=>whnf);repeat(refine And.intro (by omega) ?_;(conv=>whnf)))
  refine EvLoop.inv (α := Nat × Nat) (fun p => p.1 ≤ 2 ∧ p.1 ≤ p.2 ∧ p.2 ≤ 9223372036854775807 ∧ ∀ j, j < p.1 → (do4 0 x y j).2 = 0) (fun p => 2 - p.1) (fun p => [(0, [], .v (.int .i64 (0))), (4, [], .p 0 0), (5, [], .p 1 0), (6, [], .p 2 0), (7, [], .v (.int .i64 (0))), (9, [], .s 3 2 4 4), (10, [], .s 4 2 4 4), (11, [], .v (.int .i64 (2))), (12, [], .s 5 2 p.1 p.2), (13, [], .v (.int .i64 ((p.1 : Int))))])
    (fun p => [⟨5, true, 25, 2, p.2, .rows Fq rF (doL 0 x y p.1)⟩, ⟨3, true, 25, 2, 4, .rows Fq rF (lhs4 x)⟩, ⟨4, true, 25, 2, 4, .rows Fq rF (rhs4 0 y)⟩, ⟨0, true, 27, 4, 1, .cs (iS x)⟩, ⟨1, true, 27, 4, 1, .cs (iS y)⟩, ⟨2, true, 27, 4, 1, .cs (iS iv0)⟩]) 6 (0, 0) ⟨by omega, by omega, by decide, fun j hj => by omega⟩ (Sub.of [] [5] rfl ?_) ?_
  · (repeat' (refine And.intro ?_ ?_)) <;> first | rfl | exact True.intro | (intro ρ; rfl) | omega
  intro p ⟨q1, q2, q3, q4⟩
  have hl1 := lhs4_len x
  have hl2 := rhs4_len 0 y
  have hdl := doL_len 0 x y p.1
  ((conv=>whnf);repeat(refine And.intro (by omega) ?_;(conv=>whnf)))
  refine EvIf.split (fun g5 => ?_) (fun g5 => ?_)
  · have g6 : p.1 < 2 := by have := of_decide_eq_true g5; omega
    have ha := lhs4_in rx (i := p.1) (by omega)
    have hb := rhs4_in 0 ry (i := p.1) (by omega)
    have hap := fun W => apply_s 0 ((lhs4 x).getD p.1 fr0) ((rhs4 0 y).getD p.1 fr0) W (by omega) ha hb
    have hs := doL_snoc 0 x y p.1
    have hpe := pe p.1 g6
    have hq4 : (do4 0 x y p.1).2 = 0 → ∀ j, j < p.1 + 1 → (do4 0 x y j).2 = 0 := fun h j hj => by
      by_cases hjp : j = p.1
      · rw [hjp]; exact h
      · exact q4 j (by omega)
    change ∀ W, Con Try.prog _ _ W (Ret W (feV (do4 0 x y p.1))) at hap
    generalize do4 0 x y p.1 = r at *
    generalize doL 0 x y p.1 = dl at *
    generalize lhs4 x = Lx at *
    generalize rhs4 0 y = Ry at *
    ((conv=>whnf);repeat(refine And.intro (by omega) ?_;(conv=>whnf)))
    refine EvDraw.meet (.q 0 (.q 1 (.q 2 (.q 3 (.q 4 (.q 5 (.q 6 (.q 7 (.q 8 (.n 9 true (.q 10 (.q 11 (.q 12 (.n 13 false (.n 14 true (.q 15 (.z)) (.e)) (.e))))) (.n 13 false (.n 9 true (.q 10 (.q 11 (.q 12 (.n 14 true (.q 15 (.z)) (.e))))) (.e)) (.e)))))))))))) (by kernel_rfl) (α := Unit) (fun _ => True) (fun _ => [(0, [], .v (.int .i64 (0))), (4, [], .p 0 0), (5, [], .p 1 0), (6, [], .p 2 0), (7, [], .v (.int .i64 (0))), (9, [], .s 3 2 4 4), (10, [], .s 4 2 4 4), (11, [], .v (.int .i64 (2))), (12, [], .s 5 2 p.1 p.2), (13, [], .v (.int .i64 ((p.1 : Int)))), (14, [], .p 6 0), (15, [], .v (.int .i64 (r.2)))])
      (fun _ => [⟨5, true, 25, 2, p.2, .rows Fq rF (dl)⟩, ⟨3, true, 25, 2, 4, .rows Fq rF (Lx)⟩, ⟨4, true, 25, 2, 4, .rows Fq rF (Ry)⟩, ⟨0, true, 27, 4, 1, .cs (iS x)⟩, ⟨1, true, 27, 4, 1, .cs (iS y)⟩, ⟨2, true, 27, 4, 1, .cs (iS iv0)⟩, ⟨6, true, 25, 2, 1, .cs (fS r.1)⟩]) 7 ?_ ?_
    · ((conv=>whnf);(repeat(refine And.intro ?_ ?_;(focus((first|omega|exact⟨rfl,True.intro⟩|exact⟨rfl,rfl,True.intro⟩|rfl|(simp only[List.length_set];first|omega|(refine⟨?_,?_⟩<;>omega)|(refine⟨?_,?_,?_⟩<;>omega))|(intro hg;(try simp only[bB]at hg);first|omega|(refine⟨?_,?_⟩<;>omega)|(refine⟨?_,?_,?_⟩<;>first|omega|(show _<_;(try simp only[List.length_set]);omega)|exact leT rfl))|(refine⟨?_,?_⟩<;>omega)|(refine⟨?_,?_,?_⟩<;>first|omega|(show _<_;(try simp only[List.length_set]);omega)|exact leT rfl)|(simp only[show rI.d=(0:Int)from rfl];omega));done));(conv=>whnf))))
      refine And.intro ?_ ?_
      · ((conv=>whnf);repeat(refine And.intro (by omega) ?_;(conv=>whnf)))
        refine EvCall.plain Try.call50 (feS r) rfl (fun ρ W hp => by rw [feS_den]; exact hap W) ?_
        ((conv=>whnf);repeat(refine And.intro (by omega) ?_;(conv=>whnf)))
        refine Exists.intro () (And.intro trivial (Sub.of [] [] rfl ?_))
        ((repeat' (refine And.intro ?_ ?_)) <;> first | rfl | exact True.intro | omega)
      ((conv=>whnf);repeat(refine And.intro (by omega) ?_;(conv=>whnf)))
      refine EvCall.plain Try.call50 (feS r) rfl (fun ρ W hp => by rw [feS_den]; exact hap W) ?_
      ((conv=>whnf);repeat(refine And.intro (by omega) ?_;(conv=>whnf)))
      refine Exists.intro () (And.intro trivial (Sub.of [] [] rfl ?_))
      ((repeat' (refine And.intro ?_ ?_)) <;> first | rfl | exact True.intro | omega)
    intro _ _
    ((conv=>whnf);repeat(refine And.intro (by omega) ?_;(conv=>whnf)))
    refine EvIf.split (fun g7 => ?_) (fun g7 => ?_)
    · have g8 : r.2 ≠ 0 := by simpa using g7
      ((conv=>whnf);repeat(refine And.intro (by omega) ?_;(conv=>whnf)))
      exact EvRet.ret (fun _ => by rw [hpe g8]; rfl)
    have g8 : r.2 = 0 := by simpa using g7
    ((conv=>whnf);repeat(refine And.intro (by omega) ?_;(conv=>whnf)))
    refine EvBi.append (R := rF) (xs := dl) tyok49 rfl tyok25 rfl (by decide) rfl rfl (by rw [hdl]) (by rw [hdl]; exact q2) [r.1] (fun ρ W hp => hp.lit (R := rF) (ys := [r.1]) (n := 7) rfl (by decide) (by simp) (by omega) rfl) (by rw [hdl]; show (_ + 1) * 16 ≤ _; omega) (by rw [hdl]; show _ + 1 ≤ _; omega) (fun cc hq1 hq2 => ?_)
    ((conv=>whnf);repeat(refine And.intro (by omega) ?_;(conv=>whnf)))
    refine LoopI.back (p.1 + 1, cc) ⟨by show p.1 + 1 ≤ 2; omega, by simpa [hdl] using hq1, hq2, hq4 g8⟩ (by show 2 - (p.1 + 1) < 2 - p.1; omega) (Sub.of [(5, 8)] [] rfl ?_)
    (repeat' (refine And.intro ?_ ?_)) <;> first | rfl | exact True.intro | omega | exact congrArg (Ct.rows Fq rF) hs | exact congrArg (Ct.rows Fq rF) hs.symm | exact congrArg (· + 1) hdl.symm | exact congrArg (· + 1) hdl
  · have g6 : p.1 = 2 := by have := of_decide_eq_false g5; omega
    rw [g6] at q4 q2 hdl ⊢
    obtain ⟨pv, pz⟩ := pf q4
    generalize doL 0 x y 2 = dl at *
    generalize lhs4 x = Lx at *
    generalize rhs4 0 y = Ry at *
    ((conv=>whnf);repeat(refine And.intro (by omega) ?_;(conv=>whnf)))
    refine EvCall.plain Try.call55 (.a (iS ⟨(sortF dl).getD 0 fr0, (sortF dl).getD (2 - 1) fr0⟩)) rfl (fun ρ W hp => by
      rw [iS_den]
      have := hp.rowsIn (R := rF) (n := 5) (xs := dl) (c := p.2) rfl (by decide) (by omega) q3 2
      have h4 := from4_s _ dl W this (by omega) (by omega) pv
      rw [hdl] at h4 this
      exact h4) ?_
    ((conv=>whnf);repeat(refine And.intro (by omega) ?_;(conv=>whnf)))
    exact EvRet.ret (fun _ => by rw [pz]; rfl)
set_option maxRecDepth 10000 in
theorem doR_1 (x y : Iv) (w : World) (rx : inI x) (ry : inI y) : Con Try.prog 49 #[.int .i64 1, iV x, iV y] w (Ret w (ieV (iopF 1 x y))) := by
  obtain ⟨n4, hn4⟩ : ∃ k, ((1 : Nat)) = k := ⟨_, rfl⟩
  refine enter tabOk mixed Try.func49 rfl Try.ntmps49 Try.results49 [.v (.int .i64 1), .a (iS x), .a (iS y)] (fun _ => none) [] 0 rfl rfl (hp0 _ _ _) ?_
  ((conv=>whnf);repeat(refine And.intro (by omega) ?_;(conv=>whnf)))
  refine EvCall.plain Try.call66 (.v (.bool (ivB x && ivB y))) rfl (fun ρ W hp => both4_s x y W rx ry) ?_
  ((conv=>whnf);repeat(refine And.intro (by omega) ?_;(conv=>whnf)))
  refine EvIf.split (fun g1 => ?_) (fun g1 => ?_)
  · have g2 : (ivB x && ivB y) = false := by rw [Bool.not_eq_true'] at g1; exact g1
    ((conv=>whnf);repeat(refine And.intro (by omega) ?_;(conv=>whnf)))
    exact EvRet.ret (fun _ => by simp only [iopF]; unfold isubF; rw [g2]; rfl)
  have g2 : (ivB x && ivB y) = true := by rw [Bool.not_eq_false'] at g1; exact g1
  obtain ⟨hx, hy⟩ := both_v g2
  ((conv=>whnf);repeat(refine And.intro (by omega) ?_;(conv=>whnf)))
  refine EvIf.neg rfl ?_
  have h0 : 3 ≤ n4 → Nz y := fun h3 => by rw [← hn4] at h3; omega
  obtain ⟨pe, pf⟩ := do_plain (op := 1) (by omega) hx hy (by rw [← hn4] at h0; exact h0)
  have hm4 : many4 1 = 2 := rfl
  rw [hm4] at pe pf
  ((conv=>whnf);repeat(refine And.intro (by omega) ?_;(conv=>whnf)))
  refine EvIf.pos rfl ?_
  ((conv=>whnf);repeat(refine And.intro (by omega) ?_;(conv=>whnf)))
  refine EvIf.pos rfl ?_
  ((conv=>whnf);repeat(refine And.intro (by omega) ?_;(conv=>whnf)))
  refine EvLoop.inv (α := Nat × Nat) (fun p => p.1 ≤ 2 ∧ p.1 ≤ p.2 ∧ p.2 ≤ 9223372036854775807 ∧ ∀ j, j < p.1 → (do4 1 x y j).2 = 0) (fun p => 2 - p.1) (fun p => [(0, [], .v (.int .i64 (1))), (4, [], .p 0 0), (5, [], .p 1 0), (6, [], .p 2 0), (7, [], .v (.int .i64 (0))), (9, [], .s 3 2 4 4), (10, [], .s 5 2 4 4), (11, [], .v (.int .i64 (2))), (12, [], .s 6 2 p.1 p.2), (13, [], .v (.int .i64 ((p.1 : Int))))])
    (fun p => [⟨6, true, 25, 2, p.2, .rows Fq rF (doL 1 x y p.1)⟩, ⟨3, true, 25, 2, 4, .rows Fq rF (lhs4 x)⟩, ⟨5, true, 25, 2, 4, .rows Fq rF (rhs4 1 y)⟩, ⟨0, true, 27, 4, 1, .cs (iS x)⟩, ⟨1, true, 27, 4, 1, .cs (iS y)⟩, ⟨2, true, 27, 4, 1, .cs (iS iv0)⟩]) 7 (0, 0) ⟨by omega, by omega, by decide, fun j hj => by omega⟩ (Sub.of [] [6] rfl ?_) ?_
  · (repeat' (refine And.intro ?_ ?_)) <;> first | rfl | exact True.intro | (intro ρ; rfl) | omega
  intro p ⟨q1, q2, q3, q4⟩
  have hl1 := lhs4_len x
  have hl2 := rhs4_len 1 y
  have hdl := doL_len 1 x y p.1
  ((conv=>whnf);repeat(refine And.intro (by omega) ?_;(conv=>whnf)))
  refine EvIf.split (fun g5 => ?_) (fun g5 => ?_)
  · have g6 : p.1 < 2 := by have := of_decide_eq_true g5; omega
    have ha := lhs4_in rx (i := p.1) (by omega)
    have hb := rhs4_in 1 ry (i := p.1) (by omega)
    have hap := fun W => apply_s 1 ((lhs4 x).getD p.1 fr0) ((rhs4 1 y).getD p.1 fr0) W (by omega) ha hb
    have hs := doL_snoc 1 x y p.1
    have hpe := pe p.1 g6
    have hq4 : (do4 1 x y p.1).2 = 0 → ∀ j, j < p.1 + 1 → (do4 1 x y j).2 = 0 := fun h j hj => by
      by_cases hjp : j = p.1
      · rw [hjp]; exact h
      · exact q4 j (by omega)
    change ∀ W, Con Try.prog _ _ W (Ret W (feV (do4 1 x y p.1))) at hap
    generalize do4 1 x y p.1 = r at *
    generalize doL 1 x y p.1 = dl at *
    generalize lhs4 x = Lx at *
    generalize rhs4 1 y = Ry at *
    ((conv=>whnf);repeat(refine And.intro (by omega) ?_;(conv=>whnf)))
    refine EvDraw.meet (.q 0 (.q 1 (.q 2 (.q 3 (.q 4 (.q 5 (.q 6 (.q 7 (.q 8 (.n 9 true (.q 10 (.q 11 (.q 12 (.n 13 false (.n 14 true (.q 15 (.z)) (.e)) (.e))))) (.n 13 false (.n 9 true (.q 10 (.q 11 (.q 12 (.n 14 true (.q 15 (.z)) (.e))))) (.e)) (.e)))))))))))) (by kernel_rfl) (α := Unit) (fun _ => True) (fun _ => [(0, [], .v (.int .i64 (1))), (4, [], .p 0 0), (5, [], .p 1 0), (6, [], .p 2 0), (7, [], .v (.int .i64 (0))), (9, [], .s 3 2 4 4), (10, [], .s 5 2 4 4), (11, [], .v (.int .i64 (2))), (12, [], .s 6 2 p.1 p.2), (13, [], .v (.int .i64 ((p.1 : Int)))), (14, [], .p 7 0), (15, [], .v (.int .i64 (r.2)))])
      (fun _ => [⟨6, true, 25, 2, p.2, .rows Fq rF (dl)⟩, ⟨3, true, 25, 2, 4, .rows Fq rF (Lx)⟩, ⟨5, true, 25, 2, 4, .rows Fq rF (Ry)⟩, ⟨0, true, 27, 4, 1, .cs (iS x)⟩, ⟨1, true, 27, 4, 1, .cs (iS y)⟩, ⟨2, true, 27, 4, 1, .cs (iS iv0)⟩, ⟨7, true, 25, 2, 1, .cs (fS r.1)⟩]) 8 ?_ ?_
    · ((conv=>whnf);(repeat(refine And.intro ?_ ?_;(focus((first|omega|exact⟨rfl,True.intro⟩|exact⟨rfl,rfl,True.intro⟩|rfl|(simp only[List.length_set];first|omega|(refine⟨?_,?_⟩<;>omega)|(refine⟨?_,?_,?_⟩<;>omega))|(intro hg;(try simp only[bB]at hg);first|omega|(refine⟨?_,?_⟩<;>omega)|(refine⟨?_,?_,?_⟩<;>first|omega|(show _<_;(try simp only[List.length_set]);omega)|exact leT rfl))|(refine⟨?_,?_⟩<;>omega)|(refine⟨?_,?_,?_⟩<;>first|omega|(show _<_;(try simp only[List.length_set]);omega)|exact leT rfl)|(simp only[show rI.d=(0:Int)from rfl];omega));done));(conv=>whnf))))
      refine And.intro ?_ ?_
      · ((conv=>whnf);repeat(refine And.intro (by omega) ?_;(conv=>whnf)))
        refine EvCall.plain Try.call50 (feS r) rfl (fun ρ W hp => by rw [feS_den]; exact hap W) ?_
        ((conv=>whnf);repeat(refine And.intro (by omega) ?_;(conv=>whnf)))
        refine Exists.intro () (And.intro trivial (Sub.of [] [] rfl ?_))
        ((repeat' (refine And.intro ?_ ?_)) <;> first | rfl | exact True.intro | omega)
      ((conv=>whnf);repeat(refine And.intro (by omega) ?_;(conv=>whnf)))
      refine EvCall.plain Try.call50 (feS r) rfl (fun ρ W hp => by rw [feS_den]; exact hap W) ?_
      ((conv=>whnf);repeat(refine And.intro (by omega) ?_;(conv=>whnf)))
      refine Exists.intro () (And.intro trivial (Sub.of [] [] rfl ?_))
      ((repeat' (refine And.intro ?_ ?_)) <;> first | rfl | exact True.intro | omega)
    intro _ _
    ((conv=>whnf);repeat(refine And.intro (by omega) ?_;(conv=>whnf)))
    refine EvIf.split (fun g7 => ?_) (fun g7 => ?_)
    · have g8 : r.2 ≠ 0 := by simpa using g7
      ((conv=>whnf);repeat(refine And.intro (by omega) ?_;(conv=>whnf)))
      exact EvRet.ret (fun _ => by rw [hpe g8]; rfl)
    have g8 : r.2 = 0 := by simpa using g7
    ((conv=>whnf);repeat(refine And.intro (by omega) ?_;(conv=>whnf)))
    refine EvBi.append (R := rF) (xs := dl) tyok49 rfl tyok25 rfl (by decide) rfl rfl (by rw [hdl]) (by rw [hdl]; exact q2) [r.1] (fun ρ W hp => hp.lit (R := rF) (ys := [r.1]) (n := 8) rfl (by decide) (by simp) (by omega) rfl) (by rw [hdl]; show (_ + 1) * 16 ≤ _; omega) (by rw [hdl]; show _ + 1 ≤ _; omega) (fun cc hq1 hq2 => ?_)
    ((conv=>whnf);repeat(refine And.intro (by omega) ?_;(conv=>whnf)))
    refine LoopI.back (p.1 + 1, cc) ⟨by show p.1 + 1 ≤ 2; omega, by simpa [hdl] using hq1, hq2, hq4 g8⟩ (by show 2 - (p.1 + 1) < 2 - p.1; omega) (Sub.of [(6, 9)] [] rfl ?_)
    (repeat' (refine And.intro ?_ ?_)) <;> first | rfl | exact True.intro | omega | exact congrArg (Ct.rows Fq rF) hs | exact congrArg (Ct.rows Fq rF) hs.symm | exact congrArg (· + 1) hdl.symm | exact congrArg (· + 1) hdl
  · have g6 : p.1 = 2 := by have := of_decide_eq_false g5; omega
    rw [g6] at q4 q2 hdl ⊢
    obtain ⟨pv, pz⟩ := pf q4
    generalize doL 1 x y 2 = dl at *
    generalize lhs4 x = Lx at *
    generalize rhs4 1 y = Ry at *
    ((conv=>whnf);repeat(refine And.intro (by omega) ?_;(conv=>whnf)))
    refine EvCall.plain Try.call55 (.a (iS ⟨(sortF dl).getD 0 fr0, (sortF dl).getD (2 - 1) fr0⟩)) rfl (fun ρ W hp => by
      rw [iS_den]
      have := hp.rowsIn (R := rF) (n := 6) (xs := dl) (c := p.2) rfl (by decide) (by omega) q3 2
      have h4 := from4_s _ dl W this (by omega) (by omega) pv
      rw [hdl] at h4 this
      exact h4) ?_
    ((conv=>whnf);repeat(refine And.intro (by omega) ?_;(conv=>whnf)))
    exact EvRet.ret (fun _ => by rw [pz]; rfl)
set_option maxRecDepth 10000 in
theorem doR_2 (x y : Iv) (w : World) (rx : inI x) (ry : inI y) : Con Try.prog 49 #[.int .i64 2, iV x, iV y] w (Ret w (ieV (iopF 2 x y))) := by
  obtain ⟨n4, hn4⟩ : ∃ k, ((2 : Nat)) = k := ⟨_, rfl⟩
  refine enter tabOk mixed Try.func49 rfl Try.ntmps49 Try.results49 [.v (.int .i64 2), .a (iS x), .a (iS y)] (fun _ => none) [] 0 rfl rfl (hp0 _ _ _) ?_
  ((conv=>whnf);repeat(refine And.intro (by omega) ?_;(conv=>whnf)))
  refine EvCall.plain Try.call66 (.v (.bool (ivB x && ivB y))) rfl (fun ρ W hp => both4_s x y W rx ry) ?_
  ((conv=>whnf);repeat(refine And.intro (by omega) ?_;(conv=>whnf)))
  refine EvIf.split (fun g1 => ?_) (fun g1 => ?_)
  · have g2 : (ivB x && ivB y) = false := by rw [Bool.not_eq_true'] at g1; exact g1
    ((conv=>whnf);repeat(refine And.intro (by omega) ?_;(conv=>whnf)))
    exact EvRet.ret (fun _ => by simp only [iopF]; unfold imulF; rw [g2]; rfl)
  have g2 : (ivB x && ivB y) = true := by rw [Bool.not_eq_false'] at g1; exact g1
  obtain ⟨hx, hy⟩ := both_v g2
  ((conv=>whnf);repeat(refine And.intro (by omega) ?_;(conv=>whnf)))
  refine EvIf.neg rfl ?_
  have h0 : 3 ≤ n4 → Nz y := fun h3 => by rw [← hn4] at h3; omega
  obtain ⟨pe, pf⟩ := do_plain (op := 2) (by omega) hx hy (by rw [← hn4] at h0; exact h0)
  have hm4 : many4 2 = 4 := rfl
  rw [hm4] at pe pf
  ((conv=>whnf);repeat(refine And.intro (by omega) ?_;(conv=>whnf)))
  refine EvIf.neg rfl ?_
  ((conv=>whnf);repeat(refine And.intro (by omega) ?_;(conv=>whnf)))
  refine EvIf.neg rfl ?_
  ((conv=>whnf);repeat(refine And.intro (by omega) ?_;(conv=>whnf)))
  refine EvLoop.inv (α := Nat × Nat) (fun p => p.1 ≤ 4 ∧ p.1 ≤ p.2 ∧ p.2 ≤ 9223372036854775807 ∧ ∀ j, j < p.1 → (do4 2 x y j).2 = 0) (fun p => 4 - p.1) (fun p => [(0, [], .v (.int .i64 (2))), (4, [], .p 0 0), (5, [], .p 1 0), (6, [], .p 2 0), (7, [], .v (.int .i64 (0))), (9, [], .s 3 2 4 4), (10, [], .s 4 2 4 4), (11, [], .v (.int .i64 (4))), (12, [], .s 5 2 p.1 p.2), (13, [], .v (.int .i64 ((p.1 : Int))))])
    (fun p => [⟨5, true, 25, 2, p.2, .rows Fq rF (doL 2 x y p.1)⟩, ⟨3, true, 25, 2, 4, .rows Fq rF (lhs4 x)⟩, ⟨4, true, 25, 2, 4, .rows Fq rF (rhs4 2 y)⟩, ⟨0, true, 27, 4, 1, .cs (iS x)⟩, ⟨1, true, 27, 4, 1, .cs (iS y)⟩, ⟨2, true, 27, 4, 1, .cs (iS iv0)⟩]) 6 (0, 0) ⟨by omega, by omega, by decide, fun j hj => by omega⟩ (Sub.of [] [5] rfl ?_) ?_
  · (repeat' (refine And.intro ?_ ?_)) <;> first | rfl | exact True.intro | (intro ρ; rfl) | omega
  intro p ⟨q1, q2, q3, q4⟩
  have hl1 := lhs4_len x
  have hl2 := rhs4_len 2 y
  have hdl := doL_len 2 x y p.1
  ((conv=>whnf);repeat(refine And.intro (by omega) ?_;(conv=>whnf)))
  refine EvIf.split (fun g5 => ?_) (fun g5 => ?_)
  · have g6 : p.1 < 4 := by have := of_decide_eq_true g5; omega
    have ha := lhs4_in rx (i := p.1) (by omega)
    have hb := rhs4_in 2 ry (i := p.1) (by omega)
    have hap := fun W => apply_s 2 ((lhs4 x).getD p.1 fr0) ((rhs4 2 y).getD p.1 fr0) W (by omega) ha hb
    have hs := doL_snoc 2 x y p.1
    have hpe := pe p.1 g6
    have hq4 : (do4 2 x y p.1).2 = 0 → ∀ j, j < p.1 + 1 → (do4 2 x y j).2 = 0 := fun h j hj => by
      by_cases hjp : j = p.1
      · rw [hjp]; exact h
      · exact q4 j (by omega)
    change ∀ W, Con Try.prog _ _ W (Ret W (feV (do4 2 x y p.1))) at hap
    generalize do4 2 x y p.1 = r at *
    generalize doL 2 x y p.1 = dl at *
    generalize lhs4 x = Lx at *
    generalize rhs4 2 y = Ry at *
    ((conv=>whnf);repeat(refine And.intro (by omega) ?_;(conv=>whnf)))
    refine EvDraw.meet (.q 0 (.q 1 (.q 2 (.q 3 (.q 4 (.q 5 (.q 6 (.q 7 (.q 8 (.n 9 true (.q 10 (.q 11 (.q 12 (.n 13 false (.n 14 true (.q 15 (.z)) (.e)) (.e))))) (.n 13 false (.n 9 true (.q 10 (.q 11 (.q 12 (.n 14 true (.q 15 (.z)) (.e))))) (.e)) (.e)))))))))))) (by kernel_rfl) (α := Unit) (fun _ => True) (fun _ => [(0, [], .v (.int .i64 (2))), (4, [], .p 0 0), (5, [], .p 1 0), (6, [], .p 2 0), (7, [], .v (.int .i64 (0))), (9, [], .s 3 2 4 4), (10, [], .s 4 2 4 4), (11, [], .v (.int .i64 (4))), (12, [], .s 5 2 p.1 p.2), (13, [], .v (.int .i64 ((p.1 : Int)))), (14, [], .p 6 0), (15, [], .v (.int .i64 (r.2)))])
      (fun _ => [⟨5, true, 25, 2, p.2, .rows Fq rF (dl)⟩, ⟨3, true, 25, 2, 4, .rows Fq rF (Lx)⟩, ⟨4, true, 25, 2, 4, .rows Fq rF (Ry)⟩, ⟨0, true, 27, 4, 1, .cs (iS x)⟩, ⟨1, true, 27, 4, 1, .cs (iS y)⟩, ⟨2, true, 27, 4, 1, .cs (iS iv0)⟩, ⟨6, true, 25, 2, 1, .cs (fS r.1)⟩]) 7 ?_ ?_
    · ((conv=>whnf);(repeat(refine And.intro ?_ ?_;(focus((first|omega|exact⟨rfl,True.intro⟩|exact⟨rfl,rfl,True.intro⟩|rfl|(simp only[List.length_set];first|omega|(refine⟨?_,?_⟩<;>omega)|(refine⟨?_,?_,?_⟩<;>omega))|(intro hg;(try simp only[bB]at hg);first|omega|(refine⟨?_,?_⟩<;>omega)|(refine⟨?_,?_,?_⟩<;>first|omega|(show _<_;(try simp only[List.length_set]);omega)|exact leT rfl))|(refine⟨?_,?_⟩<;>omega)|(refine⟨?_,?_,?_⟩<;>first|omega|(show _<_;(try simp only[List.length_set]);omega)|exact leT rfl)|(simp only[show rI.d=(0:Int)from rfl];omega));done));(conv=>whnf))))
      refine And.intro ?_ ?_
      · ((conv=>whnf);repeat(refine And.intro (by omega) ?_;(conv=>whnf)))
        refine EvCall.plain Try.call50 (feS r) rfl (fun ρ W hp => by rw [feS_den]; exact hap W) ?_
        ((conv=>whnf);repeat(refine And.intro (by omega) ?_;(conv=>whnf)))
        refine Exists.intro () (And.intro trivial (Sub.of [] [] rfl ?_))
        ((repeat' (refine And.intro ?_ ?_)) <;> first | rfl | exact True.intro | omega)
      ((conv=>whnf);repeat(refine And.intro (by omega) ?_;(conv=>whnf)))
      refine EvCall.plain Try.call50 (feS r) rfl (fun ρ W hp => by rw [feS_den]; exact hap W) ?_
      ((conv=>whnf);repeat(refine And.intro (by omega) ?_;(conv=>whnf)))
      refine Exists.intro () (And.intro trivial (Sub.of [] [] rfl ?_))
      ((repeat' (refine And.intro ?_ ?_)) <;> first | rfl | exact True.intro | omega)
    intro _ _
    ((conv=>whnf);repeat(refine And.intro (by omega) ?_;(conv=>whnf)))
    refine EvIf.split (fun g7 => ?_) (fun g7 => ?_)
    · have g8 : r.2 ≠ 0 := by simpa using g7
      ((conv=>whnf);repeat(refine And.intro (by omega) ?_;(conv=>whnf)))
      exact EvRet.ret (fun _ => by rw [hpe g8]; rfl)
    have g8 : r.2 = 0 := by simpa using g7
    ((conv=>whnf);repeat(refine And.intro (by omega) ?_;(conv=>whnf)))
    refine EvBi.append (R := rF) (xs := dl) tyok49 rfl tyok25 rfl (by decide) rfl rfl (by rw [hdl]) (by rw [hdl]; exact q2) [r.1] (fun ρ W hp => hp.lit (R := rF) (ys := [r.1]) (n := 7) rfl (by decide) (by simp) (by omega) rfl) (by rw [hdl]; show (_ + 1) * 16 ≤ _; omega) (by rw [hdl]; show _ + 1 ≤ _; omega) (fun cc hq1 hq2 => ?_)
    ((conv=>whnf);repeat(refine And.intro (by omega) ?_;(conv=>whnf)))
    refine LoopI.back (p.1 + 1, cc) ⟨by show p.1 + 1 ≤ 4; omega, by simpa [hdl] using hq1, hq2, hq4 g8⟩ (by show 4 - (p.1 + 1) < 4 - p.1; omega) (Sub.of [(5, 8)] [] rfl ?_)
    (repeat' (refine And.intro ?_ ?_)) <;> first | rfl | exact True.intro | omega | exact congrArg (Ct.rows Fq rF) hs | exact congrArg (Ct.rows Fq rF) hs.symm | exact congrArg (· + 1) hdl.symm | exact congrArg (· + 1) hdl
  · have g6 : p.1 = 4 := by have := of_decide_eq_false g5; omega
    rw [g6] at q4 q2 hdl ⊢
    obtain ⟨pv, pz⟩ := pf q4
    generalize doL 2 x y 4 = dl at *
    generalize lhs4 x = Lx at *
    generalize rhs4 2 y = Ry at *
    ((conv=>whnf);repeat(refine And.intro (by omega) ?_;(conv=>whnf)))
    refine EvCall.plain Try.call55 (.a (iS ⟨(sortF dl).getD 0 fr0, (sortF dl).getD (4 - 1) fr0⟩)) rfl (fun ρ W hp => by
      rw [iS_den]
      have := hp.rowsIn (R := rF) (n := 5) (xs := dl) (c := p.2) rfl (by decide) (by omega) q3 2
      have h4 := from4_s _ dl W this (by omega) (by omega) pv
      rw [hdl] at h4 this
      exact h4) ?_
    ((conv=>whnf);repeat(refine And.intro (by omega) ?_;(conv=>whnf)))
    exact EvRet.ret (fun _ => by rw [pz]; rfl)
set_option maxRecDepth 10000 in
theorem doR_3 (x y : Iv) (w : World) (rx : inI x) (ry : inI y) : Con Try.prog 49 #[.int .i64 3, iV x, iV y] w (Ret w (ieV (iopF 3 x y))) := by
  obtain ⟨n4, hn4⟩ : ∃ k, ((3 : Nat)) = k := ⟨_, rfl⟩
  refine enter tabOk mixed Try.func49 rfl Try.ntmps49 Try.results49 [.v (.int .i64 3), .a (iS x), .a (iS y)] (fun _ => none) [] 0 rfl rfl (hp0 _ _ _) ?_
  ((conv=>whnf);repeat(refine And.intro (by omega) ?_;(conv=>whnf)))
  refine EvCall.plain Try.call66 (.v (.bool (ivB x && ivB y))) rfl (fun ρ W hp => both4_s x y W rx ry) ?_
  ((conv=>whnf);repeat(refine And.intro (by omega) ?_;(conv=>whnf)))
  refine EvIf.split (fun g1 => ?_) (fun g1 => ?_)
  · have g2 : (ivB x && ivB y) = false := by rw [Bool.not_eq_true'] at g1; exact g1
    ((conv=>whnf);repeat(refine And.intro (by omega) ?_;(conv=>whnf)))
    exact EvRet.ret (fun _ => by simp only [iopF]; unfold idivF; rw [g2]; rfl)
  have g2 : (ivB x && ivB y) = true := by rw [Bool.not_eq_false'] at g1; exact g1
  obtain ⟨hx, hy⟩ := both_v g2
  ((conv=>whnf);repeat(refine And.intro (by omega) ?_;(conv=>whnf)))
  refine EvIf.split (fun g3 => ?_) (fun g3 => ?_)
  · have g4 : y.lo.n ≤ 0 ∧ 0 ≤ y.hi.n := by simpa using g3
    ((conv=>whnf);repeat(refine And.intro (by omega) ?_;(conv=>whnf)))
    exact EvRet.ret (fun _ => by simp only [iopF]; unfold idivF; rw [g2, if_pos rfl, if_pos g4]; rfl)
  have h0 : 3 ≤ n4 → Nz y := fun _ h => by
    have h5 := h.1
    have h6 := h.2
    simp [h5, h6] at g3
    try omega
  obtain ⟨pe, pf⟩ := do_plain (op := 3) (by omega) hx hy (by rw [← hn4] at h0; exact h0)
  have hm4 : many4 3 = 4 := rfl
  rw [hm4] at pe pf
  ((conv=>whnf);repeat(refine And.intro (by omega) ?_;(conv=>whnf)))
  refine EvIf.neg rfl ?_
  ((conv=>whnf);repeat(refine And.intro (by omega) ?_;(conv=>whnf)))
  refine EvIf.neg rfl ?_
  ((conv=>whnf);repeat(refine And.intro (by omega) ?_;(conv=>whnf)))
  refine EvLoop.inv (α := Nat × Nat) (fun p => p.1 ≤ 4 ∧ p.1 ≤ p.2 ∧ p.2 ≤ 9223372036854775807 ∧ ∀ j, j < p.1 → (do4 3 x y j).2 = 0) (fun p => 4 - p.1) (fun p => [(0, [], .v (.int .i64 (3))), (4, [], .p 0 0), (5, [], .p 1 0), (6, [], .p 2 0), (7, [], .v (.int .i64 (0))), (9, [], .s 3 2 4 4), (10, [], .s 4 2 4 4), (11, [], .v (.int .i64 (4))), (12, [], .s 5 2 p.1 p.2), (13, [], .v (.int .i64 ((p.1 : Int))))])
    (fun p => [⟨5, true, 25, 2, p.2, .rows Fq rF (doL 3 x y p.1)⟩, ⟨3, true, 25, 2, 4, .rows Fq rF (lhs4 x)⟩, ⟨4, true, 25, 2, 4, .rows Fq rF (rhs4 3 y)⟩, ⟨0, true, 27, 4, 1, .cs (iS x)⟩, ⟨1, true, 27, 4, 1, .cs (iS y)⟩, ⟨2, true, 27, 4, 1, .cs (iS iv0)⟩]) 6 (0, 0) ⟨by omega, by omega, by decide, fun j hj => by omega⟩ (Sub.of [] [5] rfl ?_) ?_
  · (repeat' (refine And.intro ?_ ?_)) <;> first | rfl | exact True.intro | (intro ρ; rfl) | omega
  intro p ⟨q1, q2, q3, q4⟩
  have hl1 := lhs4_len x
  have hl2 := rhs4_len 3 y
  have hdl := doL_len 3 x y p.1
  ((conv=>whnf);repeat(refine And.intro (by omega) ?_;(conv=>whnf)))
  refine EvIf.split (fun g5 => ?_) (fun g5 => ?_)
  · have g6 : p.1 < 4 := by have := of_decide_eq_true g5; omega
    have ha := lhs4_in rx (i := p.1) (by omega)
    have hb := rhs4_in 3 ry (i := p.1) (by omega)
    have hap := fun W => apply_s 3 ((lhs4 x).getD p.1 fr0) ((rhs4 3 y).getD p.1 fr0) W (by omega) ha hb
    have hs := doL_snoc 3 x y p.1
    have hpe := pe p.1 g6
    have hq4 : (do4 3 x y p.1).2 = 0 → ∀ j, j < p.1 + 1 → (do4 3 x y j).2 = 0 := fun h j hj => by
      by_cases hjp : j = p.1
      · rw [hjp]; exact h
      · exact q4 j (by omega)
    change ∀ W, Con Try.prog _ _ W (Ret W (feV (do4 3 x y p.1))) at hap
    generalize do4 3 x y p.1 = r at *
    generalize doL 3 x y p.1 = dl at *
    generalize lhs4 x = Lx at *
    generalize rhs4 3 y = Ry at *
    ((conv=>whnf);repeat(refine And.intro (by omega) ?_;(conv=>whnf)))
    refine EvDraw.meet (.q 0 (.q 1 (.q 2 (.q 3 (.q 4 (.q 5 (.q 6 (.q 7 (.q 8 (.n 9 true (.q 10 (.q 11 (.q 12 (.n 13 false (.n 14 true (.q 15 (.z)) (.e)) (.e))))) (.n 13 false (.n 9 true (.q 10 (.q 11 (.q 12 (.n 14 true (.q 15 (.z)) (.e))))) (.e)) (.e)))))))))))) (by kernel_rfl) (α := Unit) (fun _ => True) (fun _ => [(0, [], .v (.int .i64 (3))), (4, [], .p 0 0), (5, [], .p 1 0), (6, [], .p 2 0), (7, [], .v (.int .i64 (0))), (9, [], .s 3 2 4 4), (10, [], .s 4 2 4 4), (11, [], .v (.int .i64 (4))), (12, [], .s 5 2 p.1 p.2), (13, [], .v (.int .i64 ((p.1 : Int)))), (14, [], .p 6 0), (15, [], .v (.int .i64 (r.2)))])
      (fun _ => [⟨5, true, 25, 2, p.2, .rows Fq rF (dl)⟩, ⟨3, true, 25, 2, 4, .rows Fq rF (Lx)⟩, ⟨4, true, 25, 2, 4, .rows Fq rF (Ry)⟩, ⟨0, true, 27, 4, 1, .cs (iS x)⟩, ⟨1, true, 27, 4, 1, .cs (iS y)⟩, ⟨2, true, 27, 4, 1, .cs (iS iv0)⟩, ⟨6, true, 25, 2, 1, .cs (fS r.1)⟩]) 7 ?_ ?_
    · ((conv=>whnf);(repeat(refine And.intro ?_ ?_;(focus((first|omega|exact⟨rfl,True.intro⟩|exact⟨rfl,rfl,True.intro⟩|rfl|(simp only[List.length_set];first|omega|(refine⟨?_,?_⟩<;>omega)|(refine⟨?_,?_,?_⟩<;>omega))|(intro hg;(try simp only[bB]at hg);first|omega|(refine⟨?_,?_⟩<;>omega)|(refine⟨?_,?_,?_⟩<;>first|omega|(show _<_;(try simp only[List.length_set]);omega)|exact leT rfl))|(refine⟨?_,?_⟩<;>omega)|(refine⟨?_,?_,?_⟩<;>first|omega|(show _<_;(try simp only[List.length_set]);omega)|exact leT rfl)|(simp only[show rI.d=(0:Int)from rfl];omega));done));(conv=>whnf))))
      refine And.intro ?_ ?_
      · ((conv=>whnf);repeat(refine And.intro (by omega) ?_;(conv=>whnf)))
        refine EvCall.plain Try.call50 (feS r) rfl (fun ρ W hp => by rw [feS_den]; exact hap W) ?_
        ((conv=>whnf);repeat(refine And.intro (by omega) ?_;(conv=>whnf)))
        refine Exists.intro () (And.intro trivial (Sub.of [] [] rfl ?_))
        ((repeat' (refine And.intro ?_ ?_)) <;> first | rfl | exact True.intro | omega)
      ((conv=>whnf);repeat(refine And.intro (by omega) ?_;(conv=>whnf)))
      refine EvCall.plain Try.call50 (feS r) rfl (fun ρ W hp => by rw [feS_den]; exact hap W) ?_
      ((conv=>whnf);repeat(refine And.intro (by omega) ?_;(conv=>whnf)))
      refine Exists.intro () (And.intro trivial (Sub.of [] [] rfl ?_))
      ((repeat' (refine And.intro ?_ ?_)) <;> first | rfl | exact True.intro | omega)
    intro _ _
    ((conv=>whnf);repeat(refine And.intro (by omega) ?_;(conv=>whnf)))
    refine EvIf.split (fun g7 => ?_) (fun g7 => ?_)
    · have g8 : r.2 ≠ 0 := by simpa using g7
      ((conv=>whnf);repeat(refine And.intro (by omega) ?_;(conv=>whnf)))
      exact EvRet.ret (fun _ => by rw [hpe g8]; rfl)
    have g8 : r.2 = 0 := by simpa using g7
    ((conv=>whnf);repeat(refine And.intro (by omega) ?_;(conv=>whnf)))
    refine EvBi.append (R := rF) (xs := dl) tyok49 rfl tyok25 rfl (by decide) rfl rfl (by rw [hdl]) (by rw [hdl]; exact q2) [r.1] (fun ρ W hp => hp.lit (R := rF) (ys := [r.1]) (n := 7) rfl (by decide) (by simp) (by omega) rfl) (by rw [hdl]; show (_ + 1) * 16 ≤ _; omega) (by rw [hdl]; show _ + 1 ≤ _; omega) (fun cc hq1 hq2 => ?_)
    ((conv=>whnf);repeat(refine And.intro (by omega) ?_;(conv=>whnf)))
    refine LoopI.back (p.1 + 1, cc) ⟨by show p.1 + 1 ≤ 4; omega, by simpa [hdl] using hq1, hq2, hq4 g8⟩ (by show 4 - (p.1 + 1) < 4 - p.1; omega) (Sub.of [(5, 8)] [] rfl ?_)
    (repeat' (refine And.intro ?_ ?_)) <;> first | rfl | exact True.intro | omega | exact congrArg (Ct.rows Fq rF) hs | exact congrArg (Ct.rows Fq rF) hs.symm | exact congrArg (· + 1) hdl.symm | exact congrArg (· + 1) hdl
  · have g6 : p.1 = 4 := by have := of_decide_eq_false g5; omega
    rw [g6] at q4 q2 hdl ⊢
    obtain ⟨pv, pz⟩ := pf q4
    generalize doL 3 x y 4 = dl at *
    generalize lhs4 x = Lx at *
    generalize rhs4 3 y = Ry at *
    ((conv=>whnf);repeat(refine And.intro (by omega) ?_;(conv=>whnf)))
    refine EvCall.plain Try.call55 (.a (iS ⟨(sortF dl).getD 0 fr0, (sortF dl).getD (4 - 1) fr0⟩)) rfl (fun ρ W hp => by
      rw [iS_den]
      have := hp.rowsIn (R := rF) (n := 5) (xs := dl) (c := p.2) rfl (by decide) (by omega) q3 2
      have h4 := from4_s _ dl W this (by omega) (by omega) pv
      rw [hdl] at h4 this
      exact h4) ?_
    ((conv=>whnf);repeat(refine And.intro (by omega) ?_;(conv=>whnf)))
    exact EvRet.ret (fun _ => by rw [pz]; rfl)
theorem doR_s (op : Nat) (x y : Iv) (w : World) (hop : op < 4) (rx : inI x) (ry : inI y) : Con Try.prog 49 #[.int .i64 (op : Int), iV x, iV y] w (Ret w (ieV (iopF op x y))) := by
  match op, hop with
  | 0, _ => exact doR_0 x y w rx ry
  | 1, _ => exact doR_1 x y w rx ry
  | 2, _ => exact doR_2 x y w rx ry
  | 3, _ => exact doR_3 x y w rx ry
set_option maxRecDepth 10000 in
theorem intervalarithmetic_s (x y : Iv) (w : World) (rx : inI x) (ry : inI y) : Con Try.prog 9 #[iV x, iV y] w (Ret w (.bool true)) := by
  refine enter tabOk mixed Try.func9 rfl Try.ntmps9 Try.results9 [.a (iS x), .a (iS y)] (fun _ => none) [] 0 rfl rfl (hp0 _ _ _) ?_
  ((conv=>whnf);repeat(refine And.intro (by omega) ?_;(conv=>whnf)))
  refine EvLoop.inv (α := Nat) (fun i => i ≤ 4) (fun i => 4 - i) (fun i => [(2, [], .p 0 0), (3, [], .p 1 0), (4, [], .v (.bool (false))), (5, [], .v (.int .i64 ((i : Int))))])
    (fun i => [⟨0, true, 27, 4, 1, .cs (iS x)⟩, ⟨1, true, 27, 4, 1, .cs (iS y)⟩]) 2 0 (by omega) (Sub.of [] [] rfl ?_) ?_
  · ((repeat' (refine And.intro ?_ ?_)) <;> first | rfl | exact True.intro | omega)
  intro i hi
  ((conv=>whnf);repeat(refine And.intro (by omega) ?_;(conv=>whnf)))
  refine EvIf.split (fun g1 => ?_) (fun g1 => ?_)
  · have g2 : i < 4 := by have := of_decide_eq_true g1; omega
    have h1 := fun W => do_s i x y W g2
    have h2 := fun W => doR_s i x y W g2 rx ry
    generalize iopF i x y = r at *
    ((conv=>whnf);repeat(refine And.intro (by omega) ?_;(conv=>whnf)))
    refine EvCall.plain Try.call48 (ieS r) rfl (fun ρ W hp => by rw [ieS_den]; exact h1 W) ?_
    ((conv=>whnf);repeat(refine And.intro (by omega) ?_;(conv=>whnf)))
    refine EvCall.plain Try.call49 (ieS r) rfl (fun ρ W hp => by rw [ieS_den]; exact h2 W) ?_
    ((conv=>whnf);repeat(refine And.intro (by omega) ?_;(conv=>whnf)))
    refine EvIf.neg (by simp) ?_
    ((conv=>whnf);repeat(refine And.intro (by omega) ?_;(conv=>whnf)))
    refine LoopI.back (i + 1) (by show i + 1 ≤ 4; omega) (by show 4 - (i + 1) < 4 - i; omega) (Sub.of [] [] rfl ?_)
    ((repeat' (refine And.intro ?_ ?_)) <;> first | rfl | exact True.intro | omega)
  · ((conv=>whnf);repeat(refine And.intro (by omega) ?_;(conv=>whnf)))
    refine EvCall.plain Try.call16 (.v (.bool true)) rfl (fun ρ W hp => lives_s W) ?_
    ((conv=>whnf);repeat(refine And.intro (by omega) ?_;(conv=>whnf)))
    exact ret_bool rfl
theorem walk_IntervalArithmetic (w : World) (x : Iv) (rx : inI x) (y : Iv) (ry : inI y) : Calls Try.prog 9 #[iV x, iV y] w fun e w' => e = .returned (.bool true) ∧ Below w.heap.size w w' := (intervalarithmetic_s x y w rx ry).out
end Go.Proofs.Ythknflclfmnciaa
