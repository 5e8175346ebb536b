
/- Lossy steps: Retain, Quantise, walked. -/
import Derived.Test.YtpnngbfmmjjnaaaLa
namespace Go.Proofs.Ytpnngbfmmjjnaaa
open Go.RowKit
set_option linter.unusedVariables false
set_option linter.unusedSimpArgs false

theorem take_one {α : Type} (l : List α) (i : Nat) (x : α) (h : i < l.length) : l.take (i + 1) = l.take i ++ [l.getD i x] := by
  rw [List.take_add_one]
  simp [List.getD_eq_getElem?_getD, h]
def keptL (e : Env12) (l : List Cl) (b : Int) : List Cl := l.filter (fun c => decide (b ≤ c.t)) ++ (if (atR e b).2.2 = 0 then [⟨b, b, (atR e b).1, (atR e b).2.1⟩] else [])
noncomputable def retR (d : Dc) (l : List Cl) (b : Int) : List Cl × Int × Int := if (newR d l).2 ≠ 0 then ([], 0, (newR d l).2) else if b < 0 ∨ 1048576 < b then ([], 0, 1) else finR d l (keptL (newR d l).1 l b)
theorem keptL_len (e : Env12) (l : List Cl) (b : Int) : (keptL e l b).length ≤ l.length + 1 := by
  unfold keptL
  have := List.length_filter_le (fun c : Cl => decide (b ≤ c.t)) l
  rw [List.length_append]
  split <;> simp <;> omega
set_option maxRecDepth 20000 in
theorem retain_s (V v : Value) (d : Dc) (l : List Cl) (b : Int) (w : World) (h : DeclIs w V d) (hI : DcI d) (hv : RowsIn rC w v l) (hl : l.length ≤ 999) :
    Con Try.prog 21 #[V, v, .int .i64 b] w (RetR3 rC 62 w (retR d l b).1 (retR d l b).2.1 (retR d l b).2.2) := by
  have hD := h
  obtain ⟨nm, A, c, lb, rfl, hnm, hlab, hSh⟩ := h
  obtain ⟨A1, c1, rfl, e1, e2⟩ := hv.form
  have hok := newR_ok (d := d) (l := l)
  have hkl := keptL_len (newR d l).1 l b
  unfold retR
  refine enter tabOk mixed Try.func21 rfl Try.ntmps21 Try.results21 [.a (dcS nm (.v (.slice A lb.length c)) d), .s 0 4 l.length c1, .v (.int .i64 b)] (fun _ => A1) [⟨0, false, 62, 4, c1, .rows Cl rC (l)⟩] 1 rfl rfl (.ro (hp0 _ _ _) _ rfl rfl rfl (ro_rows hv rfl _)) ?_
  ((conv=>whnf);(repeat(refine And.intro ?_ ?_;(focus((first|omega|exact⟨rfl,True.intro⟩|exact⟨rfl,rfl,True.intro⟩|rfl|(simp only[List.length_set];first|omega|(refine⟨?_,?_⟩<;>omega)|(refine⟨?_,?_,?_⟩<;>omega))|(intro hg;(try simp only[bB]at hg);first|omega|(refine⟨?_,?_⟩<;>omega)|(refine⟨?_,?_,?_⟩<;>first|omega|(show _<_;(try simp only[List.length_set]);omega)|exact leT rfl))|(refine⟨?_,?_⟩<;>omega)|(refine⟨?_,?_,?_⟩<;>first|omega|(show _<_;(try simp only[List.length_set]);omega)|exact leT rfl)|(simp only[show rI.d=(0:Int)from rfl];omega));done));(conv=>whnf))))
  refine EvCall.two (ty := 3) (xs := (newR d l).1.lo) (ys := (newR d l).1.hi) (envES (newR d l).1.f (newR d l).2) (envES_den _ _) (envES_lt _ _) Try.call14 (fun ρ W hp => new_s _ _ d l W (hD.below hp.bel) hI (hp.rowsIn (R := rC) (n := 0) (c := c1) rfl (by decide) e1 e2 4)) (fun p1 p2 q1 q2 q3 q4 => ?_)
  generalize newR d l = x at *
  ((conv=>whnf);(repeat(refine And.intro ?_ ?_;(focus((first|omega|exact⟨rfl,True.intro⟩|exact⟨rfl,rfl,True.intro⟩|rfl|(simp only[List.length_set];first|omega|(refine⟨?_,?_⟩<;>omega)|(refine⟨?_,?_,?_⟩<;>omega))|(intro hg;(try simp only[bB]at hg);first|omega|(refine⟨?_,?_⟩<;>omega)|(refine⟨?_,?_,?_⟩<;>first|omega|(show _<_;(try simp only[List.length_set]);omega)|exact leT rfl))|(refine⟨?_,?_⟩<;>omega)|(refine⟨?_,?_,?_⟩<;>first|omega|(show _<_;(try simp only[List.length_set]);omega)|exact leT rfl)|(simp only[show rI.d=(0:Int)from rfl];omega));done));(conv=>whnf))))
  refine EvIf.split (fun g => ?_) (fun g => ?_)
  · rw [if_pos (by simpa using g)]
    ((conv=>whnf);(repeat(refine And.intro ?_ ?_;(focus((first|omega|exact⟨rfl,True.intro⟩|exact⟨rfl,rfl,True.intro⟩|rfl|(simp only[List.length_set];first|omega|(refine⟨?_,?_⟩<;>omega)|(refine⟨?_,?_,?_⟩<;>omega))|(intro hg;(try simp only[bB]at hg);first|omega|(refine⟨?_,?_⟩<;>omega)|(refine⟨?_,?_,?_⟩<;>first|omega|(show _<_;(try simp only[List.length_set]);omega)|exact leT rfl))|(refine⟨?_,?_⟩<;>omega)|(refine⟨?_,?_,?_⟩<;>first|omega|(show _<_;(try simp only[List.length_set]);omega)|exact leT rfl)|(simp only[show rI.d=(0:Int)from rfl];omega));done));(conv=>whnf))))
    exact EvRet.rows3_nil rfl rfl rfl
  have g0 : x.2 = 0 := by simpa using g
  rw [if_neg (by simpa using g)]
  obtain ⟨hvc, hll, hlv, hoo, hxe⟩ := hok g0
  have hbd := valid_bounds hvc
  have hxf : x.1.f = d.first := by rw [hxe]
  ((conv=>whnf);(repeat(refine And.intro ?_ ?_;(focus((first|omega|exact⟨rfl,True.intro⟩|exact⟨rfl,rfl,True.intro⟩|rfl|(simp only[List.length_set];first|omega|(refine⟨?_,?_⟩<;>omega)|(refine⟨?_,?_,?_⟩<;>omega))|(intro hg;(try simp only[bB]at hg);first|omega|(refine⟨?_,?_⟩<;>omega)|(refine⟨?_,?_,?_⟩<;>first|omega|(show _<_;(try simp only[List.length_set]);omega)|exact leT rfl))|(refine⟨?_,?_⟩<;>omega)|(refine⟨?_,?_,?_⟩<;>first|omega|(show _<_;(try simp only[List.length_set]);omega)|exact leT rfl)|(simp only[show rI.d=(0:Int)from rfl];omega));done));(conv=>whnf))))
  refine EvIf.split (fun g1 => ?_) (fun g1 => ?_)
  · rw [if_pos (by simpa using g1)]
    ((conv=>whnf);(repeat(refine And.intro ?_ ?_;(focus((first|omega|exact⟨rfl,True.intro⟩|exact⟨rfl,rfl,True.intro⟩|rfl|(simp only[List.length_set];first|omega|(refine⟨?_,?_⟩<;>omega)|(refine⟨?_,?_,?_⟩<;>omega))|(intro hg;(try simp only[bB]at hg);first|omega|(refine⟨?_,?_⟩<;>omega)|(refine⟨?_,?_,?_⟩<;>first|omega|(show _<_;(try simp only[List.length_set]);omega)|exact leT rfl))|(refine⟨?_,?_⟩<;>omega)|(refine⟨?_,?_,?_⟩<;>first|omega|(show _<_;(try simp only[List.length_set]);omega)|exact leT rfl)|(simp only[show rI.d=(0:Int)from rfl];omega));done));(conv=>whnf))))
    exact EvRet.rows3_nil rfl rfl rfl
  rw [if_neg (by simpa using g1)]
  have g2 : 0 ≤ b ∧ b ≤ 1048576 := by
    simp only [Bool.or_eq_false_iff, decide_eq_false_iff_not] at g1
    omega
  obtain ⟨F, hF⟩ : ∃ F : List Cl → List Cl, F = fun m => m.filter (fun c => decide (b ≤ c.t)) := ⟨_, rfl⟩
  have hFl : ∀ m, (F m).length ≤ m.length := fun m => by rw [hF]; exact List.length_filter_le _ _
  ((conv=>whnf);(repeat(refine And.intro ?_ ?_;(focus((first|omega|exact⟨rfl,True.intro⟩|exact⟨rfl,rfl,True.intro⟩|rfl|(simp only[List.length_set];first|omega|(refine⟨?_,?_⟩<;>omega)|(refine⟨?_,?_,?_⟩<;>omega))|(intro hg;(try simp only[bB]at hg);first|omega|(refine⟨?_,?_⟩<;>omega)|(refine⟨?_,?_,?_⟩<;>first|omega|(show _<_;(try simp only[List.length_set]);omega)|exact leT rfl))|(refine⟨?_,?_⟩<;>omega)|(refine⟨?_,?_,?_⟩<;>first|omega|(show _<_;(try simp only[List.length_set]);omega)|exact leT rfl)|(simp only[show rI.d=(0:Int)from rfl];omega));done));(conv=>whnf))))
  refine EvLoop.inv (α := Nat × Nat) (fun p => p.1 ≤ l.length ∧ (F (l.take p.1)).length ≤ p.2 ∧ p.2 ≤ 9223372036854775807) (fun p => l.length - p.1) (fun p => [(34, [], .v (.int .i64 ((p.1 : Int)))), (33, [], .v (.int .i64 ((l.length : Int)))), (32, [], .s 0 4 l.length c1), (11, [], .s 5 4 (F (l.take p.1)).length p.2), (9, [], .p 4 0), (3, [], .p 1 0), (2, [], .v (.int .i64 (b))), (1, [], .s 0 4 l.length c1)])
    (fun p => [⟨5, true, 62, 4, p.2, .rows Cl rC (F (l.take p.1))⟩, ⟨4, true, 33, 3, 1, .cs [.v (.int .i64 x.1.f), .s 2 1 x.1.lo.length p1, .s 3 1 x.1.hi.length p2]⟩, ⟨3, true, 3, 1, p2, .rows Int rI x.1.hi⟩, ⟨2, true, 3, 1, p1, .rows Int rI x.1.lo⟩, ⟨1, true, 27, 12, 1, .cs (dcS nm (.v (.slice A lb.length c)) d)⟩, ⟨0, false, 62, 4, c1, .rows Cl rC l⟩]) 6 (0, 0) ⟨by simp, by rw [hF]; simp, by decide⟩ (Sub.of [] [5] rfl ?_) ?_
  · have hF0 : F [] = [] := by rw [hF]; rfl
    have hF1 : (F (l.take 0)) = [] := hF0
    (repeat' (refine And.intro ?_ ?_)) <;> first | rfl | exact True.intro | omega | (rw [hF1]; rfl) | (show _ = _ ; simp [hF0])
  intro p ⟨hi1, hi2, hi3⟩
  ((conv=>whnf);(repeat(refine And.intro ?_ ?_;(focus((first|omega|exact⟨rfl,True.intro⟩|exact⟨rfl,rfl,True.intro⟩|rfl|(simp only[List.length_set];first|omega|(refine⟨?_,?_⟩<;>omega)|(refine⟨?_,?_,?_⟩<;>omega))|(intro hg;(try simp only[bB]at hg);first|omega|(refine⟨?_,?_⟩<;>omega)|(refine⟨?_,?_,?_⟩<;>first|omega|(show _<_;(try simp only[List.length_set]);omega)|exact leT rfl))|(refine⟨?_,?_⟩<;>omega)|(refine⟨?_,?_,?_⟩<;>first|omega|(show _<_;(try simp only[List.length_set]);omega)|exact leT rfl)|(simp only[show rI.d=(0:Int)from rfl];omega));done));(conv=>whnf))))
  refine EvIf.split (fun g3 => ?_) (fun g3 => ?_)
  · simp only [decide_eq_true_eq] at g3
    have hlt : p.1 < l.length := by omega
    have ht1 := take_one l p.1 cl0 hlt
    have hfl := hFl (l.take p.1)
    have htl : (l.take p.1).length = p.1 := by rw [List.length_take]; omega
    have hFa : F (l.take (p.1 + 1)) = F (l.take p.1) ++ F [l.getD p.1 cl0] := by rw [ht1, hF]; exact List.filter_append ..
    ((conv=>whnf);(repeat(refine And.intro ?_ ?_;(focus((first|omega|exact⟨rfl,True.intro⟩|exact⟨rfl,rfl,True.intro⟩|rfl|(simp only[List.length_set];first|omega|(refine⟨?_,?_⟩<;>omega)|(refine⟨?_,?_,?_⟩<;>omega))|(intro hg;(try simp only[bB]at hg);first|omega|(refine⟨?_,?_⟩<;>omega)|(refine⟨?_,?_,?_⟩<;>first|omega|(show _<_;(try simp only[List.length_set]);omega)|exact leT rfl))|(refine⟨?_,?_⟩<;>omega)|(refine⟨?_,?_,?_⟩<;>first|omega|(show _<_;(try simp only[List.length_set]);omega)|exact leT rfl)|(simp only[show rI.d=(0:Int)from rfl];omega));done));(conv=>whnf))))
    refine EvIf.split (fun g4 => ?_) (fun g4 => ?_)
    · simp only [decide_eq_true_eq] at g4
      have hF1 : F [l.getD p.1 cl0] = [l.getD p.1 cl0] := by
        rw [hF]
        simp only [List.filter]
        rw [decide_eq_true (show b ≤ (l.getD p.1 cl0).t from g4)]
      rw [hF1] at hFa
      have hla : (F (l.take (p.1 + 1))).length = (F (l.take p.1)).length + 1 := by rw [hFa, List.length_append]; rfl
      ((conv=>whnf);(repeat(refine And.intro ?_ ?_;(focus((first|omega|exact⟨rfl,True.intro⟩|exact⟨rfl,rfl,True.intro⟩|rfl|(simp only[List.length_set];first|omega|(refine⟨?_,?_⟩<;>omega)|(refine⟨?_,?_,?_⟩<;>omega))|(intro hg;(try simp only[bB]at hg);first|omega|(refine⟨?_,?_⟩<;>omega)|(refine⟨?_,?_,?_⟩<;>first|omega|(show _<_;(try simp only[List.length_set]);omega)|exact leT rfl))|(refine⟨?_,?_⟩<;>omega)|(refine⟨?_,?_,?_⟩<;>first|omega|(show _<_;(try simp only[List.length_set]);omega)|exact leT rfl)|(simp only[show rI.d=(0:Int)from rfl];omega));done));(conv=>whnf))))
      refine EvBi.append (R := rC) tyok29 rfl tyok62 rfl (by decide) rfl rfl rfl hi2 [l.getD p.1 cl0] (fun ρ W hp => hp.lit (R := rC) (ys := [l.getD p.1 cl0]) rfl (by decide) (by simp) (by omega) rfl) (by show (_ + 1) * 32 ≤ _; omega) (by show _ + 1 ≤ _; omega) (fun cap' hq1 hq2 => ?_)
      rw [← hFa]
      ((conv=>whnf);(repeat(refine And.intro ?_ ?_;(focus((first|omega|exact⟨rfl,True.intro⟩|exact⟨rfl,rfl,True.intro⟩|rfl|(simp only[List.length_set];first|omega|(refine⟨?_,?_⟩<;>omega)|(refine⟨?_,?_,?_⟩<;>omega))|(intro hg;(try simp only[bB]at hg);first|omega|(refine⟨?_,?_⟩<;>omega)|(refine⟨?_,?_,?_⟩<;>first|omega|(show _<_;(try simp only[List.length_set]);omega)|exact leT rfl))|(refine⟨?_,?_⟩<;>omega)|(refine⟨?_,?_,?_⟩<;>first|omega|(show _<_;(try simp only[List.length_set]);omega)|exact leT rfl)|(simp only[show rI.d=(0:Int)from rfl];omega));done));(conv=>whnf))))
      refine LoopI.back (p.1 + 1, cap') ⟨by show p.1 + 1 ≤ l.length; omega, by rw [hla]; exact hq1, hq2⟩ (by show l.length - (p.1 + 1) < l.length - p.1; omega) (Sub.of [(5, 8)] [] rfl ?_)
      (repeat' (refine And.intro ?_ ?_)) <;> first | rfl | exact True.intro | exact hla | exact hla.symm | omega
    · simp only [decide_eq_false_iff_not] at g4
      have hF1 : F [l.getD p.1 cl0] = [] := by
        rw [hF]
        simp only [List.filter]
        rw [decide_eq_false (show ¬ b ≤ (l.getD p.1 cl0).t from g4)]
      rw [hF1, List.append_nil] at hFa
      ((conv=>whnf);(repeat(refine And.intro ?_ ?_;(focus((first|omega|exact⟨rfl,True.intro⟩|exact⟨rfl,rfl,True.intro⟩|rfl|(simp only[List.length_set];first|omega|(refine⟨?_,?_⟩<;>omega)|(refine⟨?_,?_,?_⟩<;>omega))|(intro hg;(try simp only[bB]at hg);first|omega|(refine⟨?_,?_⟩<;>omega)|(refine⟨?_,?_,?_⟩<;>first|omega|(show _<_;(try simp only[List.length_set]);omega)|exact leT rfl))|(refine⟨?_,?_⟩<;>omega)|(refine⟨?_,?_,?_⟩<;>first|omega|(show _<_;(try simp only[List.length_set]);omega)|exact leT rfl)|(simp only[show rI.d=(0:Int)from rfl];omega));done));(conv=>whnf))))
      refine LoopI.back (p.1 + 1, p.2) ⟨by show p.1 + 1 ≤ l.length; omega, by show (F (l.take (p.1 + 1))).length ≤ p.2; rw [hFa]; exact hi2, hi3⟩ (by show l.length - (p.1 + 1) < l.length - p.1; omega) (Sub.of [] [] rfl ?_)
      have hFb := hFa.symm
      have hFc : (F (l.take (p.1 + 1))).length = (F (l.take p.1)).length := by rw [hFa]
      (repeat' (refine And.intro ?_ ?_)) <;> first | rfl | exact True.intro | exact hFc | exact hFc.symm | exact congrArg (Ct.rows Cl rC) hFa | exact congrArg (Ct.rows Cl rC) hFb | omega
  simp only [decide_eq_false_iff_not] at g3
  obtain ⟨i, cp⟩ := p
  obtain rfl : i = l.length := by simp only at g3 hi1; omega
  simp only [List.take_length] at hi2 hi3 ⊢
  have hfl := hFl l
  have hkk : keptL x.1 l b = F l ++ (if (atR x.1 b).2.2 = 0 then [⟨b, b, (atR x.1 b).1, (atR x.1 b).2.1⟩] else []) := by unfold keptL; rw [hF]
  rw [hkk] at *
  ((conv=>whnf);(repeat(refine And.intro ?_ ?_;(focus((first|omega|exact⟨rfl,True.intro⟩|exact⟨rfl,rfl,True.intro⟩|rfl|(simp only[List.length_set];first|omega|(refine⟨?_,?_⟩<;>omega)|(refine⟨?_,?_,?_⟩<;>omega))|(intro hg;(try simp only[bB]at hg);first|omega|(refine⟨?_,?_⟩<;>omega)|(refine⟨?_,?_,?_⟩<;>first|omega|(show _<_;(try simp only[List.length_set]);omega)|exact leT rfl))|(refine⟨?_,?_⟩<;>omega)|(refine⟨?_,?_,?_⟩<;>first|omega|(show _<_;(try simp only[List.length_set]);omega)|exact leT rfl)|(simp only[show rI.d=(0:Int)from rfl];omega));done));(conv=>whnf))))
  refine EvCall.plain Try.call33 (.t [.v (.int .i64 (atR x.1 b).1), .v (.int .i64 (atR x.1 b).2.1), .v (.int .i64 (atR x.1 b).2.2)]) rfl (fun ρ W hp => at_s x.1 _ _ _ _ _ _ b W (hp.rowsIn (R := rI) (n := 2) (c := p1) rfl (by decide) q1 q2 1) (hp.rowsIn (R := rI) (n := 3) (c := p2) rfl (by decide) q3 q4 1) (by omega) (by omega)) ?_
  generalize atR x.1 b = y at *
  ((conv=>whnf);(repeat(refine And.intro ?_ ?_;(focus((first|omega|exact⟨rfl,True.intro⟩|exact⟨rfl,rfl,True.intro⟩|rfl|(simp only[List.length_set];first|omega|(refine⟨?_,?_⟩<;>omega)|(refine⟨?_,?_,?_⟩<;>omega))|(intro hg;(try simp only[bB]at hg);first|omega|(refine⟨?_,?_⟩<;>omega)|(refine⟨?_,?_,?_⟩<;>first|omega|(show _<_;(try simp only[List.length_set]);omega)|exact leT rfl))|(refine⟨?_,?_⟩<;>omega)|(refine⟨?_,?_,?_⟩<;>first|omega|(show _<_;(try simp only[List.length_set]);omega)|exact leT rfl)|(simp only[show rI.d=(0:Int)from rfl];omega));done));(conv=>whnf))))
  refine EvIf.split (fun g4 => ?_) (fun g4 => ?_)
  · have g5 : y.2.2 = 0 := by simpa using g4
    rw [if_pos g5] at *
    have hla : (F l ++ [(⟨b, b, y.1, y.2.1⟩ : Cl)]).length = (F l).length + 1 := by rw [List.length_append]; rfl
    ((conv=>whnf);(repeat(refine And.intro ?_ ?_;(focus((first|omega|exact⟨rfl,True.intro⟩|exact⟨rfl,rfl,True.intro⟩|rfl|(simp only[List.length_set];first|omega|(refine⟨?_,?_⟩<;>omega)|(refine⟨?_,?_,?_⟩<;>omega))|(intro hg;(try simp only[bB]at hg);first|omega|(refine⟨?_,?_⟩<;>omega)|(refine⟨?_,?_,?_⟩<;>first|omega|(show _<_;(try simp only[List.length_set]);omega)|exact leT rfl))|(refine⟨?_,?_⟩<;>omega)|(refine⟨?_,?_,?_⟩<;>first|omega|(show _<_;(try simp only[List.length_set]);omega)|exact leT rfl)|(simp only[show rI.d=(0:Int)from rfl];omega));done));(conv=>whnf))))
    refine EvBi.append (R := rC) tyok29 rfl tyok62 rfl (by decide) rfl rfl rfl hi2 [⟨b, b, y.1, y.2.1⟩] (fun ρ W hp => hp.lit (R := rC) (ys := [⟨b, b, y.1, y.2.1⟩]) rfl (by decide) (by simp) (by omega) rfl) (by show (_ + 1) * 32 ≤ _; omega) (by show _ + 1 ≤ _; omega) (fun cap' hq1 hq2 => ?_)
    have hq3 : (F l ++ [(⟨b, b, y.1, y.2.1⟩ : Cl)]).length ≤ cap' := by rw [hla]; exact hq1
    have h12 : (F l ++ [(⟨b, b, y.1, y.2.1⟩ : Cl)]).length ≤ 1000 := by rw [hla]; omega
    generalize F l ++ [(⟨b, b, y.1, y.2.1⟩ : Cl)] = fl at *
    ((conv=>whnf);(repeat(refine And.intro ?_ ?_;(focus((first|omega|exact⟨rfl,True.intro⟩|exact⟨rfl,rfl,True.intro⟩|rfl|(simp only[List.length_set];first|omega|(refine⟨?_,?_⟩<;>omega)|(refine⟨?_,?_,?_⟩<;>omega))|(intro hg;(try simp only[bB]at hg);first|omega|(refine⟨?_,?_⟩<;>omega)|(refine⟨?_,?_,?_⟩<;>first|omega|(show _<_;(try simp only[List.length_set]);omega)|exact leT rfl))|(refine⟨?_,?_⟩<;>omega)|(refine⟨?_,?_,?_⟩<;>first|omega|(show _<_;(try simp only[List.length_set]);omega)|exact leT rfl)|(simp only[show rI.d=(0:Int)from rfl];omega));done));(conv=>whnf))))
    refine EvCall.rows3 (R := rC) (ty := 62) (xs := (finR d l fl).1) (c := (finR d l fl).2.1) (z := (finR d l fl).2.2) Try.call49 (fun ρ W hp => by
      have := finish_s _ _ _ d l fl W (hD.below hp.bel) hI (hp.rowsIn (R := rC) (n := 0) (c := c1) rfl (by decide) e1 e2 4) (hp.rowsIn (R := rC) (n := 7) (c := cap') rfl (by decide) hq3 hq2 4) (.inl h12)
      first | exact this | (rw [hla] at this; exact this)) (fun kk z1 z2 => ?_)
    ((conv=>whnf);(repeat(refine And.intro ?_ ?_;(focus((first|omega|exact⟨rfl,True.intro⟩|exact⟨rfl,rfl,True.intro⟩|rfl|(simp only[List.length_set];first|omega|(refine⟨?_,?_⟩<;>omega)|(refine⟨?_,?_,?_⟩<;>omega))|(intro hg;(try simp only[bB]at hg);first|omega|(refine⟨?_,?_⟩<;>omega)|(refine⟨?_,?_,?_⟩<;>first|omega|(show _<_;(try simp only[List.length_set]);omega)|exact leT rfl))|(refine⟨?_,?_⟩<;>omega)|(refine⟨?_,?_,?_⟩<;>first|omega|(show _<_;(try simp only[List.length_set]);omega)|exact leT rfl)|(simp only[show rI.d=(0:Int)from rfl];omega));done));(conv=>whnf))))
    exact EvRet.rows3 (R := rC) rfl z1 rfl rfl rfl rfl
  · have g5 : ¬ y.2.2 = 0 := by simpa using g4
    rw [if_neg g5, List.append_nil] at *
    have h12 : (F l).length ≤ 1000 := by omega
    generalize F l = fl at *
    ((conv=>whnf);(repeat(refine And.intro ?_ ?_;(focus((first|omega|exact⟨rfl,True.intro⟩|exact⟨rfl,rfl,True.intro⟩|rfl|(simp only[List.length_set];first|omega|(refine⟨?_,?_⟩<;>omega)|(refine⟨?_,?_,?_⟩<;>omega))|(intro hg;(try simp only[bB]at hg);first|omega|(refine⟨?_,?_⟩<;>omega)|(refine⟨?_,?_,?_⟩<;>first|omega|(show _<_;(try simp only[List.length_set]);omega)|exact leT rfl))|(refine⟨?_,?_⟩<;>omega)|(refine⟨?_,?_,?_⟩<;>first|omega|(show _<_;(try simp only[List.length_set]);omega)|exact leT rfl)|(simp only[show rI.d=(0:Int)from rfl];omega));done));(conv=>whnf))))
    refine EvCall.rows3 (R := rC) (ty := 62) (xs := (finR d l fl).1) (c := (finR d l fl).2.1) (z := (finR d l fl).2.2) Try.call49 (fun ρ W hp => finish_s _ _ _ d l fl W (hD.below hp.bel) hI (hp.rowsIn (R := rC) (n := 0) (c := c1) rfl (by decide) e1 e2 4) (hp.rowsIn (R := rC) (n := 5) (c := cp) rfl (by decide) hi2 hi3 4) (.inl h12)) (fun kk z1 z2 => ?_)
    ((conv=>whnf);(repeat(refine And.intro ?_ ?_;(focus((first|omega|exact⟨rfl,True.intro⟩|exact⟨rfl,rfl,True.intro⟩|rfl|(simp only[List.length_set];first|omega|(refine⟨?_,?_⟩<;>omega)|(refine⟨?_,?_,?_⟩<;>omega))|(intro hg;(try simp only[bB]at hg);first|omega|(refine⟨?_,?_⟩<;>omega)|(refine⟨?_,?_,?_⟩<;>first|omega|(show _<_;(try simp only[List.length_set]);omega)|exact leT rfl))|(refine⟨?_,?_⟩<;>omega)|(refine⟨?_,?_,?_⟩<;>first|omega|(show _<_;(try simp only[List.length_set]);omega)|exact leT rfl)|(simp only[show rI.d=(0:Int)from rfl];omega));done));(conv=>whnf))))
    exact EvRet.rows3 (R := rC) rfl z1 rfl rfl rfl rfl
end Go.Proofs.Ytpnngbfmmjjnaaa
