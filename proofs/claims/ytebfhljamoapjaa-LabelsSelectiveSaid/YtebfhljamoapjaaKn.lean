
/- The reference's Keep, walked; the laws LabelsKeep and LabelsSelective. -/
import Derived.Test.YtebfhljamoapjaaKm
namespace Go.Proofs.Ytebfhljamoapjaa
open Go.RowKit
set_option linter.unusedVariables false
set_option linter.unusedSimpArgs false

theorem in_s (u : Value) (ns : List ByteArray) (s : ByteArray) (w : World) (hu : RowsIn rS w u ns) : Con Try.prog 79 #[u, .string s] w (Ret w (.bool (inB ns s))) := by
  obtain ⟨A1, c1, rfl, e1, e2⟩ := hu.form
  refine enter tabOk mixed Try.func79 rfl Try.ntmps79 Try.results79 [.s 0 1 ns.length c1, .v (.string s)] (fun _ => A1) [⟨0, false, 9, 1, c1, .rows ByteArray rS ns⟩] 1 rfl rfl (.ro (hp0 _ _ _) _ rfl rfl rfl (ro_rows hu rfl _)) ?_
  ((conv=>whnf);(repeat(refine And.intro ?_ ?_;(focus((first|omega|exact⟨rfl,True.intro⟩|exact⟨rfl,rfl,True.intro⟩|rfl|(simp only[List.length_set];first|omega|(refine⟨?_,?_⟩<;>omega)|(refine⟨?_,?_,?_⟩<;>omega))|(intro hg;(try simp only[bB]at hg);first|omega|(refine⟨?_,?_⟩<;>omega)|(refine⟨?_,?_,?_⟩<;>first|omega|(show _<_;(try simp only[List.length_set]);omega)|exact leT rfl))|(refine⟨?_,?_⟩<;>omega)|(refine⟨?_,?_,?_⟩<;>first|omega|(show _<_;(try simp only[List.length_set]);omega)|exact leT rfl)|(simp only[show rI.d=(0:Int)from rfl];omega));done));(conv=>whnf))))
  refine EvLoop.inv (α := Nat) (fun i => i ≤ ns.length ∧ ∀ j, j < i → ns.getD j ByteArray.empty ≠ s) (fun i => ns.length - i) (fun i => [(5, [], .v (.int .i64 ((i : Int)))), (0, [], .s 0 1 ns.length c1), (1, [], .v (.string s))])
    (fun i => [⟨0, false, 9, 1, c1, .rows ByteArray rS ns⟩]) 1 0 ⟨by omega, fun j hj => by omega⟩ (Sub.of [] [] rfl ?_) ?_
  · ((repeat' (refine And.intro ?_ ?_)) <;> first | rfl | exact True.intro | omega)
  intro i ⟨hi, hi2⟩
  ((conv=>whnf);(repeat(refine And.intro ?_ ?_;(focus((first|omega|exact⟨rfl,True.intro⟩|exact⟨rfl,rfl,True.intro⟩|rfl|(simp only[List.length_set];first|omega|(refine⟨?_,?_⟩<;>omega)|(refine⟨?_,?_,?_⟩<;>omega))|(intro hg;(try simp only[bB]at hg);first|omega|(refine⟨?_,?_⟩<;>omega)|(refine⟨?_,?_,?_⟩<;>first|omega|(show _<_;(try simp only[List.length_set]);omega)|exact leT rfl))|(refine⟨?_,?_⟩<;>omega)|(refine⟨?_,?_,?_⟩<;>first|omega|(show _<_;(try simp only[List.length_set]);omega)|exact leT rfl)|(simp only[show rI.d=(0:Int)from rfl];omega));done));(conv=>whnf))))
  refine EvIf.split (fun g1 => ?_) (fun g1 => ?_)
  · simp only [decide_eq_true_eq] at g1
    ((conv=>whnf);(repeat(refine And.intro ?_ ?_;(focus((first|omega|exact⟨rfl,True.intro⟩|exact⟨rfl,rfl,True.intro⟩|rfl|(simp only[List.length_set];first|omega|(refine⟨?_,?_⟩<;>omega)|(refine⟨?_,?_,?_⟩<;>omega))|(intro hg;(try simp only[bB]at hg);first|omega|(refine⟨?_,?_⟩<;>omega)|(refine⟨?_,?_,?_⟩<;>first|omega|(show _<_;(try simp only[List.length_set]);omega)|exact leT rfl))|(refine⟨?_,?_⟩<;>omega)|(refine⟨?_,?_,?_⟩<;>first|omega|(show _<_;(try simp only[List.length_set]);omega)|exact leT rfl)|(simp only[show rI.d=(0:Int)from rfl];omega));done));(conv=>whnf))))
    refine EvIf.split (fun g2 => ?_) (fun g2 => ?_)
    · rw [tl_eq] at g2
      have g3 : ns.getD i ByteArray.empty = s := of_decide_eq_true g2
      have hin : inB ns s = true := by
        rw [inB_iff, ← g3, List.getD_eq_getElem?_getD, List.getElem?_eq_getElem (by omega)]
        exact List.getElem_mem _
      rw [hin]
      ((conv=>whnf);(repeat(refine And.intro ?_ ?_;(focus((first|omega|exact⟨rfl,True.intro⟩|exact⟨rfl,rfl,True.intro⟩|rfl|(simp only[List.length_set];first|omega|(refine⟨?_,?_⟩<;>omega)|(refine⟨?_,?_,?_⟩<;>omega))|(intro hg;(try simp only[bB]at hg);first|omega|(refine⟨?_,?_⟩<;>omega)|(refine⟨?_,?_,?_⟩<;>first|omega|(show _<_;(try simp only[List.length_set]);omega)|exact leT rfl))|(refine⟨?_,?_⟩<;>omega)|(refine⟨?_,?_,?_⟩<;>first|omega|(show _<_;(try simp only[List.length_set]);omega)|exact leT rfl)|(simp only[show rI.d=(0:Int)from rfl];omega));done));(conv=>whnf))))
      exact EvRet.ret (fun _ => rfl)
    · rw [tl_eq] at g2
      have g3 : ns.getD i ByteArray.empty ≠ s := of_decide_eq_false g2
      ((conv=>whnf);(repeat(refine And.intro ?_ ?_;(focus((first|omega|exact⟨rfl,True.intro⟩|exact⟨rfl,rfl,True.intro⟩|rfl|(simp only[List.length_set];first|omega|(refine⟨?_,?_⟩<;>omega)|(refine⟨?_,?_,?_⟩<;>omega))|(intro hg;(try simp only[bB]at hg);first|omega|(refine⟨?_,?_⟩<;>omega)|(refine⟨?_,?_,?_⟩<;>first|omega|(show _<_;(try simp only[List.length_set]);omega)|exact leT rfl))|(refine⟨?_,?_⟩<;>omega)|(refine⟨?_,?_,?_⟩<;>first|omega|(show _<_;(try simp only[List.length_set]);omega)|exact leT rfl)|(simp only[show rI.d=(0:Int)from rfl];omega));done));(conv=>whnf))))
      refine LoopI.back (i + 1) ⟨by omega, fun j hj => ?_⟩ (by omega) (Sub.of [] [] rfl ?_)
      · by_cases hji : j = i
        · rw [hji]; exact g3
        · exact hi2 j (by omega)
      · ((repeat' (refine And.intro ?_ ?_)) <;> first | rfl | exact True.intro | omega)
  · simp only [decide_eq_false_iff_not] at g1
    obtain rfl : i = ns.length := by omega
    have hin : inB ns s = false := by
      cases h : inB ns s with
      | false => rfl
      | true =>
        obtain ⟨i, hi, rfl⟩ := List.getElem_of_mem ((inB_iff ns s).1 h)
        exact absurd (by rw [List.getD_eq_getElem?_getD, List.getElem?_eq_getElem hi]; rfl) (hi2 i hi)
    rw [hin]
    ((conv=>whnf);(repeat(refine And.intro ?_ ?_;(focus((first|omega|exact⟨rfl,True.intro⟩|exact⟨rfl,rfl,True.intro⟩|rfl|(simp only[List.length_set];first|omega|(refine⟨?_,?_⟩<;>omega)|(refine⟨?_,?_,?_⟩<;>omega))|(intro hg;(try simp only[bB]at hg);first|omega|(refine⟨?_,?_⟩<;>omega)|(refine⟨?_,?_,?_⟩<;>first|omega|(show _<_;(try simp only[List.length_set]);omega)|exact leT rfl))|(refine⟨?_,?_⟩<;>omega)|(refine⟨?_,?_,?_⟩<;>first|omega|(show _<_;(try simp only[List.length_set]);omega)|exact leT rfl)|(simp only[show rI.d=(0:Int)from rfl];omega));done));(conv=>whnf))))
    exact EvRet.ret (fun _ => rfl)
def keepP (ns : List ByteArray) (l : List Lb) : List Lb := l.filter fun e => inB ns e.1
set_option maxRecDepth 10000 in
theorem ref_keep_s (v u : Value) (l : List Lb) (ns : List ByteArray) (w : World) (hv : RowsIn rL w v l) (hu : RowsIn rS w u ns) (hl : l.length ≤ 1000) : Con Try.prog 53 #[v, u] w (RetRows rL 62 w (keepP ns l)) := by
  obtain ⟨A1, c1, rfl, e1, e2⟩ := hv.form
  obtain ⟨A2, c2, rfl, f1, f2⟩ := hu.form
  obtain ⟨F, hF⟩ : ∃ F : List Lb → List Lb, F = fun m => m.filter (fun e => inB ns e.1) := ⟨_, rfl⟩
  have hFl : ∀ m, (F m).length ≤ m.length := fun m => by rw [hF]; exact List.length_filter_le _ _
  have hFe : keepP ns l = F l := by rw [hF]; rfl
  rw [hFe]
  refine enter tabOk mixed Try.func53 rfl Try.ntmps53 Try.results53 [.s 0 2 l.length c1, .s 1 1 ns.length c2] (fun n => if n = 0 then A1 else A2) [⟨0, false, 62, 2, c1, .rows Lb rL l⟩, ⟨1, false, 9, 1, c2, .rows ByteArray rS ns⟩] 2 rfl rfl (.ro (.ro (hp0 _ _ _) _ rfl rfl rfl (ro_rows hu rfl _)) _ rfl rfl rfl (ro_rows hv rfl _)) ?_
  ((conv=>whnf);(repeat(refine And.intro ?_ ?_;(focus((first|omega|exact⟨rfl,True.intro⟩|exact⟨rfl,rfl,True.intro⟩|rfl|(simp only[List.length_set];first|omega|(refine⟨?_,?_⟩<;>omega)|(refine⟨?_,?_,?_⟩<;>omega))|(intro hg;(try simp only[bB]at hg);first|omega|(refine⟨?_,?_⟩<;>omega)|(refine⟨?_,?_,?_⟩<;>first|omega|(show _<_;(try simp only[List.length_set]);omega)|exact leT rfl))|(refine⟨?_,?_⟩<;>omega)|(refine⟨?_,?_,?_⟩<;>first|omega|(show _<_;(try simp only[List.length_set]);omega)|exact leT rfl)|(simp only[show rI.d=(0:Int)from rfl];omega));done));(conv=>whnf))))
  refine EvLoop.inv (α := Nat × Nat) (fun p => p.1 ≤ l.length ∧ (F (l.take p.1)).length ≤ p.2 ∧ p.2 ≤ 9223372036854775807) (fun p => l.length - p.1) (fun p => [(6, [], .v (.int .i64 ((p.1 : Int)))), (5, [], .s 2 2 (F (l.take p.1)).length p.2), (0, [], .s 0 2 l.length c1), (1, [], .s 1 1 ns.length c2)])
    (fun p => [⟨2, true, 62, 2, p.2, .rows Lb rL (F (l.take p.1))⟩, ⟨0, false, 62, 2, c1, .rows Lb rL l⟩, ⟨1, false, 9, 1, c2, .rows ByteArray rS ns⟩]) 3 (0, 0) ⟨by simp, by rw [hF]; simp, by decide⟩ (Sub.of [] [2] rfl ?_) ?_
  · have hF0 : F [] = [] := by rw [hF]; rfl
    have hF1 : (F (l.take 0)) = [] := hF0
    (repeat' (refine And.intro ?_ ?_)) <;> first | rfl | exact True.intro | omega | (rw [hF1]; rfl) | (show _ = _ ; simp [hF0])
  intro p ⟨hi1, hi2, hi3⟩
  ((conv=>whnf);(repeat(refine And.intro ?_ ?_;(focus((first|omega|exact⟨rfl,True.intro⟩|exact⟨rfl,rfl,True.intro⟩|rfl|(simp only[List.length_set];first|omega|(refine⟨?_,?_⟩<;>omega)|(refine⟨?_,?_,?_⟩<;>omega))|(intro hg;(try simp only[bB]at hg);first|omega|(refine⟨?_,?_⟩<;>omega)|(refine⟨?_,?_,?_⟩<;>first|omega|(show _<_;(try simp only[List.length_set]);omega)|exact leT rfl))|(refine⟨?_,?_⟩<;>omega)|(refine⟨?_,?_,?_⟩<;>first|omega|(show _<_;(try simp only[List.length_set]);omega)|exact leT rfl)|(simp only[show rI.d=(0:Int)from rfl];omega));done));(conv=>whnf))))
  refine EvIf.split (fun g3 => ?_) (fun g3 => ?_)
  · simp only [decide_eq_true_eq] at g3
    have hlt2 : p.1 < l.length := by omega
    have ht1 := take_snoc l p.1 lb0 hlt2
    have hfl := hFl (l.take p.1)
    have htl : (l.take p.1).length = p.1 := by rw [List.length_take]; omega
    have hFa : F (l.take (p.1 + 1)) = F (l.take p.1) ++ F [l.getD p.1 lb0] := by rw [ht1, hF]; exact List.filter_append ..
    ((conv=>whnf);(repeat(refine And.intro ?_ ?_;(focus((first|omega|exact⟨rfl,True.intro⟩|exact⟨rfl,rfl,True.intro⟩|rfl|(simp only[List.length_set];first|omega|(refine⟨?_,?_⟩<;>omega)|(refine⟨?_,?_,?_⟩<;>omega))|(intro hg;(try simp only[bB]at hg);first|omega|(refine⟨?_,?_⟩<;>omega)|(refine⟨?_,?_,?_⟩<;>first|omega|(show _<_;(try simp only[List.length_set]);omega)|exact leT rfl))|(refine⟨?_,?_⟩<;>omega)|(refine⟨?_,?_,?_⟩<;>first|omega|(show _<_;(try simp only[List.length_set]);omega)|exact leT rfl)|(simp only[show rI.d=(0:Int)from rfl];omega));done));(conv=>whnf))))
    refine EvCall.plain Try.call79 (.v (.bool (inB ns (l.getD p.1 lb0).1))) rfl (fun ρ W hp => in_s _ ns _ W (hp.rowsIn (R := rS) (n := 1) (c := c2) rfl (by decide) f1 f2 1)) ?_
    ((conv=>whnf);(repeat(refine And.intro ?_ ?_;(focus((first|omega|exact⟨rfl,True.intro⟩|exact⟨rfl,rfl,True.intro⟩|rfl|(simp only[List.length_set];first|omega|(refine⟨?_,?_⟩<;>omega)|(refine⟨?_,?_,?_⟩<;>omega))|(intro hg;(try simp only[bB]at hg);first|omega|(refine⟨?_,?_⟩<;>omega)|(refine⟨?_,?_,?_⟩<;>first|omega|(show _<_;(try simp only[List.length_set]);omega)|exact leT rfl))|(refine⟨?_,?_⟩<;>omega)|(refine⟨?_,?_,?_⟩<;>first|omega|(show _<_;(try simp only[List.length_set]);omega)|exact leT rfl)|(simp only[show rI.d=(0:Int)from rfl];omega));done));(conv=>whnf))))
    refine EvIf.split (fun g4 => ?_) (fun g4 => ?_)
    · have hF1 : F [l.getD p.1 lb0] = [l.getD p.1 lb0] := by
        rw [hF]
        simp only [List.filter]
        rw [g4]
      rw [hF1] at hFa
      have hla : (F (l.take (p.1 + 1))).length = (F (l.take p.1)).length + 1 := by rw [hFa, List.length_append]; rfl
      ((conv=>whnf);(repeat(refine And.intro ?_ ?_;(focus((first|omega|exact⟨rfl,True.intro⟩|exact⟨rfl,rfl,True.intro⟩|rfl|(simp only[List.length_set];first|omega|(refine⟨?_,?_⟩<;>omega)|(refine⟨?_,?_,?_⟩<;>omega))|(intro hg;(try simp only[bB]at hg);first|omega|(refine⟨?_,?_⟩<;>omega)|(refine⟨?_,?_,?_⟩<;>first|omega|(show _<_;(try simp only[List.length_set]);omega)|exact leT rfl))|(refine⟨?_,?_⟩<;>omega)|(refine⟨?_,?_,?_⟩<;>first|omega|(show _<_;(try simp only[List.length_set]);omega)|exact leT rfl)|(simp only[show rI.d=(0:Int)from rfl];omega));done));(conv=>whnf))))
      refine EvBi.append (R := rL) tyok60 rfl tyok62 rfl (by decide) rfl rfl rfl hi2 [l.getD p.1 lb0] (fun ρ W hp => hp.lit (R := rL) (ys := [l.getD p.1 lb0]) rfl (by decide) (by simp) (by omega) rfl) (by show (_ + 1) * 32 ≤ _; omega) (by show _ + 1 ≤ _; omega) (fun cap' hq1 hq2 => ?_)
      rw [← hFa]
      ((conv=>whnf);(repeat(refine And.intro ?_ ?_;(focus((first|omega|exact⟨rfl,True.intro⟩|exact⟨rfl,rfl,True.intro⟩|rfl|(simp only[List.length_set];first|omega|(refine⟨?_,?_⟩<;>omega)|(refine⟨?_,?_,?_⟩<;>omega))|(intro hg;(try simp only[bB]at hg);first|omega|(refine⟨?_,?_⟩<;>omega)|(refine⟨?_,?_,?_⟩<;>first|omega|(show _<_;(try simp only[List.length_set]);omega)|exact leT rfl))|(refine⟨?_,?_⟩<;>omega)|(refine⟨?_,?_,?_⟩<;>first|omega|(show _<_;(try simp only[List.length_set]);omega)|exact leT rfl)|(simp only[show rI.d=(0:Int)from rfl];omega));done));(conv=>whnf))))
      refine LoopI.back (p.1 + 1, cap') ⟨by show p.1 + 1 ≤ l.length; omega, by rw [hla]; exact hq1, hq2⟩ (by show l.length - (p.1 + 1) < l.length - p.1; omega) (Sub.of [(2, 4)] [] rfl ?_)
      (repeat' (refine And.intro ?_ ?_)) <;> first | rfl | exact True.intro | exact hla | exact hla.symm | omega
    · have hF1 : F [l.getD p.1 lb0] = [] := by
        rw [hF]
        simp only [List.filter]
        rw [g4]
      rw [hF1, List.append_nil] at hFa
      ((conv=>whnf);(repeat(refine And.intro ?_ ?_;(focus((first|omega|exact⟨rfl,True.intro⟩|exact⟨rfl,rfl,True.intro⟩|rfl|(simp only[List.length_set];first|omega|(refine⟨?_,?_⟩<;>omega)|(refine⟨?_,?_,?_⟩<;>omega))|(intro hg;(try simp only[bB]at hg);first|omega|(refine⟨?_,?_⟩<;>omega)|(refine⟨?_,?_,?_⟩<;>first|omega|(show _<_;(try simp only[List.length_set]);omega)|exact leT rfl))|(refine⟨?_,?_⟩<;>omega)|(refine⟨?_,?_,?_⟩<;>first|omega|(show _<_;(try simp only[List.length_set]);omega)|exact leT rfl)|(simp only[show rI.d=(0:Int)from rfl];omega));done));(conv=>whnf))))
      refine LoopI.back (p.1 + 1, p.2) ⟨by show p.1 + 1 ≤ l.length; omega, by show (F (l.take (p.1 + 1))).length ≤ p.2; rw [hFa]; exact hi2, hi3⟩ (by show l.length - (p.1 + 1) < l.length - p.1; omega) (Sub.of [] [] rfl ?_)
      have hFb := hFa.symm
      have hFc : (F (l.take (p.1 + 1))).length = (F (l.take p.1)).length := by rw [hFa]
      (repeat' (refine And.intro ?_ ?_)) <;> first | rfl | exact True.intro | exact hFc | exact hFc.symm | exact congrArg (Ct.rows Lb rL) hFa | exact congrArg (Ct.rows Lb rL) hFb | omega
  simp only [decide_eq_false_iff_not] at g3
  obtain ⟨i, cp⟩ := p
  obtain rfl : i = l.length := by simp only at g3 hi1; omega
  simp only [List.take_length] at hi2 hi3 ⊢
  ((conv=>whnf);(repeat(refine And.intro ?_ ?_;(focus((first|omega|exact⟨rfl,True.intro⟩|exact⟨rfl,rfl,True.intro⟩|rfl|(simp only[List.length_set];first|omega|(refine⟨?_,?_⟩<;>omega)|(refine⟨?_,?_,?_⟩<;>omega))|(intro hg;(try simp only[bB]at hg);first|omega|(refine⟨?_,?_⟩<;>omega)|(refine⟨?_,?_,?_⟩<;>first|omega|(show _<_;(try simp only[List.length_set]);omega)|exact leT rfl))|(refine⟨?_,?_⟩<;>omega)|(refine⟨?_,?_,?_⟩<;>first|omega|(show _<_;(try simp only[List.length_set]);omega)|exact leT rfl)|(simp only[show rI.d=(0:Int)from rfl];omega));done));(conv=>whnf))))
  exact EvRet.rows (R := rL) rfl hi2 rfl rfl

/-! plain -/
def lbGood (e : Lb) : Prop := nameB e.1 = true ∧ e.2 ≠ ByteArray.empty ∧ valueB e.2 = true
theorem valid_iff (l : List Lb) : validP l = true ↔ (l.length ≤ 8 ∧ (∀ e ∈ l, lbGood e) ∧ l.Pairwise fun a b => ltS a.1 b.1 = true) := by
  constructor
  · intro h
    obtain ⟨h1, h2⟩ := valid_inv h
    refine ⟨by omega, fun e he => ?_, ?_⟩
    · obtain ⟨i, hi, rfl⟩ := mem_getD he
      obtain ⟨a, b, c, _⟩ := h2 i hi
      exact ⟨a, b, c⟩
    · refine List.pairwise_iff_getElem.2 fun i j hi hj hij => ?_
      have := lt_all h2 i j hij hj
      rw [List.getD_eq_getElem?_getD, List.getElem?_eq_getElem hi, List.getD_eq_getElem?_getD, List.getElem?_eq_getElem hj] at this
      exact this
  · rintro ⟨h1, h2, h3⟩
    refine valid_yes (by omega) fun i hi => ?_
    obtain ⟨a, b, c⟩ := h2 _ (getD_mem hi)
    refine ⟨a, b, c, fun h0 => ?_⟩
    have := List.pairwise_iff_getElem.1 h3 (i - 1) i (by omega) hi (by omega)
    rw [List.getD_eq_getElem?_getD, List.getElem?_eq_getElem (by omega), List.getD_eq_getElem?_getD, List.getElem?_eq_getElem hi]
    exact this
theorem valid_keep (ns : List ByteArray) {l : List Lb} (h : validP l = true) : validP (keepP ns l) = true := by
  obtain ⟨h1, h2, h3⟩ := (valid_iff l).1 h
  refine (valid_iff _).2 ⟨Nat.le_trans (List.length_filter_le _ _) h1, fun e he => h2 e (List.mem_filter.1 he).1, h3.filter _⟩
theorem names_lt : ∀ i, i < 6 → ∀ j, j < i → ltS (namesL.getD j ByteArray.empty) (namesL.getD i ByteArray.empty) = true := by decide +kernel
theorem names_ok : ∀ i, i < 6 → nameB (namesL.getD i ByteArray.empty) = true := by decide +kernel
theorem values_ok : ∀ i, i < 6 → valueB (valuesL.getD i ByteArray.empty) = true ∧ valuesL.getD i ByteArray.empty ≠ ByteArray.empty := by decide +kernel
theorem setE_good (zs : List Int) (i : Nat) (hi : i < 6) : lbGood (setE zs i) := by
  have h1 := pick_nn zs (i + 1) 6 (by decide)
  have h2 := pick_lt zs (i + 1) 6 (by decide)
  have h3 := values_ok (pick zs (i + 1) 6).toNat (by omega)
  exact ⟨names_ok i hi, h3.2, h3.1⟩
theorem setN_ok (zs : List Int) : ∀ i, i ≤ 6 → (∀ e ∈ setN zs i, lbGood e ∧ ∃ j, j < i ∧ e.1 = namesL.getD j ByteArray.empty) ∧ (setN zs i).Pairwise fun a b => ltS a.1 b.1 = true
  | 0, _ => ⟨by simp [setN], by simp [setN]⟩
  | i + 1, hi => by
    obtain ⟨h1, h2⟩ := setN_ok zs i (by omega)
    unfold setN
    split
    · refine ⟨fun e he => ?_, ?_⟩
      · rcases List.mem_append.1 he with h | h
        · obtain ⟨g, j, hj, hje⟩ := h1 e h
          exact ⟨g, j, by omega, hje⟩
        · simp only [List.mem_singleton] at h
          subst h
          exact ⟨setE_good zs i (by omega), i, by omega, rfl⟩
      · rw [List.pairwise_append]
        refine ⟨h2, by simp, fun a ha b hb => ?_⟩
        simp only [List.mem_singleton] at hb
        subst hb
        obtain ⟨_, j, hj, hje⟩ := h1 a ha
        rw [hje]
        exact names_lt i (by omega) j hj
    · refine ⟨fun e he => ?_, h2⟩
      obtain ⟨g, j, hj, hje⟩ := h1 e he
      exact ⟨g, j, by omega, hje⟩
theorem set_valid (zs : List Int) : validP (setL zs) = true := by
  obtain ⟨h1, h2⟩ := setN_ok zs 6 (Nat.le_refl _)
  have := setN_len zs 6
  exact (valid_iff _).2 ⟨by show (setN zs 6).length ≤ 8; omega, fun e he => (h1 e he).1, h2⟩
theorem keep_all (zs : List Int) : keepP namesL (setL zs) = setL zs := by
  refine List.filter_eq_self.2 fun e he => ?_
  obtain ⟨_, j, hj, hje⟩ := (setN_ok zs 6 (Nat.le_refl _)).1 e he
  rw [inB_iff, hje, List.getD_eq_getElem?_getD, List.getElem?_eq_getElem (by show j < 6; exact hj)]
  exact List.getElem_mem _
theorem keep_keep (ns : List ByteArray) (l : List Lb) : keepP ns (keepP ns l) = keepP ns l := by
  unfold keepP
  rw [List.filter_filter]
  simp
theorem keep_nil (l : List Lb) : keepP [] l = [] := by
  unfold keepP
  rw [List.filter_eq_nil_iff]
  intro a _
  simp [inB]
theorem keep_len (ns : List ByteArray) (l : List Lb) : (keepP ns l).length ≤ l.length := List.length_filter_le _ _
theorem get_keep (ns : List ByteArray) (n : ByteArray) (hn : n ∈ ns) : ∀ l : List Lb, getP (keepP ns l) n = getP l n
  | [] => rfl
  | e :: r => by
    have ih := get_keep ns n hn r
    unfold keepP at *
    by_cases hi : inB ns e.1 = true
    · rw [List.filter_cons_of_pos (p := fun e : Lb => inB ns e.1) hi]
      unfold getP
      rw [ih]
    · rw [List.filter_cons_of_neg (p := fun e : Lb => inB ns e.1) hi, ih]
      have : e.1 ≠ n := by
        rintro rfl
        exact hi ((inB_iff ns e.1).2 hn)
      show _ = (if _ then _ else _)
      rw [if_neg this]
theorem match_keep (ms : List Mt) (ns : List ByteArray) (h : ∀ m ∈ ms, m.n ∈ ns) (l : List Lb) : matchP (keepP ns l) ms = matchP l ms := by
  unfold matchP
  rw [Bool.eq_iff_iff, List.all_eq_true, List.all_eq_true]
  constructor
  · intro h1 m hm
    have := h1 m hm
    rwa [get_keep ns m.n (h m hm)] at this
  · intro h1 m hm
    rw [get_keep ns m.n (h m hm)]
    exact h1 m hm
theorem match_app (l : List Lb) (a b : List Mt) : matchP l (a ++ b) = (matchP l a && matchP l b) := by simp [matchP]
theorem match_one (l : List Lb) (m : Mt) : matchP l [m] = holdsP m (getP l m.n) := by simp [matchP]
theorem pref_self (v : ByteArray) : prefB v v = true := by
  unfold prefB
  have : v.extract 0 v.size = v := by
    apply ByteArray.ext
    simp [ByteArray.data_extract]
  simp [this]
theorem keep_lbs {l : List Lb} (h : LbS l) (ns : List ByteArray) : LbS (keepP ns l) := by
  refine lbs_small (Nat.le_trans (keep_len ns l) h.1) fun e he => ?_
  obtain ⟨i, _, rfl⟩ := mem_getD (List.mem_filter.1 he).1
  exact h.2 i
theorem i64_quo {n : Int} (h : I64 n) : I64 (n.tdiv 6) := by
  unfold I64 at *
  constructor
  · rcases Int.le_total 0 n with h0 | h0
    · rw [Int.tdiv_eq_ediv_of_nonneg h0]; omega
    · obtain ⟨m, rfl⟩ : ∃ m, n = -m := ⟨-n, by omega⟩
      rw [Int.neg_tdiv, Int.tdiv_eq_ediv_of_nonneg (by omega)]; omega
  · rcases Int.le_total 0 n with h0 | h0
    · rw [Int.tdiv_eq_ediv_of_nonneg h0]; omega
    · obtain ⟨m, rfl⟩ : ∃ m, n = -m := ⟨-n, by omega⟩
      rw [Int.neg_tdiv, Int.tdiv_eq_ediv_of_nonneg (by omega)]; omega
set_option maxRecDepth 10000 in
theorem labelskeep_s (V0 V1 : Value) (zs : List Int) (nms : List ByteArray) (k : Int) (w : World) (h0 : Ints w V0 zs) (h1 : RowsIn rS w V1 nms) (hk : I64 k) : Con Try.prog 9 #[V0, V1, .int .i64 k] w (Ret w (.bool true)) := by
  obtain ⟨A1, c1, rfl, e1, e2⟩ := h0.form
  obtain ⟨A2, c2, rfl, f1, f2⟩ := h1.form
  have hds := dirty_lbs zs
  have hss := set_lbs zs
  have hsv := set_valid zs
  have hka := keep_all zs
  have hk6 := i64_quo hk
  obtain ⟨hk0, hk1⟩ := hk
  obtain ⟨hk60, hk61⟩ := hk6
  refine enter tabOk mixed Try.func9 rfl Try.ntmps9 Try.results9 [.s 0 1 zs.length c1, .s 1 1 nms.length c2, .v (.int .i64 k)] (fun n => if n = 0 then A1 else A2) [⟨0, false, 3, 1, c1, .rows Int rI zs⟩, ⟨1, false, 9, 1, c2, .rows ByteArray rS nms⟩] 2 rfl rfl (.ro (.ro (hp0 _ _ _) _ rfl rfl rfl (ro_rows h1 rfl _)) _ rfl rfl rfl (ro_ints h0 rfl _)) ?_
  ((conv=>whnf);(repeat(refine And.intro ?_ ?_;(focus((first|omega|exact⟨rfl,True.intro⟩|exact⟨rfl,rfl,True.intro⟩|rfl|(simp only[List.length_set];first|omega|(refine⟨?_,?_⟩<;>omega)|(refine⟨?_,?_,?_⟩<;>omega))|(intro hg;(try simp only[bB]at hg);first|omega|(refine⟨?_,?_⟩<;>omega)|(refine⟨?_,?_,?_⟩<;>first|omega|(show _<_;(try simp only[List.length_set]);omega)|exact leT rfl))|(refine⟨?_,?_⟩<;>omega)|(refine⟨?_,?_,?_⟩<;>first|omega|(show _<_;(try simp only[List.length_set]);omega)|exact leT rfl)|(simp only[show rI.d=(0:Int)from rfl];omega));done));(conv=>whnf))))
  refine EvCall.rows (R := rL) (ty := 62) (xs := dirtyL zs) Try.call38 (fun ρ W hp => dirty_s _ zs W (hp.ints (n := 0) rfl e1 e2 h0.2)) (fun ca ha1 ha2 => ?_)
  ((conv=>whnf);(repeat(refine And.intro ?_ ?_;(focus((first|omega|exact⟨rfl,True.intro⟩|exact⟨rfl,rfl,True.intro⟩|rfl|(simp only[List.length_set];first|omega|(refine⟨?_,?_⟩<;>omega)|(refine⟨?_,?_,?_⟩<;>omega))|(intro hg;(try simp only[bB]at hg);first|omega|(refine⟨?_,?_⟩<;>omega)|(refine⟨?_,?_,?_⟩<;>first|omega|(show _<_;(try simp only[List.length_set]);omega)|exact leT rfl))|(refine⟨?_,?_⟩<;>omega)|(refine⟨?_,?_,?_⟩<;>first|omega|(show _<_;(try simp only[List.length_set]);omega)|exact leT rfl)|(simp only[show rI.d=(0:Int)from rfl];omega));done));(conv=>whnf))))
  refine EvCall.rows (R := rL) (ty := 62) (xs := setL zs) Try.call43 (fun ρ W hp => set_s _ zs W (hp.ints (n := 0) rfl e1 e2 h0.2)) (fun cb hb1 hb2 => ?_)
  generalize dirtyL zs = d at *
  generalize setL zs = s at *
  have hdl := hds.1
  have hsl := hss.1
  ((conv=>whnf);(repeat(refine And.intro ?_ ?_;(focus((first|omega|exact⟨rfl,True.intro⟩|exact⟨rfl,rfl,True.intro⟩|rfl|(simp only[List.length_set];first|omega|(refine⟨?_,?_⟩<;>omega)|(refine⟨?_,?_,?_⟩<;>omega))|(intro hg;(try simp only[bB]at hg);first|omega|(refine⟨?_,?_⟩<;>omega)|(refine⟨?_,?_,?_⟩<;>first|omega|(show _<_;(try simp only[List.length_set]);omega)|exact leT rfl))|(refine⟨?_,?_⟩<;>omega)|(refine⟨?_,?_,?_⟩<;>first|omega|(show _<_;(try simp only[List.length_set]);omega)|exact leT rfl)|(simp only[show rI.d=(0:Int)from rfl];omega));done));(conv=>whnf))))
  refine EvLoop.inv (α := Nat × Nat) (fun p => p.1 ≤ nms.length ∧ p.1 ≤ 8 ∧ p.1 ≤ p.2 ∧ p.2 ≤ 9223372036854775807) (fun p => nms.length - p.1) (fun p => [(10, [], .v (.int .i64 ((p.1 : Int)))), (9, [], .s 4 1 p.1 p.2), (8, [], .s 3 2 s.length cb), (7, [], .s 2 2 d.length ca), (2, [], .v (.int .i64 (k))), (1, [], .s 1 1 nms.length c2)])
    (fun p => [⟨4, true, 9, 1, p.2, .rows ByteArray rS (nms.take p.1)⟩, ⟨3, true, 62, 2, cb, .rows Lb rL s⟩, ⟨2, true, 62, 2, ca, .rows Lb rL d⟩, ⟨1, false, 9, 1, c2, .rows ByteArray rS nms⟩]) 5 (0, 0) ⟨by simp, by simp, by simp, by decide⟩ (Sub.of [] [4] rfl ?_) ?_
  · ((repeat' (refine And.intro ?_ ?_)) <;> first | rfl | exact True.intro | omega)
  intro p ⟨hi1, hi2, hi3, hi4⟩
  have hll : (nms.take p.1).length = p.1 := by simp; omega
  ((conv=>whnf);(repeat(refine And.intro ?_ ?_;(focus((first|omega|exact⟨rfl,True.intro⟩|exact⟨rfl,rfl,True.intro⟩|rfl|(simp only[List.length_set];first|omega|(refine⟨?_,?_⟩<;>omega)|(refine⟨?_,?_,?_⟩<;>omega))|(intro hg;(try simp only[bB]at hg);first|omega|(refine⟨?_,?_⟩<;>omega)|(refine⟨?_,?_,?_⟩<;>first|omega|(show _<_;(try simp only[List.length_set]);omega)|exact leT rfl))|(refine⟨?_,?_⟩<;>omega)|(refine⟨?_,?_,?_⟩<;>first|omega|(show _<_;(try simp only[List.length_set]);omega)|exact leT rfl)|(simp only[show rI.d=(0:Int)from rfl];omega));done));(conv=>whnf))))
  refine EvIf.split (fun g1 => ?_) (fun g1 => ?_)
  · simp only [Bool.and_eq_true, decide_eq_true_eq] at g1
    have htk : nms.take p.1 ++ [nms.getD p.1 ByteArray.empty] = nms.take (p.1 + 1) := (take_snoc nms p.1 ByteArray.empty (by omega)).symm
    ((conv=>whnf);(repeat(refine And.intro ?_ ?_;(focus((first|omega|exact⟨rfl,True.intro⟩|exact⟨rfl,rfl,True.intro⟩|rfl|(simp only[List.length_set];first|omega|(refine⟨?_,?_⟩<;>omega)|(refine⟨?_,?_,?_⟩<;>omega))|(intro hg;(try simp only[bB]at hg);first|omega|(refine⟨?_,?_⟩<;>omega)|(refine⟨?_,?_,?_⟩<;>first|omega|(show _<_;(try simp only[List.length_set]);omega)|exact leT rfl))|(refine⟨?_,?_⟩<;>omega)|(refine⟨?_,?_,?_⟩<;>first|omega|(show _<_;(try simp only[List.length_set]);omega)|exact leT rfl)|(simp only[show rI.d=(0:Int)from rfl];omega));done));(conv=>whnf))))
    refine EvBi.append (R := rS) tyok74 rfl tyok9 rfl (by decide) rfl rfl hll.symm (by rw [hll]; exact hi3) [nms.getD p.1 ByteArray.empty] (fun ρ W hp => hp.lit (R := rS) (ys := [nms.getD p.1 ByteArray.empty]) rfl (by decide) (by simp) (by omega) rfl) (by rw [hll]; show (_ + 1) * 16 ≤ _; omega) (by rw [hll]; show _ + 1 ≤ _; omega) (fun cap' hq1 hq2 => ?_)
    rw [hll] at hq1
    rw [htk]
    ((conv=>whnf);(repeat(refine And.intro ?_ ?_;(focus((first|omega|exact⟨rfl,True.intro⟩|exact⟨rfl,rfl,True.intro⟩|rfl|(simp only[List.length_set];first|omega|(refine⟨?_,?_⟩<;>omega)|(refine⟨?_,?_,?_⟩<;>omega))|(intro hg;(try simp only[bB]at hg);first|omega|(refine⟨?_,?_⟩<;>omega)|(refine⟨?_,?_,?_⟩<;>first|omega|(show _<_;(try simp only[List.length_set]);omega)|exact leT rfl))|(refine⟨?_,?_⟩<;>omega)|(refine⟨?_,?_,?_⟩<;>first|omega|(show _<_;(try simp only[List.length_set]);omega)|exact leT rfl)|(simp only[show rI.d=(0:Int)from rfl];omega));done));(conv=>whnf))))
    refine LoopI.back (p.1 + 1, cap') ⟨by show p.1 + 1 ≤ nms.length; omega, by show p.1 + 1 ≤ 8; omega, hq1, hq2⟩ (by show nms.length - (p.1 + 1) < nms.length - p.1; omega) (Sub.of [(4, 6)] [] rfl ?_)
    (repeat' (refine And.intro ?_ ?_)) <;> first | rfl | exact True.intro | (rw [hll]; rfl) | omega
  clear g1 hi1
  obtain ⟨m, cf⟩ := p
  simp only at hi2 hi3 hi4 hll ⊢
  generalize nms.take m = F at *
  rw [← hll] at hi3 ⊢
  rw [← hll] at hi2
  clear hll
  have a1 := arnd_nn k 6 (by decide)
  have a2 := arnd_lt k 6 (by decide)
  have b1 := arnd_nn (k.tdiv 6) 6 (by decide)
  have b2 := arnd_lt (k.tdiv 6) 6 (by decide)
  ((conv=>whnf);(repeat(refine And.intro ?_ ?_;(focus((first|omega|exact⟨rfl,True.intro⟩|exact⟨rfl,rfl,True.intro⟩|rfl|(simp only[List.length_set];first|omega|(refine⟨?_,?_⟩<;>omega)|(refine⟨?_,?_,?_⟩<;>omega))|(intro hg;(try simp only[bB]at hg);first|omega|(refine⟨?_,?_⟩<;>omega)|(refine⟨?_,?_,?_⟩<;>first|omega|(show _<_;(try simp only[List.length_set]);omega)|exact leT rfl))|(refine⟨?_,?_⟩<;>omega)|(refine⟨?_,?_,?_⟩<;>first|omega|(show _<_;(try simp only[List.length_set]);omega)|exact leT rfl)|(simp only[show rI.d=(0:Int)from rfl];omega));done));(conv=>whnf))))
  refine EvCall.rows (R := rS) (ty := 9) (xs := namesL) Try.call51 (fun ρ W hp => names_s W) (fun cn hn1 hn2 => ?_)
  have hn6 : namesL.length = 6 := rfl
  ((conv=>whnf);(repeat(refine And.intro ?_ ?_;(focus((first|omega|exact⟨rfl,True.intro⟩|exact⟨rfl,rfl,True.intro⟩|rfl|(simp only[List.length_set];first|omega|(refine⟨?_,?_⟩<;>omega)|(refine⟨?_,?_,?_⟩<;>omega))|(intro hg;(try simp only[bB]at hg);first|omega|(refine⟨?_,?_⟩<;>omega)|(refine⟨?_,?_,?_⟩<;>first|omega|(show _<_;(try simp only[List.length_set]);omega)|exact leT rfl))|(refine⟨?_,?_⟩<;>omega)|(refine⟨?_,?_,?_⟩<;>first|omega|(show _<_;(try simp only[List.length_set]);omega)|exact leT rfl)|(simp only[show rI.d=(0:Int)from rfl];omega));done));(conv=>whnf))))
  (refine EvDraw.one (.q 0 (.q 1 (.q 2 (.q 6 (.q 7 (.q 8 (.n 3 true (.q 4 (.q 5 (.n 9 false (.q 10 (.q 11 (.n 12 false (.n 13 true (.q 14 (.z)) (.e)) (.e)))) (.e)))) (.e)))))))) (by kernel_rfl) ?_)
  ((conv=>whnf);(repeat(refine And.intro ?_ ?_;(focus((first|omega|exact⟨rfl,True.intro⟩|exact⟨rfl,rfl,True.intro⟩|rfl|(simp only[List.length_set];first|omega|(refine⟨?_,?_⟩<;>omega)|(refine⟨?_,?_,?_⟩<;>omega))|(intro hg;(try simp only[bB]at hg);first|omega|(refine⟨?_,?_⟩<;>omega)|(refine⟨?_,?_,?_⟩<;>first|omega|(show _<_;(try simp only[List.length_set]);omega)|exact leT rfl))|(refine⟨?_,?_⟩<;>omega)|(refine⟨?_,?_,?_⟩<;>first|omega|(show _<_;(try simp only[List.length_set]);omega)|exact leT rfl)|(simp only[show rI.d=(0:Int)from rfl];omega));done));(conv=>whnf))))
  refine EvCall.plain Try.call24 (.v (.int .i64 (arnd k 6))) rfl (fun ρ W hp => around_s _ _ _ ⟨hk0, hk1⟩ (by decide) (by decide)) ?_
  ((conv=>whnf);(repeat(refine And.intro ?_ ?_;(focus((first|omega|exact⟨rfl,True.intro⟩|exact⟨rfl,rfl,True.intro⟩|rfl|(simp only[List.length_set];first|omega|(refine⟨?_,?_⟩<;>omega)|(refine⟨?_,?_,?_⟩<;>omega))|(intro hg;(try simp only[bB]at hg);first|omega|(refine⟨?_,?_⟩<;>omega)|(refine⟨?_,?_,?_⟩<;>first|omega|(show _<_;(try simp only[List.length_set]);omega)|exact leT rfl))|(refine⟨?_,?_⟩<;>omega)|(refine⟨?_,?_,?_⟩<;>first|omega|(show _<_;(try simp only[List.length_set]);omega)|exact leT rfl)|(simp only[show rI.d=(0:Int)from rfl];omega));done));(conv=>whnf))))
  refine EvCall.plain Try.call24 (.v (.int .i64 (arnd (k.tdiv 6) 6))) rfl (fun ρ W hp => around_s _ _ _ ⟨hk60, hk61⟩ (by decide) (by decide)) ?_
  ((conv=>whnf);(repeat(refine And.intro ?_ ?_;(focus((first|omega|exact⟨rfl,True.intro⟩|exact⟨rfl,rfl,True.intro⟩|rfl|(simp only[List.length_set];first|omega|(refine⟨?_,?_⟩<;>omega)|(refine⟨?_,?_,?_⟩<;>omega))|(intro hg;(try simp only[bB]at hg);first|omega|(refine⟨?_,?_⟩<;>omega)|(refine⟨?_,?_,?_⟩<;>first|omega|(show _<_;(try simp only[List.length_set]);omega)|exact leT rfl))|(refine⟨?_,?_⟩<;>omega)|(refine⟨?_,?_,?_⟩<;>first|omega|(show _<_;(try simp only[List.length_set]);omega)|exact leT rfl)|(simp only[show rI.d=(0:Int)from rfl];omega));done));(conv=>whnf))))
  obtain ⟨x, hx⟩ : ∃ x, namesL.getD (arnd k 6).toNat ByteArray.empty = x := ⟨_, rfl⟩
  obtain ⟨y, hy⟩ : ∃ y, namesL.getD (arnd (k.tdiv 6) 6).toNat ByteArray.empty = y := ⟨_, rfl⟩
  refine EvBi.append (R := rS) tyok74 rfl tyok9 rfl (by decide) rfl rfl rfl hi3 [x, y] (fun ρ W hp => hp.lit (R := rS) (ys := [x, y]) rfl (by decide) (by simp) (by omega) (by rw [← hx, ← hy]; rfl)) (by show (_ + 2) * 16 ≤ _; omega) (by show _ + 2 ≤ _; omega) (fun cg hg1 hg2 => ?_)
  have hll : (F ++ [x, y]).length = F.length + [x, y].length := by simp
  rw [← hll] at hg1 ⊢
  generalize F ++ [x, y] = G at *
  clear hll
  ((conv=>whnf);(repeat(refine And.intro ?_ ?_;(focus((first|omega|exact⟨rfl,True.intro⟩|exact⟨rfl,rfl,True.intro⟩|rfl|(simp only[List.length_set];first|omega|(refine⟨?_,?_⟩<;>omega)|(refine⟨?_,?_,?_⟩<;>omega))|(intro hg;(try simp only[bB]at hg);first|omega|(refine⟨?_,?_⟩<;>omega)|(refine⟨?_,?_,?_⟩<;>first|omega|(show _<_;(try simp only[List.length_set]);omega)|exact leT rfl))|(refine⟨?_,?_⟩<;>omega)|(refine⟨?_,?_,?_⟩<;>first|omega|(show _<_;(try simp only[List.length_set]);omega)|exact leT rfl)|(simp only[show rI.d=(0:Int)from rfl];omega));done));(conv=>whnf))))
  refine EvCall.rows (R := rL) (ty := 62) (xs := keepP G d) Try.call52 (fun ρ W hp => keep_s _ _ d G W (hp.rowsIn (R := rL) (n := 2) (c := ca) rfl (by decide) ha1 ha2 2) (hp.rowsIn (R := rS) (n := 7) (c := cg) rfl (by decide) hg1 hg2 1) hdl) (fun cx hx1 hx2 => ?_)
  ((conv=>whnf);(repeat(refine And.intro ?_ ?_;(focus((first|omega|exact⟨rfl,True.intro⟩|exact⟨rfl,rfl,True.intro⟩|rfl|(simp only[List.length_set];first|omega|(refine⟨?_,?_⟩<;>omega)|(refine⟨?_,?_,?_⟩<;>omega))|(intro hg;(try simp only[bB]at hg);first|omega|(refine⟨?_,?_⟩<;>omega)|(refine⟨?_,?_,?_⟩<;>first|omega|(show _<_;(try simp only[List.length_set]);omega)|exact leT rfl))|(refine⟨?_,?_⟩<;>omega)|(refine⟨?_,?_,?_⟩<;>first|omega|(show _<_;(try simp only[List.length_set]);omega)|exact leT rfl)|(simp only[show rI.d=(0:Int)from rfl];omega));done));(conv=>whnf))))
  refine EvCall.rows (R := rL) (ty := 62) (xs := keepP G s) Try.call52 (fun ρ W hp => keep_s _ _ s G W (hp.rowsIn (R := rL) (n := 3) (c := cb) rfl (by decide) hb1 hb2 2) (hp.rowsIn (R := rS) (n := 7) (c := cg) rfl (by decide) hg1 hg2 1) hsl) (fun cy hy1 hy2 => ?_)
  have hkl := keep_len G s
  have hkv := valid_keep G hsv
  have hkb := keep_lbs hss G
  have hkk := keep_keep G s
  have hkn := keep_nil s
  ((conv=>whnf);(repeat(refine And.intro ?_ ?_;(focus((first|omega|exact⟨rfl,True.intro⟩|exact⟨rfl,rfl,True.intro⟩|rfl|(simp only[List.length_set];first|omega|(refine⟨?_,?_⟩<;>omega)|(refine⟨?_,?_,?_⟩<;>omega))|(intro hg;(try simp only[bB]at hg);first|omega|(refine⟨?_,?_⟩<;>omega)|(refine⟨?_,?_,?_⟩<;>first|omega|(show _<_;(try simp only[List.length_set]);omega)|exact leT rfl))|(refine⟨?_,?_⟩<;>omega)|(refine⟨?_,?_,?_⟩<;>first|omega|(show _<_;(try simp only[List.length_set]);omega)|exact leT rfl)|(simp only[show rI.d=(0:Int)from rfl];omega));done));(conv=>whnf))))
  refine EvCall.rows (R := rL) (ty := 62) (xs := keepP G d) Try.call53 (fun ρ W hp => ref_keep_s _ _ d G W (hp.rowsIn (R := rL) (n := 2) (c := ca) rfl (by decide) ha1 ha2 2) (hp.rowsIn (R := rS) (n := 7) (c := cg) rfl (by decide) hg1 hg2 1) hdl) (fun cz hz1 hz2 => ?_)
  ((conv=>whnf);(repeat(refine And.intro ?_ ?_;(focus((first|omega|exact⟨rfl,True.intro⟩|exact⟨rfl,rfl,True.intro⟩|rfl|(simp only[List.length_set];first|omega|(refine⟨?_,?_⟩<;>omega)|(refine⟨?_,?_,?_⟩<;>omega))|(intro hg;(try simp only[bB]at hg);first|omega|(refine⟨?_,?_⟩<;>omega)|(refine⟨?_,?_,?_⟩<;>first|omega|(show _<_;(try simp only[List.length_set]);omega)|exact leT rfl))|(refine⟨?_,?_⟩<;>omega)|(refine⟨?_,?_,?_⟩<;>first|omega|(show _<_;(try simp only[List.length_set]);omega)|exact leT rfl)|(simp only[show rI.d=(0:Int)from rfl];omega));done));(conv=>whnf))))
  refine EvCall.plain Try.call46 (.v (.bool (decide (keepP G d = keepP G d)))) rfl (fun ρ W hp => same_s _ _ _ _ W (hp.rowsIn (R := rL) (n := 8) (c := cx) rfl (by decide) hx1 hx2 2) (hp.rowsIn (R := rL) (n := 10) (c := cz) rfl (by decide) hz1 hz2 2)) ?_
  rw [decide_eq_true (rfl : keepP G d = keepP G d)]
  ((conv=>whnf);(repeat(refine And.intro ?_ ?_;(focus((first|omega|exact⟨rfl,True.intro⟩|exact⟨rfl,rfl,True.intro⟩|rfl|(simp only[List.length_set];first|omega|(refine⟨?_,?_⟩<;>omega)|(refine⟨?_,?_,?_⟩<;>omega))|(intro hg;(try simp only[bB]at hg);first|omega|(refine⟨?_,?_⟩<;>omega)|(refine⟨?_,?_,?_⟩<;>first|omega|(show _<_;(try simp only[List.length_set]);omega)|exact leT rfl))|(refine⟨?_,?_⟩<;>omega)|(refine⟨?_,?_,?_⟩<;>first|omega|(show _<_;(try simp only[List.length_set]);omega)|exact leT rfl)|(simp only[show rI.d=(0:Int)from rfl];omega));done));(conv=>whnf))))
  refine EvCallC.on rfl ?_
  refine EvCall.rows (R := rL) (ty := 62) (xs := keepP G s) Try.call53 (fun ρ W hp => ref_keep_s _ _ s G W (hp.rowsIn (R := rL) (n := 3) (c := cb) rfl (by decide) hb1 hb2 2) (hp.rowsIn (R := rS) (n := 7) (c := cg) rfl (by decide) hg1 hg2 1) hsl) (fun cu hu1 hu2 => ?_)
  ((conv=>whnf);(repeat(refine And.intro ?_ ?_;(focus((first|omega|exact⟨rfl,True.intro⟩|exact⟨rfl,rfl,True.intro⟩|rfl|(simp only[List.length_set];first|omega|(refine⟨?_,?_⟩<;>omega)|(refine⟨?_,?_,?_⟩<;>omega))|(intro hg;(try simp only[bB]at hg);first|omega|(refine⟨?_,?_⟩<;>omega)|(refine⟨?_,?_,?_⟩<;>first|omega|(show _<_;(try simp only[List.length_set]);omega)|exact leT rfl))|(refine⟨?_,?_⟩<;>omega)|(refine⟨?_,?_,?_⟩<;>first|omega|(show _<_;(try simp only[List.length_set]);omega)|exact leT rfl)|(simp only[show rI.d=(0:Int)from rfl];omega));done));(conv=>whnf))))
  refine EvCallC.plain Try.call46 (.v (.bool true)) rfl (fun hc ρ W hp => by
    have := same_s _ _ _ _ W (hp.rowsIn (R := rL) (n := 9) (c := cy) rfl (by decide) hy1 hy2 2) (hp.rowsIn (R := rL) (n := 11) (c := cu) rfl (by decide) hu1 hu2 2)
    rw [decide_eq_true rfl] at this
    exact this) ?_
  ((conv=>whnf);(repeat(refine And.intro ?_ ?_;(focus((first|omega|exact⟨rfl,True.intro⟩|exact⟨rfl,rfl,True.intro⟩|rfl|(simp only[List.length_set];first|omega|(refine⟨?_,?_⟩<;>omega)|(refine⟨?_,?_,?_⟩<;>omega))|(intro hg;(try simp only[bB]at hg);first|omega|(refine⟨?_,?_⟩<;>omega)|(refine⟨?_,?_,?_⟩<;>first|omega|(show _<_;(try simp only[List.length_set]);omega)|exact leT rfl))|(refine⟨?_,?_⟩<;>omega)|(refine⟨?_,?_,?_⟩<;>first|omega|(show _<_;(try simp only[List.length_set]);omega)|exact leT rfl)|(simp only[show rI.d=(0:Int)from rfl];omega));done));(conv=>whnf))))
  refine EvCallC.on rfl ?_
  refine EvCall.rows (R := rL) (ty := 62) (xs := keepP G s) Try.call52 (fun ρ W hp => by
    have := keep_s _ _ (keepP G s) G W (hp.rowsIn (R := rL) (n := 9) (c := cy) rfl (by decide) hy1 hy2 2) (hp.rowsIn (R := rS) (n := 7) (c := cg) rfl (by decide) hg1 hg2 1) (by omega)
    rw [show ((keepP G s).filter fun e => inB G e.1) = keepP G s from hkk] at this
    exact this) (fun cv hv1 hv2 => ?_)
  ((conv=>whnf);(repeat(refine And.intro ?_ ?_;(focus((first|omega|exact⟨rfl,True.intro⟩|exact⟨rfl,rfl,True.intro⟩|rfl|(simp only[List.length_set];first|omega|(refine⟨?_,?_⟩<;>omega)|(refine⟨?_,?_,?_⟩<;>omega))|(intro hg;(try simp only[bB]at hg);first|omega|(refine⟨?_,?_⟩<;>omega)|(refine⟨?_,?_,?_⟩<;>first|omega|(show _<_;(try simp only[List.length_set]);omega)|exact leT rfl))|(refine⟨?_,?_⟩<;>omega)|(refine⟨?_,?_,?_⟩<;>first|omega|(show _<_;(try simp only[List.length_set]);omega)|exact leT rfl)|(simp only[show rI.d=(0:Int)from rfl];omega));done));(conv=>whnf))))
  refine EvCallC.plain Try.call46 (.v (.bool true)) rfl (fun hc ρ W hp => by
    have := same_s _ _ _ _ W (hp.rowsIn (R := rL) (n := 12) (c := cv) rfl (by decide) hv1 hv2 2) (hp.rowsIn (R := rL) (n := 9) (c := cy) rfl (by decide) hy1 hy2 2)
    rw [decide_eq_true rfl] at this
    exact this) ?_
  ((conv=>whnf);(repeat(refine And.intro ?_ ?_;(focus((first|omega|exact⟨rfl,True.intro⟩|exact⟨rfl,rfl,True.intro⟩|rfl|(simp only[List.length_set];first|omega|(refine⟨?_,?_⟩<;>omega)|(refine⟨?_,?_,?_⟩<;>omega))|(intro hg;(try simp only[bB]at hg);first|omega|(refine⟨?_,?_⟩<;>omega)|(refine⟨?_,?_,?_⟩<;>first|omega|(show _<_;(try simp only[List.length_set]);omega)|exact leT rfl))|(refine⟨?_,?_⟩<;>omega)|(refine⟨?_,?_,?_⟩<;>first|omega|(show _<_;(try simp only[List.length_set]);omega)|exact leT rfl)|(simp only[show rI.d=(0:Int)from rfl];omega));done));(conv=>whnf))))
  refine EvCallC.plain Try.call49 (.v (.bool true)) rfl (fun hc ρ W hp => by
    have := valid_s _ _ W (hp.rowsIn (R := rL) (n := 9) (c := cy) rfl (by decide) hy1 hy2 2) hkb
    rw [hkv] at this
    exact this) ?_
  ((conv=>whnf);(repeat(refine And.intro ?_ ?_;(focus((first|omega|exact⟨rfl,True.intro⟩|exact⟨rfl,rfl,True.intro⟩|rfl|(simp only[List.length_set];first|omega|(refine⟨?_,?_⟩<;>omega)|(refine⟨?_,?_,?_⟩<;>omega))|(intro hg;(try simp only[bB]at hg);first|omega|(refine⟨?_,?_⟩<;>omega)|(refine⟨?_,?_,?_⟩<;>first|omega|(show _<_;(try simp only[List.length_set]);omega)|exact leT rfl))|(refine⟨?_,?_⟩<;>omega)|(refine⟨?_,?_,?_⟩<;>first|omega|(show _<_;(try simp only[List.length_set]);omega)|exact leT rfl)|(simp only[show rI.d=(0:Int)from rfl];omega));done));(conv=>whnf))))
  refine EvCallC.on rfl ?_
  refine EvCall.rows (R := rL) (ty := 62) (xs := s) Try.call52 (fun ρ W hp => by
    have := keep_s _ _ s namesL W (hp.rowsIn (R := rL) (n := 3) (c := cb) rfl (by decide) hb1 hb2 2) (hp.rowsIn (R := rS) (n := 5) (c := cn) rfl (by decide) hn1 hn2 1) hsl
    rw [show (s.filter fun e => inB namesL e.1) = s from hka] at this
    exact this) (fun ct ht1 ht2 => ?_)
  ((conv=>whnf);(repeat(refine And.intro ?_ ?_;(focus((first|omega|exact⟨rfl,True.intro⟩|exact⟨rfl,rfl,True.intro⟩|rfl|(simp only[List.length_set];first|omega|(refine⟨?_,?_⟩<;>omega)|(refine⟨?_,?_,?_⟩<;>omega))|(intro hg;(try simp only[bB]at hg);first|omega|(refine⟨?_,?_⟩<;>omega)|(refine⟨?_,?_,?_⟩<;>first|omega|(show _<_;(try simp only[List.length_set]);omega)|exact leT rfl))|(refine⟨?_,?_⟩<;>omega)|(refine⟨?_,?_,?_⟩<;>first|omega|(show _<_;(try simp only[List.length_set]);omega)|exact leT rfl)|(simp only[show rI.d=(0:Int)from rfl];omega));done));(conv=>whnf))))
  refine EvCallC.plain Try.call46 (.v (.bool true)) rfl (fun hc ρ W hp => by
    have := same_s _ _ _ _ W (hp.rowsIn (R := rL) (n := 13) (c := ct) rfl (by decide) ht1 ht2 2) (hp.rowsIn (R := rL) (n := 3) (c := cb) rfl (by decide) hb1 hb2 2)
    rw [decide_eq_true rfl] at this
    exact this) ?_
  ((conv=>whnf);(repeat(refine And.intro ?_ ?_;(focus((first|omega|exact⟨rfl,True.intro⟩|exact⟨rfl,rfl,True.intro⟩|rfl|(simp only[List.length_set];first|omega|(refine⟨?_,?_⟩<;>omega)|(refine⟨?_,?_,?_⟩<;>omega))|(intro hg;(try simp only[bB]at hg);first|omega|(refine⟨?_,?_⟩<;>omega)|(refine⟨?_,?_,?_⟩<;>first|omega|(show _<_;(try simp only[List.length_set]);omega)|exact leT rfl))|(refine⟨?_,?_⟩<;>omega)|(refine⟨?_,?_,?_⟩<;>first|omega|(show _<_;(try simp only[List.length_set]);omega)|exact leT rfl)|(simp only[show rI.d=(0:Int)from rfl];omega));done));(conv=>whnf))))
  refine EvCallC.on rfl ?_
  refine EvCall.rows (R := rL) (ty := 62) (xs := []) Try.call52 (fun ρ W hp => by
    have := keep_s _ _ s [] W (hp.rowsIn (R := rL) (n := 3) (c := cb) rfl (by decide) hb1 hb2 2) (nil_rows W) hsl
    rw [show (s.filter fun e => inB [] e.1) = [] from hkn] at this
    exact this) (fun cr hr1 hr2 => ?_)
  ((conv=>whnf);(repeat(refine And.intro ?_ ?_;(focus((first|omega|exact⟨rfl,True.intro⟩|exact⟨rfl,rfl,True.intro⟩|rfl|(simp only[List.length_set];first|omega|(refine⟨?_,?_⟩<;>omega)|(refine⟨?_,?_,?_⟩<;>omega))|(intro hg;(try simp only[bB]at hg);first|omega|(refine⟨?_,?_⟩<;>omega)|(refine⟨?_,?_,?_⟩<;>first|omega|(show _<_;(try simp only[List.length_set]);omega)|exact leT rfl))|(refine⟨?_,?_⟩<;>omega)|(refine⟨?_,?_,?_⟩<;>first|omega|(show _<_;(try simp only[List.length_set]);omega)|exact leT rfl)|(simp only[show rI.d=(0:Int)from rfl];omega));done));(conv=>whnf))))
  refine EvCallC.plain Try.call37 (.v (.bool true)) rfl (fun hc ρ W hp => lives5_s W) ?_
  ((conv=>whnf);(repeat(refine And.intro ?_ ?_;(focus((first|omega|exact⟨rfl,True.intro⟩|exact⟨rfl,rfl,True.intro⟩|rfl|(simp only[List.length_set];first|omega|(refine⟨?_,?_⟩<;>omega)|(refine⟨?_,?_,?_⟩<;>omega))|(intro hg;(try simp only[bB]at hg);first|omega|(refine⟨?_,?_⟩<;>omega)|(refine⟨?_,?_,?_⟩<;>first|omega|(show _<_;(try simp only[List.length_set]);omega)|exact leT rfl))|(refine⟨?_,?_⟩<;>omega)|(refine⟨?_,?_,?_⟩<;>first|omega|(show _<_;(try simp only[List.length_set]);omega)|exact leT rfl)|(simp only[show rI.d=(0:Int)from rfl];omega));done));(conv=>whnf))))
  exact EvRet.ret (fun ρ => by simp [den])
theorem walk_LabelsKeep (w : World) (V0 : Value) (zs : List Int) (h0 : Ints w V0 zs) (V1 : Value) (ns : List ByteArray) (h1 : RowsIn rS w V1 ns ∧ ∀ c ∈ ns, c.size ≤ maxLen) (k : Int) (hk : I64 k) :
    Calls Try.prog 9 #[V0, V1, .int .i64 k] w fun e w' => e = .returned (.bool true) ∧ Below w.heap.size w w' := (labelskeep_s V0 V1 zs ns k w h0 h1.1 hk).out
end Go.Proofs.Ytebfhljamoapjaa
