
/- Lists of fractions, sorted; walked. -/
import Derived.Test.YthknflclfmnciaaQg
namespace Go.Proofs.Ythknflclfmnciaa
open Go.RowKit
set_option linter.unusedVariables false
set_option linter.unusedSimpArgs false

set_option maxRecDepth 10000 in
theorem sorted4_s (v : Value) (l : List Fq) (w : World) (hv : RowsIn rF w v l) (hn : l.length ≤ 1000) (hF : ∀ y ∈ l, vF y) : Con Try.prog 32 #[v] w (RetRows rF 25 w (sortF l)) := by
  obtain ⟨A1, c1, rfl, e1, e2⟩ := hv.form
  refine enter tabOk mixed Try.func32 rfl Try.ntmps32 Try.results32 [.s 0 2 l.length c1] (fun _ => A1) [⟨0, false, 25, 2, c1, .rows Fq rF (l)⟩] 1 rfl rfl (.ro (hp0 _ _ _) _ rfl rfl rfl (ro_rows hv rfl _)) ?_
  ((conv=>whnf);(repeat(refine And.intro ?_ ?_;(focus((first|omega|exact⟨rfl,True.intro⟩|exact⟨rfl,rfl,True.intro⟩|rfl|(simp only[List.length_set];first|omega|(refine⟨?_,?_⟩<;>omega)|(refine⟨?_,?_,?_⟩<;>omega))|(intro hg;(try simp only[bB]at hg);first|omega|(refine⟨?_,?_⟩<;>omega)|(refine⟨?_,?_,?_⟩<;>first|omega|(show _<_;(try simp only[List.length_set]);omega)|exact leT rfl))|(refine⟨?_,?_⟩<;>omega)|(refine⟨?_,?_,?_⟩<;>first|omega|(show _<_;(try simp only[List.length_set]);omega)|exact leT rfl)|(simp only[show rI.d=(0:Int)from rfl];omega));done));(conv=>whnf))))
  refine EvLoop.inv (α := Nat × Nat) (fun p => p.1 ≤ l.length ∧ p.1 ≤ p.2 ∧ p.2 ≤ 9223372036854775807) (fun p => l.length - p.1) (fun p => [(4, [], .v (.int .i64 ((p.1 : Int)))), (3, [], .s 1 2 p.1 p.2), (0, [], .s 0 2 l.length c1)])
    (fun p => [⟨1, true, 25, 2, p.2, .rows Fq rF (sortF (l.take p.1))⟩, ⟨0, false, 25, 2, c1, .rows Fq rF (l)⟩]) 2 (0, 0) ⟨by simp, by simp, by decide⟩ (Sub.of [] [1] rfl ?_) ?_
  · (repeat' (refine And.intro ?_ ?_)) <;> first | rfl | trivial | omega | (show _ = _ ; simp [sortF])
  intro p ⟨q1, q2, q3⟩
  have hsl : (sortF (l.take p.1)).length = p.1 := by rw [sortF_len]; simp; omega
  ((conv=>whnf);(repeat(refine And.intro ?_ ?_;(focus((first|omega|exact⟨rfl,True.intro⟩|exact⟨rfl,rfl,True.intro⟩|rfl|(simp only[List.length_set];first|omega|(refine⟨?_,?_⟩<;>omega)|(refine⟨?_,?_,?_⟩<;>omega))|(intro hg;(try simp only[bB]at hg);first|omega|(refine⟨?_,?_⟩<;>omega)|(refine⟨?_,?_,?_⟩<;>first|omega|(show _<_;(try simp only[List.length_set]);omega)|exact leT rfl))|(refine⟨?_,?_⟩<;>omega)|(refine⟨?_,?_,?_⟩<;>first|omega|(show _<_;(try simp only[List.length_set]);omega)|exact leT rfl)|(simp only[show rI.d=(0:Int)from rfl];omega));done));(conv=>whnf))))
  refine EvIf.split (fun g1 => ?_) (fun g1 => ?_)
  · simp only [decide_eq_true_eq] at g1
    have hts : l.take (p.1 + 1) = l.take p.1 ++ [l.getD p.1 fr0] := take_snoc l p.1 fr0 (by omega)
    have hxv : vF (l.getD p.1 fr0) := hF _ (getD_mem (by omega))
    have hlt : (l.take p.1).length = p.1 := by simp; omega
    have hall : ∀ y ∈ sortF (l.take p.1), vF y := fun y hy => hF y (List.mem_of_mem_take ((mem_sortF y _).1 hy))
    have hfrom := fun j => insF_from (l := l.take p.1) (x := l.getD p.1 fr0) (fun y hy => hF y (List.mem_of_mem_take hy)) hxv (j := j)
    rw [hlt] at hfrom
    obtain ⟨s, hs⟩ : ∃ s, sortF (l.take p.1) = s := ⟨_, rfl⟩
    obtain ⟨x, hx⟩ : ∃ x, l.getD p.1 fr0 = x := ⟨_, rfl⟩
    have hnew : sortF (l.take (p.1 + 1)) = insF s x := by rw [hts, sortF_snoc, hs, hx]
    rw [hs] at hsl hall ⊢
    rw [hs, hx] at hfrom
    rw [hx] at hxv
    ((conv=>whnf);(repeat(refine And.intro ?_ ?_;(focus((first|omega|exact⟨rfl,True.intro⟩|exact⟨rfl,rfl,True.intro⟩|rfl|(simp only[List.length_set];first|omega|(refine⟨?_,?_⟩<;>omega)|(refine⟨?_,?_,?_⟩<;>omega))|(intro hg;(try simp only[bB]at hg);first|omega|(refine⟨?_,?_⟩<;>omega)|(refine⟨?_,?_,?_⟩<;>first|omega|(show _<_;(try simp only[List.length_set]);omega)|exact leT rfl))|(refine⟨?_,?_⟩<;>omega)|(refine⟨?_,?_,?_⟩<;>first|omega|(show _<_;(try simp only[List.length_set]);omega)|exact leT rfl)|(simp only[show rI.d=(0:Int)from rfl];omega));done));(conv=>whnf))))
    refine EvLoop.inv (α := Nat) (fun k => k ≤ s.length ∧ ∀ m, k ≤ m → m < p.1 → cmpF x (s.getD m fr0) < 0) (fun k => k) (fun k => [(5, [], .v (.int .i64 ((k : Int)))), (4, [], .v (.int .i64 ((p.1 : Int)))), (3, [], .s 1 2 p.1 p.2), (0, [], .s 0 2 l.length c1)])
      (fun k => [⟨1, true, 25, 2, p.2, .rows Fq rF (s)⟩, ⟨0, false, 25, 2, c1, .rows Fq rF (l)⟩]) 2 s.length ⟨by omega, fun m hm => by omega⟩ (Sub.of [] [] rfl ?_) ?_
    · rw [hsl]
      ((repeat' (refine And.intro ?_ ?_)) <;> first | rfl | exact True.intro | omega)
    intro k ⟨hk, hk2⟩
    ((conv=>whnf);(repeat(refine And.intro ?_ ?_;(focus((first|omega|exact⟨rfl,True.intro⟩|exact⟨rfl,rfl,True.intro⟩|rfl|(simp only[List.length_set];first|omega|(refine⟨?_,?_⟩<;>omega)|(refine⟨?_,?_,?_⟩<;>omega))|(intro hg;(try simp only[bB]at hg);first|omega|(refine⟨?_,?_⟩<;>omega)|(refine⟨?_,?_,?_⟩<;>first|omega|(show _<_;(try simp only[List.length_set]);omega)|exact leT rfl))|(refine⟨?_,?_⟩<;>omega)|(refine⟨?_,?_,?_⟩<;>first|omega|(show _<_;(try simp only[List.length_set]);omega)|exact leT rfl)|(simp only[show rI.d=(0:Int)from rfl];omega));done));(conv=>whnf))))
    (refine EvDraw.one (.q 0 (.q 1 (.q 2 (.q 3 (.q 4 (.q 5 (.q 6 (.q 7 (.q 8 (.q 9 (.q 10 (.q 11 (.n 12 true (.q 13 (.q 14 (.z))) (.e)))))))))))))) (by kernel_rfl) ?_)
    ((conv=>whnf);(repeat(refine And.intro ?_ ?_;(focus((first|omega|exact⟨rfl,True.intro⟩|exact⟨rfl,rfl,True.intro⟩|rfl|(simp only[List.length_set];first|omega|(refine⟨?_,?_⟩<;>omega)|(refine⟨?_,?_,?_⟩<;>omega))|(intro hg;(try simp only[bB]at hg);first|omega|(refine⟨?_,?_⟩<;>omega)|(refine⟨?_,?_,?_⟩<;>first|omega|(show _<_;(try simp only[List.length_set]);omega)|exact leT rfl))|(refine⟨?_,?_⟩<;>omega)|(refine⟨?_,?_,?_⟩<;>first|omega|(show _<_;(try simp only[List.length_set]);omega)|exact leT rfl)|(simp only[show rI.d=(0:Int)from rfl];omega));done));(conv=>whnf))))
    have ek : Int.toNat ((k : Int) - 1) = k - 1 := by omega
    refine EvCallC.plain Try.call61 (.v (.int .i64 (cmpF x (s.getD (k - 1) fr0)))) rfl (fun hc ρ W hp => by
      have hc : 0 < k := by simpa using hc
      have := compare3_s x (s.getD (Int.toNat ((k : Int) - 1)) fr0) W hxv.inF (hall _ (getD_mem (by omega))).inF
      rw [ek] at this
      rw [← hx] at this ⊢
      rw [← ek] at this ⊢
      exact this) ?_
    ((conv=>whnf);(repeat(refine And.intro ?_ ?_;(focus((first|omega|exact⟨rfl,True.intro⟩|exact⟨rfl,rfl,True.intro⟩|rfl|(simp only[List.length_set];first|omega|(refine⟨?_,?_⟩<;>omega)|(refine⟨?_,?_,?_⟩<;>omega))|(intro hg;(try simp only[bB]at hg);first|omega|(refine⟨?_,?_⟩<;>omega)|(refine⟨?_,?_,?_⟩<;>first|omega|(show _<_;(try simp only[List.length_set]);omega)|exact leT rfl))|(refine⟨?_,?_⟩<;>omega)|(refine⟨?_,?_,?_⟩<;>first|omega|(show _<_;(try simp only[List.length_set]);omega)|exact leT rfl)|(simp only[show rI.d=(0:Int)from rfl];omega));done));(conv=>whnf))))
    refine EvIf.split (fun g2 => ?_) (fun g2 => ?_)
    · simp only [Bool.and_eq_true, decide_eq_true_eq] at g2
      ((conv=>whnf);(repeat(refine And.intro ?_ ?_;(focus((first|omega|exact⟨rfl,True.intro⟩|exact⟨rfl,rfl,True.intro⟩|rfl|(simp only[List.length_set];first|omega|(refine⟨?_,?_⟩<;>omega)|(refine⟨?_,?_,?_⟩<;>omega))|(intro hg;(try simp only[bB]at hg);first|omega|(refine⟨?_,?_⟩<;>omega)|(refine⟨?_,?_,?_⟩<;>first|omega|(show _<_;(try simp only[List.length_set]);omega)|exact leT rfl))|(refine⟨?_,?_⟩<;>omega)|(refine⟨?_,?_,?_⟩<;>first|omega|(show _<_;(try simp only[List.length_set]);omega)|exact leT rfl)|(simp only[show rI.d=(0:Int)from rfl];omega));done));(conv=>whnf))))
      refine LoopI.back (k - 1) ⟨by omega, fun m hm hm2 => ?_⟩ (by omega) (Sub.of [] [] rfl ?_)
      · by_cases hmk : m = k - 1
        · rw [hmk]; exact g2.2
        · exact hk2 m (by omega) hm2
      · ((repeat' (refine And.intro ?_ ?_)) <;> first | rfl | exact True.intro | omega)
    · simp only [Bool.and_eq_false_iff, decide_eq_false_iff_not] at g2
      have hins : insF s x = s.take k ++ x :: s.drop k := hfrom k (by omega) hk2 (fun hks => by
        rcases g2 with g2 | g2
        · omega
        · exact g2)
      have htk : (s.take k).length = k := by simp; omega
      ((conv=>whnf);(repeat(refine And.intro ?_ ?_;(focus((first|omega|exact⟨rfl,True.intro⟩|exact⟨rfl,rfl,True.intro⟩|rfl|(simp only[List.length_set];first|omega|(refine⟨?_,?_⟩<;>omega)|(refine⟨?_,?_,?_⟩<;>omega))|(intro hg;(try simp only[bB]at hg);first|omega|(refine⟨?_,?_⟩<;>omega)|(refine⟨?_,?_,?_⟩<;>first|omega|(show _<_;(try simp only[List.length_set]);omega)|exact leT rfl))|(refine⟨?_,?_⟩<;>omega)|(refine⟨?_,?_,?_⟩<;>first|omega|(show _<_;(try simp only[List.length_set]);omega)|exact leT rfl)|(simp only[show rI.d=(0:Int)from rfl];omega));done));(conv=>whnf))))
      refine EvBi.append_nil (R := rF) tyok49 rfl tyok25 rfl (by decide) rfl (s.take k) (fun ρ W hp => hp.cut (R := rF) (n := 1) (xs := s) rfl (by decide) (by omega) q3 k hk 2) (by rw [htk]; show k * 16 ≤ _; omega) (by omega) (fun ca hq1 hq2 => ?_)
      ((conv=>whnf);(repeat(refine And.intro ?_ ?_;(focus((first|omega|exact⟨rfl,True.intro⟩|exact⟨rfl,rfl,True.intro⟩|rfl|(simp only[List.length_set];first|omega|(refine⟨?_,?_⟩<;>omega)|(refine⟨?_,?_,?_⟩<;>omega))|(intro hg;(try simp only[bB]at hg);first|omega|(refine⟨?_,?_⟩<;>omega)|(refine⟨?_,?_,?_⟩<;>first|omega|(show _<_;(try simp only[List.length_set]);omega)|exact leT rfl))|(refine⟨?_,?_⟩<;>omega)|(refine⟨?_,?_,?_⟩<;>first|omega|(show _<_;(try simp only[List.length_set]);omega)|exact leT rfl)|(simp only[show rI.d=(0:Int)from rfl];omega));done));(conv=>whnf))))
      refine EvBi.append (R := rF) tyok49 rfl tyok25 rfl (by decide) rfl rfl rfl hq1 [x] (fun ρ W hp => hp.lit (R := rF) (ys := [x]) (n := 3) rfl (by decide) (by simp) (by omega) (by rw [← hx]; rfl)) (by rw [htk]; show (k + 1) * 16 ≤ _; omega) (by rw [htk]; show k + 1 ≤ _; omega) (fun cb hq3 hq4 => ?_)
      ((conv=>whnf);(repeat(refine And.intro ?_ ?_;(focus((first|omega|exact⟨rfl,True.intro⟩|exact⟨rfl,rfl,True.intro⟩|rfl|(simp only[List.length_set];first|omega|(refine⟨?_,?_⟩<;>omega)|(refine⟨?_,?_,?_⟩<;>omega))|(intro hg;(try simp only[bB]at hg);first|omega|(refine⟨?_,?_⟩<;>omega)|(refine⟨?_,?_,?_⟩<;>first|omega|(show _<_;(try simp only[List.length_set]);omega)|exact leT rfl))|(refine⟨?_,?_⟩<;>omega)|(refine⟨?_,?_,?_⟩<;>first|omega|(show _<_;(try simp only[List.length_set]);omega)|exact leT rfl)|(simp only[show rI.d=(0:Int)from rfl];omega));done));(conv=>whnf))))
      have hdl : ((s.drop k).take (s.length - k)) = s.drop k := List.take_of_length_le (by simp)
      have hll : (s.take k ++ [x]).length = k + 1 := by simp; omega
      have hdk : (s.drop k).length = s.length - k := by simp
      refine EvBi.append (R := rF) (xs := s.take k ++ [x]) tyok49 rfl tyok25 rfl (by decide) rfl rfl (by rw [hll, htk]; rfl) (by rw [hll]; rw [htk] at hq3; exact hq3) (s.drop k) (fun ρ W hp => by
        have := hp.part (R := rF) (n := 1) (xs := s) (c := p.2) rfl (by decide) (by omega) q3 k s.length hk (Nat.le_refl _)
        rw [hdl, hsl] at this
        exact this) (by rw [hll, hdk]; show (k + 1 + (s.length - k)) * 16 ≤ _; omega) (by rw [hll, hdk]; omega) (fun cc hq5 hq6 => ?_)
      have hfin : s.take k ++ [x] ++ s.drop k = sortF (l.take (p.1 + 1)) := by rw [hnew, hins]; simp
      ((conv=>whnf);(repeat(refine And.intro ?_ ?_;(focus((first|omega|exact⟨rfl,True.intro⟩|exact⟨rfl,rfl,True.intro⟩|rfl|(simp only[List.length_set];first|omega|(refine⟨?_,?_⟩<;>omega)|(refine⟨?_,?_,?_⟩<;>omega))|(intro hg;(try simp only[bB]at hg);first|omega|(refine⟨?_,?_⟩<;>omega)|(refine⟨?_,?_,?_⟩<;>first|omega|(show _<_;(try simp only[List.length_set]);omega)|exact leT rfl))|(refine⟨?_,?_⟩<;>omega)|(refine⟨?_,?_,?_⟩<;>first|omega|(show _<_;(try simp only[List.length_set]);omega)|exact leT rfl)|(simp only[show rI.d=(0:Int)from rfl];omega));done));(conv=>whnf))))
      refine LoopI.back (p.1 + 1, cc) ⟨by show p.1 + 1 ≤ l.length; omega, by rw [hll, hdk] at hq5; show p.1 + 1 ≤ cc; omega, hq6⟩ (by show l.length - (p.1 + 1) < l.length - p.1; omega) (Sub.of [(1, 5)] [] rfl ?_)
      (repeat' (refine And.intro ?_ ?_)) <;> first | rfl | trivial | omega | (rw [hfin]; rfl) | (rw [← hfin]; rfl) | (rw [hll, hdk]; show _ = _; omega)
  · simp only [decide_eq_false_iff_not] at g1
    have hp1 : p.1 = l.length := by omega
    rw [hp1, List.take_length] at hsl ⊢
    ((conv=>whnf);(repeat(refine And.intro ?_ ?_;(focus((first|omega|exact⟨rfl,True.intro⟩|exact⟨rfl,rfl,True.intro⟩|rfl|(simp only[List.length_set];first|omega|(refine⟨?_,?_⟩<;>omega)|(refine⟨?_,?_,?_⟩<;>omega))|(intro hg;(try simp only[bB]at hg);first|omega|(refine⟨?_,?_⟩<;>omega)|(refine⟨?_,?_,?_⟩<;>first|omega|(show _<_;(try simp only[List.length_set]);omega)|exact leT rfl))|(refine⟨?_,?_⟩<;>omega)|(refine⟨?_,?_,?_⟩<;>first|omega|(show _<_;(try simp only[List.length_set]);omega)|exact leT rfl)|(simp only[show rI.d=(0:Int)from rfl];omega));done));(conv=>whnf))))
    exact EvRet.rows (R := rF) hsl.symm (by rw [hsl]; omega) rfl rfl
end Go.Proofs.Ythknflclfmnciaa
