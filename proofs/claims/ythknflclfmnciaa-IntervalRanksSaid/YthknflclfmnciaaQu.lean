
/- The reference of the k-th of intervals, and the law IntervalKth; walked. -/
import Derived.Test.YthknflclfmnciaaQr
namespace Go.Proofs.Ythknflclfmnciaa
open Go.RowKit
set_option linter.unusedVariables false
set_option linter.unusedSimpArgs false

def arnd (n m : Int) : Int := (if n < 0 then -(n + 1) else n) % m
theorem arnd_nn (n m : Int) (h : 1 ≤ m) : 0 ≤ arnd n m := Int.emod_nonneg _ (by omega)
theorem arnd_lt (n m : Int) (h : 1 ≤ m) : arnd n m < m := Int.emod_lt_of_pos _ (by omega)
theorem around_s (n m : Int) (w : World) (hn : -9223372036854775808 ≤ n ∧ n ≤ 9223372036854775807) (hm : 1 ≤ m ∧ m ≤ 9223372036854775807) : Con Try.prog 13 #[.int .i64 n, .int .i64 m] w (Ret w (.int .i64 (arnd n m))) := by
  refine enter tabOk mixed Try.func13 rfl Try.ntmps13 Try.results13 [.v (.int .i64 n), .v (.int .i64 m)] (fun _ => none) [] 0 rfl rfl (hp0 _ _ _) ?_
  ((conv=>whnf);(repeat(refine And.intro ?_ ?_;(focus((first|omega|exact⟨rfl,True.intro⟩|exact⟨rfl,rfl,True.intro⟩|rfl|(simp only[List.length_set];first|omega|(refine⟨?_,?_⟩<;>omega)|(refine⟨?_,?_,?_⟩<;>omega))|(intro hg;(try simp only[bB]at hg);first|omega|(refine⟨?_,?_⟩<;>omega)|(refine⟨?_,?_,?_⟩<;>first|omega|(show _<_;(try simp only[List.length_set]);omega)|exact leT rfl))|(refine⟨?_,?_⟩<;>omega)|(refine⟨?_,?_,?_⟩<;>first|omega|(show _<_;(try simp only[List.length_set]);omega)|exact leT rfl)|(simp only[show rI.d=(0:Int)from rfl];omega));done));(conv=>whnf))))
  refine EvIf.split (fun g1 => ?_) (fun g1 => ?_)
  · have g2 := of_decide_eq_true g1
    have e : (-(n + 1)).tmod m = arnd n m := by unfold arnd; rw [if_pos g2, Int.tmod_eq_emod_of_nonneg (by omega)]
    ((conv=>whnf);(repeat(refine And.intro ?_ ?_;(focus((first|omega|exact⟨rfl,True.intro⟩|exact⟨rfl,rfl,True.intro⟩|rfl|(simp only[List.length_set];first|omega|(refine⟨?_,?_⟩<;>omega)|(refine⟨?_,?_,?_⟩<;>omega))|(intro hg;(try simp only[bB]at hg);first|omega|(refine⟨?_,?_⟩<;>omega)|(refine⟨?_,?_,?_⟩<;>first|omega|(show _<_;(try simp only[List.length_set]);omega)|exact leT rfl))|(refine⟨?_,?_⟩<;>omega)|(refine⟨?_,?_,?_⟩<;>first|omega|(show _<_;(try simp only[List.length_set]);omega)|exact leT rfl)|(simp only[show rI.d=(0:Int)from rfl];omega));done));(conv=>whnf))))
    exact ret_code e.symm
  · have g2 := of_decide_eq_false g1
    have e : n.tmod m = arnd n m := by unfold arnd; rw [if_neg g2, Int.tmod_eq_emod_of_nonneg (by omega)]
    ((conv=>whnf);(repeat(refine And.intro ?_ ?_;(focus((first|omega|exact⟨rfl,True.intro⟩|exact⟨rfl,rfl,True.intro⟩|rfl|(simp only[List.length_set];first|omega|(refine⟨?_,?_⟩<;>omega)|(refine⟨?_,?_,?_⟩<;>omega))|(intro hg;(try simp only[bB]at hg);first|omega|(refine⟨?_,?_⟩<;>omega)|(refine⟨?_,?_,?_⟩<;>first|omega|(show _<_;(try simp only[List.length_set]);omega)|exact leT rfl))|(refine⟨?_,?_⟩<;>omega)|(refine⟨?_,?_,?_⟩<;>first|omega|(show _<_;(try simp only[List.length_set]);omega)|exact leT rfl)|(simp only[show rI.d=(0:Int)from rfl];omega));done));(conv=>whnf))))
    exact ret_code e.symm
set_option maxRecDepth 10000 in
theorem kth4_s (v : Value) (l : List Iv) (k : Int) (w : World) (hv : RowsIn rV w v l) (hn : l.length ≤ 12) (hk : -9223372036854775808 ≤ k ∧ k ≤ 9223372036854775807) (hI : ∀ x ∈ l, inI x) : Con Try.prog 15 #[v, .int .i64 k] w (Ret w (ieV (kthF l k))) := by
  obtain ⟨A1, c1, rfl, e1, e2⟩ := hv.form
  refine enter tabOk mixed Try.func15 rfl Try.ntmps15 Try.results15 [.s 0 4 l.length c1, .v (.int .i64 k)] (fun _ => A1) [⟨0, false, 27, 4, c1, .rows Iv rV (l)⟩] 1 rfl rfl (.ro (hp0 _ _ _) _ rfl rfl rfl (ro_rows hv rfl _)) ?_
  ((conv=>whnf);(repeat(refine And.intro ?_ ?_;(focus((first|omega|exact⟨rfl,True.intro⟩|exact⟨rfl,rfl,True.intro⟩|rfl|(simp only[List.length_set];first|omega|(refine⟨?_,?_⟩<;>omega)|(refine⟨?_,?_,?_⟩<;>omega))|(intro hg;(try simp only[bB]at hg);first|omega|(refine⟨?_,?_⟩<;>omega)|(refine⟨?_,?_,?_⟩<;>first|omega|(show _<_;(try simp only[List.length_set]);omega)|exact leT rfl))|(refine⟨?_,?_⟩<;>omega)|(refine⟨?_,?_,?_⟩<;>first|omega|(show _<_;(try simp only[List.length_set]);omega)|exact leT rfl)|(simp only[show rI.d=(0:Int)from rfl];omega));done));(conv=>whnf))))
  refine EvIf.split (fun g1 => ?_) (fun g1 => ?_)
  · have g2 : k < 1 ∨ (l.length : Int) < k := by simpa using g1
    ((conv=>whnf);(repeat(refine And.intro ?_ ?_;(focus((first|omega|exact⟨rfl,True.intro⟩|exact⟨rfl,rfl,True.intro⟩|rfl|(simp only[List.length_set];first|omega|(refine⟨?_,?_⟩<;>omega)|(refine⟨?_,?_,?_⟩<;>omega))|(intro hg;(try simp only[bB]at hg);first|omega|(refine⟨?_,?_⟩<;>omega)|(refine⟨?_,?_,?_⟩<;>first|omega|(show _<_;(try simp only[List.length_set]);omega)|exact leT rfl))|(refine⟨?_,?_⟩<;>omega)|(refine⟨?_,?_,?_⟩<;>first|omega|(show _<_;(try simp only[List.length_set]);omega)|exact leT rfl)|(simp only[show rI.d=(0:Int)from rfl];omega));done));(conv=>whnf))))
    exact EvRet.ret (fun _ => by rw [kthF_out g2]; rfl)
  have g2 : ¬ (k < 1 ∨ (l.length : Int) < k) := by
    simp only [Bool.or_eq_false_iff, decide_eq_false_iff_not] at g1
    omega
  ((conv=>whnf);(repeat(refine And.intro ?_ ?_;(focus((first|omega|exact⟨rfl,True.intro⟩|exact⟨rfl,rfl,True.intro⟩|rfl|(simp only[List.length_set];first|omega|(refine⟨?_,?_⟩<;>omega)|(refine⟨?_,?_,?_⟩<;>omega))|(intro hg;(try simp only[bB]at hg);first|omega|(refine⟨?_,?_⟩<;>omega)|(refine⟨?_,?_,?_⟩<;>first|omega|(show _<_;(try simp only[List.length_set]);omega)|exact leT rfl))|(refine⟨?_,?_⟩<;>omega)|(refine⟨?_,?_,?_⟩<;>first|omega|(show _<_;(try simp only[List.length_set]);omega)|exact leT rfl)|(simp only[show rI.d=(0:Int)from rfl];omega));done));(conv=>whnf))))
  refine EvLoop.inv (α := Nat × Nat × Nat) (fun p => p.1 ≤ l.length ∧ (p.1 ≤ p.2.1 ∧ p.2.1 ≤ 9223372036854775807) ∧ (p.1 ≤ p.2.2 ∧ p.2.2 ≤ 9223372036854775807) ∧ ∀ x ∈ l.take p.1, vI x) (fun p => l.length - p.1)
    (fun p => [(8, [], .v (.int .i64 ((p.1 : Int)))), (0, [], .s 0 4 l.length c1), (1, [], .v (.int .i64 (k))), (4, [], .p 1 0), (6, [], .s 2 2 p.1 p.2.1), (7, [], .s 3 2 p.1 p.2.2)])
    (fun p => [⟨2, true, 25, 2, p.2.1, .rows Fq rF ((l.take p.1).map Iv.lo)⟩, ⟨3, true, 25, 2, p.2.2, .rows Fq rF ((l.take p.1).map Iv.hi)⟩, ⟨1, true, 27, 4, 1, .cs (iS iv0)⟩, ⟨0, false, 27, 4, c1, .rows Iv rV (l)⟩]) 4 (0, 0, 0) ⟨by simp, ⟨by simp, by simp⟩, ⟨by simp, by simp⟩, fun x hx => by simp at hx⟩ (Sub.of [] [2, 3] rfl ?_) ?_
  · (repeat' (refine And.intro ?_ ?_)) <;> first | rfl | trivial | omega | (show _ = _ ; simp)
  intro p ⟨hi, ⟨ha1, ha2⟩, ⟨hb1, hb2⟩, hall⟩
  have hll : ((l.take p.1).map Iv.lo).length = p.1 := by simp; omega
  have hlh : ((l.take p.1).map Iv.hi).length = p.1 := by simp; omega
  ((conv=>whnf);(repeat(refine And.intro ?_ ?_;(focus((first|omega|exact⟨rfl,True.intro⟩|exact⟨rfl,rfl,True.intro⟩|rfl|(simp only[List.length_set];first|omega|(refine⟨?_,?_⟩<;>omega)|(refine⟨?_,?_,?_⟩<;>omega))|(intro hg;(try simp only[bB]at hg);first|omega|(refine⟨?_,?_⟩<;>omega)|(refine⟨?_,?_,?_⟩<;>first|omega|(show _<_;(try simp only[List.length_set]);omega)|exact leT rfl))|(refine⟨?_,?_⟩<;>omega)|(refine⟨?_,?_,?_⟩<;>first|omega|(show _<_;(try simp only[List.length_set]);omega)|exact leT rfl)|(simp only[show rI.d=(0:Int)from rfl];omega));done));(conv=>whnf))))
  refine EvIf.split (fun g3 => ?_) (fun g3 => ?_)
  · have g4 : p.1 < l.length := by have := of_decide_eq_true g3; omega
    have hmem := getD_memV (l := l) g4
    have hsl := map_take_snoc (l := l) Iv.lo g4
    have hsh := map_take_snoc (l := l) Iv.hi g4
    have htk := take_snoc l p.1 iv0 g4
    obtain ⟨x, hx⟩ : ∃ x, l.getD p.1 iv0 = x := ⟨_, rfl⟩
    rw [hx] at hmem hsl hsh htk
    have hxI := hI x hmem
    ((conv=>whnf);(repeat(refine And.intro ?_ ?_;(focus((first|omega|exact⟨rfl,True.intro⟩|exact⟨rfl,rfl,True.intro⟩|rfl|(simp only[List.length_set];first|omega|(refine⟨?_,?_⟩<;>omega)|(refine⟨?_,?_,?_⟩<;>omega))|(intro hg;(try simp only[bB]at hg);first|omega|(refine⟨?_,?_⟩<;>omega)|(refine⟨?_,?_,?_⟩<;>first|omega|(show _<_;(try simp only[List.length_set]);omega)|exact leT rfl))|(refine⟨?_,?_⟩<;>omega)|(refine⟨?_,?_,?_⟩<;>first|omega|(show _<_;(try simp only[List.length_set]);omega)|exact leT rfl)|(simp only[show rI.d=(0:Int)from rfl];omega));done));(conv=>whnf))))
    refine EvCall.plain Try.call25 (.v (.bool (ivB x))) rfl (fun ρ W hp => by subst hx; exact ivalid4_s (l.getD p.1 iv0) W hxI) ?_
    ((conv=>whnf);(repeat(refine And.intro ?_ ?_;(focus((first|omega|exact⟨rfl,True.intro⟩|exact⟨rfl,rfl,True.intro⟩|rfl|(simp only[List.length_set];first|omega|(refine⟨?_,?_⟩<;>omega)|(refine⟨?_,?_,?_⟩<;>omega))|(intro hg;(try simp only[bB]at hg);first|omega|(refine⟨?_,?_⟩<;>omega)|(refine⟨?_,?_,?_⟩<;>first|omega|(show _<_;(try simp only[List.length_set]);omega)|exact leT rfl))|(refine⟨?_,?_⟩<;>omega)|(refine⟨?_,?_,?_⟩<;>first|omega|(show _<_;(try simp only[List.length_set]);omega)|exact leT rfl)|(simp only[show rI.d=(0:Int)from rfl];omega));done));(conv=>whnf))))
    refine EvIf.split (fun g5 => ?_) (fun g5 => ?_)
    · have g6 : ¬ vI x := by rw [← ivB_iff]; simpa using g5
      ((conv=>whnf);(repeat(refine And.intro ?_ ?_;(focus((first|omega|exact⟨rfl,True.intro⟩|exact⟨rfl,rfl,True.intro⟩|rfl|(simp only[List.length_set];first|omega|(refine⟨?_,?_⟩<;>omega)|(refine⟨?_,?_,?_⟩<;>omega))|(intro hg;(try simp only[bB]at hg);first|omega|(refine⟨?_,?_⟩<;>omega)|(refine⟨?_,?_,?_⟩<;>first|omega|(show _<_;(try simp only[List.length_set]);omega)|exact leT rfl))|(refine⟨?_,?_⟩<;>omega)|(refine⟨?_,?_,?_⟩<;>first|omega|(show _<_;(try simp only[List.length_set]);omega)|exact leT rfl)|(simp only[show rI.d=(0:Int)from rfl];omega));done));(conv=>whnf))))
      exact EvRet.ret (fun _ => by rw [kthF_bad hmem g6]; rfl)
    have g6 : vI x := by rw [← ivB_iff]; simpa using g5
    generalize (l.take p.1).map Iv.lo = los at *
    generalize (l.take p.1).map Iv.hi = his at *
    ((conv=>whnf);(repeat(refine And.intro ?_ ?_;(focus((first|omega|exact⟨rfl,True.intro⟩|exact⟨rfl,rfl,True.intro⟩|rfl|(simp only[List.length_set];first|omega|(refine⟨?_,?_⟩<;>omega)|(refine⟨?_,?_,?_⟩<;>omega))|(intro hg;(try simp only[bB]at hg);first|omega|(refine⟨?_,?_⟩<;>omega)|(refine⟨?_,?_,?_⟩<;>first|omega|(show _<_;(try simp only[List.length_set]);omega)|exact leT rfl))|(refine⟨?_,?_⟩<;>omega)|(refine⟨?_,?_,?_⟩<;>first|omega|(show _<_;(try simp only[List.length_set]);omega)|exact leT rfl)|(simp only[show rI.d=(0:Int)from rfl];omega));done));(conv=>whnf))))
    refine EvBi.append (R := rF) (xs := los) tyok49 rfl tyok25 rfl (by decide) rfl rfl (by rw [hll]) (by rw [hll]; exact ha1) [x.lo] (fun ρ W hp => hp.lit (R := rF) (ys := [x.lo]) (n := 4) rfl (by decide) (by simp) (by omega) (by rw [← hx]; rfl)) (by rw [hll]; show (_ + 1) * 16 ≤ _; omega) (by rw [hll]; show _ + 1 ≤ _; omega) (fun cc hq1 hq2 => ?_)
    ((conv=>whnf);(repeat(refine And.intro ?_ ?_;(focus((first|omega|exact⟨rfl,True.intro⟩|exact⟨rfl,rfl,True.intro⟩|rfl|(simp only[List.length_set];first|omega|(refine⟨?_,?_⟩<;>omega)|(refine⟨?_,?_,?_⟩<;>omega))|(intro hg;(try simp only[bB]at hg);first|omega|(refine⟨?_,?_⟩<;>omega)|(refine⟨?_,?_,?_⟩<;>first|omega|(show _<_;(try simp only[List.length_set]);omega)|exact leT rfl))|(refine⟨?_,?_⟩<;>omega)|(refine⟨?_,?_,?_⟩<;>first|omega|(show _<_;(try simp only[List.length_set]);omega)|exact leT rfl)|(simp only[show rI.d=(0:Int)from rfl];omega));done));(conv=>whnf))))
    refine EvBi.append (R := rF) (xs := his) tyok49 rfl tyok25 rfl (by decide) rfl rfl (by rw [hlh]) (by rw [hlh]; exact hb1) [x.hi] (fun ρ W hp => hp.lit (R := rF) (ys := [x.hi]) (n := 6) rfl (by decide) (by simp) (by omega) (by rw [← hx]; rfl)) (by rw [hlh]; show (_ + 1) * 16 ≤ _; omega) (by rw [hlh]; show _ + 1 ≤ _; omega) (fun cd hq3 hq4 => ?_)
    rw [hll] at hq1
    rw [hlh] at hq3
    have hq1 : p.1 + 1 ≤ cc := hq1
    have hq3 : p.1 + 1 ≤ cd := hq3
    ((conv=>whnf);(repeat(refine And.intro ?_ ?_;(focus((first|omega|exact⟨rfl,True.intro⟩|exact⟨rfl,rfl,True.intro⟩|rfl|(simp only[List.length_set];first|omega|(refine⟨?_,?_⟩<;>omega)|(refine⟨?_,?_,?_⟩<;>omega))|(intro hg;(try simp only[bB]at hg);first|omega|(refine⟨?_,?_⟩<;>omega)|(refine⟨?_,?_,?_⟩<;>first|omega|(show _<_;(try simp only[List.length_set]);omega)|exact leT rfl))|(refine⟨?_,?_⟩<;>omega)|(refine⟨?_,?_,?_⟩<;>first|omega|(show _<_;(try simp only[List.length_set]);omega)|exact leT rfl)|(simp only[show rI.d=(0:Int)from rfl];omega));done));(conv=>whnf))))
    refine LoopI.back (p.1 + 1, cc, cd) ⟨by show p.1 + 1 ≤ _; omega, ⟨hq1, hq2⟩, ⟨hq3, hq4⟩, fun y hy => ?_⟩ (by show l.length - (p.1 + 1) < l.length - p.1; omega) (Sub.of [(2, 5), (3, 7)] [] rfl ?_)
    · simp only at hy
      rw [htk, List.mem_append] at hy
      rcases hy with hy | hy
      · exact hall y hy
      · simp at hy; rw [hy]; exact g6
    · (repeat' (refine And.intro ?_ ?_)) <;> first | rfl | trivial | omega | exact congrArg (Ct.rows Fq rF) hsl | exact congrArg (Ct.rows Fq rF) hsh | exact congrArg (Ct.rows Fq rF) hsl.symm | exact congrArg (Ct.rows Fq rF) hsh.symm | exact congrArg (· + 1) hlh.symm | exact congrArg (· + 1) hlh | exact congrArg (· + 1) hll.symm | exact congrArg (· + 1) hll
  · have g4 : p.1 = l.length := by have := of_decide_eq_false g3; omega
    rw [g4, List.take_length] at hall hll hlh ⊢
    have hF1 : ∀ y ∈ l.map Iv.lo, vF y := fun y hy => by
      obtain ⟨z, hz, rfl⟩ := List.mem_map.1 hy
      exact (hall z hz).1
    have hF2 : ∀ y ∈ l.map Iv.hi, vF y := fun y hy => by
      obtain ⟨z, hz, rfl⟩ := List.mem_map.1 hy
      exact (hall z hz).2.1
    rw [kthF_ok g2 hall]
    obtain ⟨los, hlos⟩ : ∃ s, l.map Iv.lo = s := ⟨_, rfl⟩
    obtain ⟨his, hhis⟩ : ∃ s, l.map Iv.hi = s := ⟨_, rfl⟩
    rw [hlos] at hll hF1 ⊢
    rw [hhis] at hlh hF2 ⊢
    rw [g4] at ha1 hb1
    have hs1 := sortF_len los
    have hs2 := sortF_len his
    ((conv=>whnf);(repeat(refine And.intro ?_ ?_;(focus((first|omega|exact⟨rfl,True.intro⟩|exact⟨rfl,rfl,True.intro⟩|rfl|(simp only[List.length_set];first|omega|(refine⟨?_,?_⟩<;>omega)|(refine⟨?_,?_,?_⟩<;>omega))|(intro hg;(try simp only[bB]at hg);first|omega|(refine⟨?_,?_⟩<;>omega)|(refine⟨?_,?_,?_⟩<;>first|omega|(show _<_;(try simp only[List.length_set]);omega)|exact leT rfl))|(refine⟨?_,?_⟩<;>omega)|(refine⟨?_,?_,?_⟩<;>first|omega|(show _<_;(try simp only[List.length_set]);omega)|exact leT rfl)|(simp only[show rI.d=(0:Int)from rfl];omega));done));(conv=>whnf))))
    (refine EvDraw.one (.q 0 (.q 2 (.q 3 (.q 6 (.q 8 (.q 9 (.n 1 true (.q 4 (.q 5 (.n 7 false (.q 10 (.q 11 (.q 12 (.n 13 true (.q 14 (.z)) (.e))))) (.e)))) (.e)))))))) (by kernel_rfl) ?_)
    ((conv=>whnf);(repeat(refine And.intro ?_ ?_;(focus((first|omega|exact⟨rfl,True.intro⟩|exact⟨rfl,rfl,True.intro⟩|rfl|(simp only[List.length_set];first|omega|(refine⟨?_,?_⟩<;>omega)|(refine⟨?_,?_,?_⟩<;>omega))|(intro hg;(try simp only[bB]at hg);first|omega|(refine⟨?_,?_⟩<;>omega)|(refine⟨?_,?_,?_⟩<;>first|omega|(show _<_;(try simp only[List.length_set]);omega)|exact leT rfl))|(refine⟨?_,?_⟩<;>omega)|(refine⟨?_,?_,?_⟩<;>first|omega|(show _<_;(try simp only[List.length_set]);omega)|exact leT rfl)|(simp only[show rI.d=(0:Int)from rfl];omega));done));(conv=>whnf))))
    refine EvCall.rows (R := rF) (ty := 25) (xs := sortF los) Try.call32 (fun ρ W hp => by
      have := hp.rowsIn (R := rF) (n := 2) (xs := los) (c := p.2.1) rfl (by decide) (by omega) ha2 2
      rw [hll] at this
      exact sorted4_s _ los W this (by omega) hF1) (fun cc hq1 hq2 => ?_)
    ((conv=>whnf);(repeat(refine And.intro ?_ ?_;(focus((first|omega|exact⟨rfl,True.intro⟩|exact⟨rfl,rfl,True.intro⟩|rfl|(simp only[List.length_set];first|omega|(refine⟨?_,?_⟩<;>omega)|(refine⟨?_,?_,?_⟩<;>omega))|(intro hg;(try simp only[bB]at hg);first|omega|(refine⟨?_,?_⟩<;>omega)|(refine⟨?_,?_,?_⟩<;>first|omega|(show _<_;(try simp only[List.length_set]);omega)|exact leT rfl))|(refine⟨?_,?_⟩<;>omega)|(refine⟨?_,?_,?_⟩<;>first|omega|(show _<_;(try simp only[List.length_set]);omega)|exact leT rfl)|(simp only[show rI.d=(0:Int)from rfl];omega));done));(conv=>whnf))))
    refine EvCall.rows (R := rF) (ty := 25) (xs := sortF his) Try.call32 (fun ρ W hp => by
      have := hp.rowsIn (R := rF) (n := 3) (xs := his) (c := p.2.2) rfl (by decide) (by omega) hb2 2
      rw [hlh] at this
      exact sorted4_s _ his W this (by omega) hF2) (fun cd hq3 hq4 => ?_)
    ((conv=>whnf);(repeat(refine And.intro ?_ ?_;(focus((first|omega|exact⟨rfl,True.intro⟩|exact⟨rfl,rfl,True.intro⟩|rfl|(simp only[List.length_set];first|omega|(refine⟨?_,?_⟩<;>omega)|(refine⟨?_,?_,?_⟩<;>omega))|(intro hg;(try simp only[bB]at hg);first|omega|(refine⟨?_,?_⟩<;>omega)|(refine⟨?_,?_,?_⟩<;>first|omega|(show _<_;(try simp only[List.length_set]);omega)|exact leT rfl))|(refine⟨?_,?_⟩<;>omega)|(refine⟨?_,?_,?_⟩<;>first|omega|(show _<_;(try simp only[List.length_set]);omega)|exact leT rfl)|(simp only[show rI.d=(0:Int)from rfl];omega));done));(conv=>whnf))))
    exact EvRet.ret (fun _ => rfl)
end Go.Proofs.Ythknflclfmnciaa
