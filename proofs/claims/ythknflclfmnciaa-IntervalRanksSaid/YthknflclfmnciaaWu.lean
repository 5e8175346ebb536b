
/- The law IntervalRanks, walked. -/
import Derived.Test.YthknflclfmnciaaWt
import Derived.Test.YthknflclfmnciaaHt
import Derived.Test.YthknflclfmnciaaQv
namespace Go.Proofs.Ythknflclfmnciaa
open Go.RowKit
set_option linter.unusedVariables false
set_option linter.unusedSimpArgs false

theorem hsum_s (s : ByteArray) (v : Value) (ws : List Int) (w : World) (hs : s.size ≤ 1000000) (hv : RowsIn rI w v ws) (h0 : 0 < ws.length) (hl : ws.length ≤ 1000000) :
    Con Try.prog 30 #[.string s, v] w (Ret w (.int .u64 (sumV s ws))) := by
  obtain ⟨A, c, rfl, h1, h2, h3, h4⟩ := hv
  obtain ⟨b, off, rfl, hb, hc⟩ := h4 h0
  exact ⟨sum_any s hs b off c ws w hb (fun k x hx => hc k _ (by
    have e : rowC rI ws = ws.map (Value.int .i64) := cells_ints (fun _ => none) ws
    rw [e, List.getElem?_map, hx]
    rfl)) hl⟩
/-- The first small intervals of a list. -/
def lsF (l : List Int) (n : Nat) : List Iv := (List.range n).map (fun j => ismF (l.getD (2 * j) 0) (l.getD (2 * j + 1) 0))
theorem lsF_len (l : List Int) (n : Nat) : (lsF l n).length = n := by simp [lsF]
theorem lsF_snoc (l : List Int) (n : Nat) : lsF l (n + 1) = lsF l n ++ [ismF (l.getD (2 * n) 0) (l.getD (2 * n + 1) 0)] := by simp [lsF, List.range_succ]
theorem ints_at {zs : List Int} (h : ∀ z ∈ zs, I64 z) (i : Nat) : I64 (zs.getD i 0) := by
  by_cases hi : i < zs.length
  · refine h _ ?_
    rw [List.getD_eq_getElem?_getD, List.getElem?_eq_getElem hi]
    exact List.getElem_mem hi
  · rw [List.getD_eq_getElem?_getD, List.getElem?_eq_none (by omega)]
    constructor <;> decide
set_option maxRecDepth 10000 in
theorem list_s (l : List Int) : ∃ n, n ≤ 8 ∧ ∀ (v : Value) (w2 : World), Ints w2 v l → Con Try.prog 29 #[v, .int .i64 8] w2 (RetRows rV 27 w2 (lsF l n)) := by
  refine ⟨min (l.length / 2) 8, by omega, fun v w2 hv => ?_⟩
  have hr := rows_ints hv
  have hz := hv.2
  clear hv
  obtain ⟨A1, c1, rfl, e1, e2⟩ := hr.form
  refine enter tabOk mixed Try.func29 rfl Try.ntmps29 Try.results29 [.s 0 1 l.length c1, .v (.int .i64 8)] (fun _ => A1) [⟨0, false, 3, 1, c1, .rows Int rI (l)⟩] 1 rfl rfl (.ro (hp0 _ _ _) _ rfl rfl rfl (ro_rows hr rfl _)) ?_
  ((conv=>whnf);(repeat(refine And.intro ?_ ?_;(focus((first|omega|exact⟨rfl,True.intro⟩|exact⟨rfl,rfl,True.intro⟩|rfl|(simp only[List.length_set];first|omega|(refine⟨?_,?_⟩<;>omega)|(refine⟨?_,?_,?_⟩<;>omega))|(intro hg;(try simp only[bB]at hg);first|omega|(refine⟨?_,?_⟩<;>omega)|(refine⟨?_,?_,?_⟩<;>first|omega|(show _<_;(try simp only[List.length_set]);omega)|exact leT rfl))|(refine⟨?_,?_⟩<;>omega)|(refine⟨?_,?_,?_⟩<;>first|omega|(show _<_;(try simp only[List.length_set]);omega)|exact leT rfl)|(simp only[show rI.d=(0:Int)from rfl];omega));done));(conv=>whnf))))
  refine EvLoop.inv (α := Nat × Nat) (fun p => p.1 ≤ min (l.length / 2) 8 ∧ p.1 ≤ p.2 ∧ p.2 ≤ 9223372036854775807) (fun p => 8 - p.1) (fun p => [(0, [], .s 0 1 l.length c1), (1, [], .v (.int .i64 (8))), (5, [], .s 1 4 p.1 p.2), (6, [], .v (.int .i64 ((2 * (p.1 : Int)))))])
    (fun p => [⟨1, true, 27, 4, p.2, .rows Iv rV (lsF l p.1)⟩, ⟨0, false, 3, 1, c1, .rows Int rI (l)⟩]) 2 (0, 0) ⟨by omega, by omega, by decide⟩ (Sub.of [] [1] rfl ?_) ?_
  · (repeat' (refine And.intro ?_ ?_)) <;> first | rfl | exact True.intro | omega
  intro p ⟨q1, q2, q3⟩
  have hlen := lsF_len l p.1
  ((conv=>whnf);(repeat(refine And.intro ?_ ?_;(focus((first|omega|exact⟨rfl,True.intro⟩|exact⟨rfl,rfl,True.intro⟩|rfl|(simp only[List.length_set];first|omega|(refine⟨?_,?_⟩<;>omega)|(refine⟨?_,?_,?_⟩<;>omega))|(intro hg;(try simp only[bB]at hg);first|omega|(refine⟨?_,?_⟩<;>omega)|(refine⟨?_,?_,?_⟩<;>first|omega|(show _<_;(try simp only[List.length_set]);omega)|exact leT rfl))|(refine⟨?_,?_⟩<;>omega)|(refine⟨?_,?_,?_⟩<;>first|omega|(show _<_;(try simp only[List.length_set]);omega)|exact leT rfl)|(simp only[show rI.d=(0:Int)from rfl];omega));done));(conv=>whnf))))
  refine EvIf.split (fun g1 => ?_) (fun g1 => ?_)
  · have g2 : p.1 < l.length / 2 ∧ p.1 < 8 := by
      simp only [Bool.and_eq_true, decide_eq_true_eq] at g1
      omega
    have e1' : Int.toNat (2 * (p.1 : Int)) = 2 * p.1 := by omega
    have e2' : Int.toNat (2 * (p.1 : Int) + 1) = 2 * p.1 + 1 := by omega
    have ha := ints_at hz (2 * p.1)
    have hb := ints_at hz (2 * p.1 + 1)
    have hsn := lsF_snoc l p.1
    obtain ⟨x, hx⟩ : ∃ x, ismF (l.getD (2 * p.1) 0) (l.getD (2 * p.1 + 1) 0) = x := ⟨_, rfl⟩
    rw [hx] at hsn
    generalize lsF l p.1 = xs at *
    ((conv=>whnf);(repeat(refine And.intro ?_ ?_;(focus((first|omega|exact⟨rfl,True.intro⟩|exact⟨rfl,rfl,True.intro⟩|rfl|(simp only[List.length_set];first|omega|(refine⟨?_,?_⟩<;>omega)|(refine⟨?_,?_,?_⟩<;>omega))|(intro hg;(try simp only[bB]at hg);first|omega|(refine⟨?_,?_⟩<;>omega)|(refine⟨?_,?_,?_⟩<;>first|omega|(show _<_;(try simp only[List.length_set]);omega)|exact leT rfl))|(refine⟨?_,?_⟩<;>omega)|(refine⟨?_,?_,?_⟩<;>first|omega|(show _<_;(try simp only[List.length_set]);omega)|exact leT rfl)|(simp only[show rI.d=(0:Int)from rfl];omega));done));(conv=>whnf))))
    (refine EvDraw.one (.q 0 (.q 1 (.q 2 (.q 3 (.q 4 (.q 5 (.q 6 (.q 7 (.q 8 (.q 9 (.n 10 true (.n 11 false (.n 12 true (.q 13 (.z)) (.e)) (.e)) (.e)))))))))))) (by kernel_rfl) ?_)
    ((conv=>whnf);(repeat(refine And.intro ?_ ?_;(focus((first|omega|exact⟨rfl,True.intro⟩|exact⟨rfl,rfl,True.intro⟩|rfl|(simp only[List.length_set];first|omega|(refine⟨?_,?_⟩<;>omega)|(refine⟨?_,?_,?_⟩<;>omega))|(intro hg;(try simp only[bB]at hg);first|omega|(refine⟨?_,?_⟩<;>omega)|(refine⟨?_,?_,?_⟩<;>first|omega|(show _<_;(try simp only[List.length_set]);omega)|exact leT rfl))|(refine⟨?_,?_⟩<;>omega)|(refine⟨?_,?_,?_⟩<;>first|omega|(show _<_;(try simp only[List.length_set]);omega)|exact leT rfl)|(simp only[show rI.d=(0:Int)from rfl];omega));done));(conv=>whnf))))
    refine EvCall.plain Try.call17 (.a (iS x)) rfl (fun ρ W hp => by
      rw [iS_den, ← hx]
      have := small4_s (l.getD (2 * p.1) 0) (l.getD (2 * p.1 + 1) 0) W ha hb
      simp only [denL, den, e1', e2']
      exact this) ?_
    ((conv=>whnf);(repeat(refine And.intro ?_ ?_;(focus((first|omega|exact⟨rfl,True.intro⟩|exact⟨rfl,rfl,True.intro⟩|rfl|(simp only[List.length_set];first|omega|(refine⟨?_,?_⟩<;>omega)|(refine⟨?_,?_,?_⟩<;>omega))|(intro hg;(try simp only[bB]at hg);first|omega|(refine⟨?_,?_⟩<;>omega)|(refine⟨?_,?_,?_⟩<;>first|omega|(show _<_;(try simp only[List.length_set]);omega)|exact leT rfl))|(refine⟨?_,?_⟩<;>omega)|(refine⟨?_,?_,?_⟩<;>first|omega|(show _<_;(try simp only[List.length_set]);omega)|exact leT rfl)|(simp only[show rI.d=(0:Int)from rfl];omega));done));(conv=>whnf))))
    refine EvBi.append (R := rV) (xs := xs) tyok22 rfl tyok27 rfl (by decide) rfl rfl (by rw [hlen]) (by rw [hlen]; exact q2) [x] (fun ρ W hp => hp.lit (R := rV) (ys := [x]) (n := 2) rfl (by decide) (by simp) (by omega) rfl) (by rw [hlen]; show (_ + 1) * 32 ≤ _; omega) (by rw [hlen]; show _ + 1 ≤ _; omega) (fun cc hq1 hq2 => ?_)
    ((conv=>whnf);(repeat(refine And.intro ?_ ?_;(focus((first|omega|exact⟨rfl,True.intro⟩|exact⟨rfl,rfl,True.intro⟩|rfl|(simp only[List.length_set];first|omega|(refine⟨?_,?_⟩<;>omega)|(refine⟨?_,?_,?_⟩<;>omega))|(intro hg;(try simp only[bB]at hg);first|omega|(refine⟨?_,?_⟩<;>omega)|(refine⟨?_,?_,?_⟩<;>first|omega|(show _<_;(try simp only[List.length_set]);omega)|exact leT rfl))|(refine⟨?_,?_⟩<;>omega)|(refine⟨?_,?_,?_⟩<;>first|omega|(show _<_;(try simp only[List.length_set]);omega)|exact leT rfl)|(simp only[show rI.d=(0:Int)from rfl];omega));done));(conv=>whnf))))
    refine LoopI.back (p.1 + 1, cc) ⟨by show p.1 + 1 ≤ _; omega, by simpa [hlen] using hq1, hq2⟩ (by show 8 - (p.1 + 1) < 8 - p.1; omega) (Sub.of [(1, 3)] [] rfl ?_)
    (repeat' (refine And.intro ?_ ?_)) <;> first | rfl | exact True.intro | omega | exact congrArg (Ct.rows Iv rV) hsn | exact congrArg (Ct.rows Iv rV) hsn.symm | exact congrArg (· + 1) hlen.symm | exact congrArg (· + 1) hlen
  · have g2 : p.1 = min (l.length / 2) 8 := by
      simp only [Bool.and_eq_false_iff, decide_eq_false_iff_not] at g1
      omega
    rw [← g2]
    ((conv=>whnf);(repeat(refine And.intro ?_ ?_;(focus((first|omega|exact⟨rfl,True.intro⟩|exact⟨rfl,rfl,True.intro⟩|rfl|(simp only[List.length_set];first|omega|(refine⟨?_,?_⟩<;>omega)|(refine⟨?_,?_,?_⟩<;>omega))|(intro hg;(try simp only[bB]at hg);first|omega|(refine⟨?_,?_⟩<;>omega)|(refine⟨?_,?_,?_⟩<;>first|omega|(show _<_;(try simp only[List.length_set]);omega)|exact leT rfl))|(refine⟨?_,?_⟩<;>omega)|(refine⟨?_,?_,?_⟩<;>first|omega|(show _<_;(try simp only[List.length_set]);omega)|exact leT rfl)|(simp only[show rI.d=(0:Int)from rfl];omega));done));(conv=>whnf))))
    exact EvRet.rows (R := rV) hlen.symm (by rw [hlen]; exact q2) rfl rfl
end Go.Proofs.Ythknflclfmnciaa
