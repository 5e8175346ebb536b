
/- Envelopes: the reference's Agrees. -/
import Derived.Test.YtnoenmacakbhdaaEn
namespace Go.Proofs.Ytnoenmacakbhdaa
open Go.RowKit
set_option linter.unusedVariables false
set_option linter.unusedSimpArgs false

set_option maxRecDepth 10000 in
theorem agrees_s (nm : ByteArray) (A : Option Addr) (ln c : Nat) (v u : Value) (d : Dc) (l : List Cl) (vs : List Int) (w : World) (h : DeclIs w (.agg (dcCells nm (.slice A ln c) d)) d) (hI : DcI d) (hT : DcT d) (hck : checkR d l = 0) (hv : RowsIn rC w v l) (hu : RowsIn rI w u vs)
    (hvs : ∀ i, -1099511627776 ≤ vs.getD i 0 ∧ vs.getD i 0 ≤ 1099511627776) :
    Con Try.prog 24 #[.agg (dcCells nm (.slice A ln c) d), v, u] w (Ret w (.bool (histB d l vs))) := by
  have hD := h
  obtain ⟨A1, c1, rfl, e1, e2⟩ := hv.form
  obtain ⟨A2, c2, rfl, e3, e4⟩ := hu.form
  obtain ⟨hvc, hll, hlv⟩ := check_ok hck
  have hbd := valid_bounds hvc
  refine enter tabOk mixed Try.func24 rfl Try.ntmps24 Try.results24 [.a (dcS nm (.v (.slice A ln c)) d), .s 0 4 l.length c1, .s 1 1 vs.length c2] (fun n => if n = 0 then A1 else A2) [⟨1, false, 3, 1, c2, .rows Int rI (vs)⟩, ⟨0, false, 52, 4, c1, .rows Cl rC (l)⟩] 2 rfl rfl (.ro (.ro (hp0 _ _ _) _ rfl rfl rfl (ro_rows hv rfl _)) _ rfl rfl rfl (ro_rows hu rfl _)) ?_
  ((conv=>whnf);repeat(refine And.intro (by omega) ?_;(conv=>whnf)))
  refine EvCall.plain Try.call66 (.v (.int .i64 0)) rfl (fun ρ W hp => by
    have := ref_check_s _ _ d l W (hD.below hp.bel) hI (hp.rowsIn (R := rC) (n := 0) (c := c1) rfl (by decide) e1 e2 4)
    rw [hck] at this
    exact this) ?_
  ((conv=>whnf);repeat(refine And.intro (by omega) ?_;(conv=>whnf)))
  refine EvIf.split (fun g1 => ?_) (fun g1 => ?_)
  · ((conv=>whnf);repeat(refine And.intro (by omega) ?_;(conv=>whnf)))
    refine EvRet.ret (fun _ => ?_)
    rw [histB_f.2 (fun hh => by have := hh.1; simp at g1; omega)]
    rfl
  have hlen : (vs.length : Int) = d.last - d.first + 1 := by simpa using g1
  ((conv=>whnf);repeat(refine And.intro (by omega) ?_;(conv=>whnf)))
  refine EvLoop.inv (α := Nat) (fun k => k ≤ vs.length ∧ ∀ i : Nat, i < k → (d.lo ≤ vs.getD i 0 ∧ vs.getD i 0 ≤ d.hi) ∧ (0 < i → d.down ≤ vs.getD i 0 - vs.getD (i - 1) 0 ∧ vs.getD i 0 - vs.getD (i - 1) 0 ≤ d.up)) (fun k => vs.length - k)
    (fun k => [(8, [], .v (.int .i64 ((k : Int)))), (1, [], .s 0 4 l.length c1), (2, [], .s 1 1 vs.length c2), (3, [], .p 2 0)])
    (fun k => [⟨2, true, 27, 12, 1, .cs (dcS nm (.v (.slice A ln c)) d)⟩, ⟨1, false, 3, 1, c2, .rows Int rI (vs)⟩, ⟨0, false, 52, 4, c1, .rows Cl rC (l)⟩]) 3 0 ⟨by omega, fun i hi => by omega⟩ (Sub.of [] [] rfl ?_) ?_
  · ((repeat' (refine And.intro ?_ ?_)) <;> first | rfl | exact True.intro | omega)
  intro k ⟨hk, hk2⟩
  have b1 : -1099511627776 ≤ vs.getD (k : Int).toNat rI.d ∧ vs.getD (k : Int).toNat rI.d ≤ 1099511627776 := hvs k
  have b2 : -1099511627776 ≤ vs.getD ((k : Int) - 1).toNat rI.d ∧ vs.getD ((k : Int) - 1).toNat rI.d ≤ 1099511627776 := hvs ((k : Int) - 1).toNat
  have b3 : ((k : Int) - 1).toNat = k - 1 := by omega
  ((conv=>whnf);repeat(refine And.intro (by omega) ?_;(conv=>whnf)))
  refine EvIf.split (fun g2 => ?_) (fun g2 => ?_)
  · simp only [decide_eq_true_eq] at g2
    ((conv=>whnf);repeat(refine And.intro (by omega) ?_;(conv=>whnf)))
    (refine EvDraw.one (.q 0 (.q 1 (.q 2 (.q 3 (.q 4 (.q 5 (.q 6 (.q 7 (.q 8 (.q 9 (.q 10 (.q 11 (.q 12 (.q 13 (.q 14 (.q 15 (.z))))))))))))))))) (by kernel_rfl) ?_)
    ((conv=>whnf);(repeat(refine And.intro ?_ ?_;(focus((first|omega|exact⟨rfl,True.intro⟩|exact⟨rfl,rfl,True.intro⟩|rfl|(simp only[List.length_set];first|omega|(refine⟨?_,?_⟩<;>omega)|(refine⟨?_,?_,?_⟩<;>omega))|(intro hg;(try simp only[bB]at hg);first|omega|(refine⟨?_,?_⟩<;>omega)|(refine⟨?_,?_,?_⟩<;>first|omega|(show _<_;(try simp only[List.length_set]);omega)|exact leT rfl))|(refine⟨?_,?_⟩<;>omega)|(refine⟨?_,?_,?_⟩<;>first|omega|(show _<_;(try simp only[List.length_set]);omega)|exact leT rfl)|(simp only[show rI.d=(0:Int)from rfl];omega));done));(conv=>whnf))))
    refine EvIf.split (fun g3 => ?_) (fun g3 => ?_)
    · simp only [Bool.or_eq_true, decide_eq_true_eq] at g3
      have g4 : vs.getD k 0 < d.lo ∨ d.hi < vs.getD k 0 := g3
      ((conv=>whnf);repeat(refine And.intro (by omega) ?_;(conv=>whnf)))
      refine EvRet.ret (fun _ => ?_)
      rw [histB_f.2 (fun hh => by have := hh.2.1 k (by omega); omega)]
      rfl
    simp only [Bool.or_eq_false_iff, decide_eq_false_iff_not] at g3
    have g4 : ¬ vs.getD k 0 < d.lo ∧ ¬ d.hi < vs.getD k 0 := g3
    ((conv=>whnf);repeat(refine And.intro (by omega) ?_;(conv=>whnf)))
    (refine EvDraw.one (.q 0 (.q 1 (.q 2 (.q 3 (.q 4 (.q 5 (.q 6 (.q 7 (.q 8 (.q 9 (.q 10 (.q 11 (.q 12 (.q 13 (.q 14 (.q 15 (.q 16 (.q 17 (.q 18 (.q 19 (.q 20 (.q 21 (.q 22 (.q 23 (.q 24 (.q 25 (.q 26 (.q 27 (.q 28 (.q 29 (.q 30 (.q 31 (.z))))))))))))))))))))))))))))))))) (by kernel_rfl) ?_)
    ((conv=>whnf);(repeat(refine And.intro ?_ ?_;(focus((first|omega|exact⟨rfl,True.intro⟩|exact⟨rfl,rfl,True.intro⟩|rfl|(simp only[List.length_set];first|omega|(refine⟨?_,?_⟩<;>omega)|(refine⟨?_,?_,?_⟩<;>omega))|(intro hg;(try simp only[bB]at hg);first|omega|(refine⟨?_,?_⟩<;>omega)|(refine⟨?_,?_,?_⟩<;>first|omega|(show _<_;(try simp only[List.length_set]);omega)|exact leT rfl))|(refine⟨?_,?_⟩<;>omega)|(refine⟨?_,?_,?_⟩<;>first|omega|(show _<_;(try simp only[List.length_set]);omega)|exact leT rfl)|(simp only[show rI.d=(0:Int)from rfl];omega));done));(conv=>whnf))))
    refine EvIf.split (fun g5 => ?_) (fun g5 => ?_)
    · simp only [Bool.or_eq_true, Bool.and_eq_true, decide_eq_true_eq] at g5
      ((conv=>whnf);repeat(refine And.intro (by omega) ?_;(conv=>whnf)))
      refine EvRet.ret (fun _ => ?_)
      rw [histB_f.2 (fun hh => by
        have h1 := (hh.2.1 k (by omega)).2 (by omega)
        have g6 : (0 : Int) < k ∧ (vs.getD k 0 - vs.getD ((k : Int) - 1).toNat 0 < d.down ∨ d.up < vs.getD k 0 - vs.getD ((k : Int) - 1).toNat 0) := g5
        rw [b3] at g6
        omega)]
      rfl
    · simp only [Bool.or_eq_false_iff, Bool.and_eq_false_iff, decide_eq_false_iff_not] at g5
      have g6 : ¬ (0 : Int) < k ∨ (¬ vs.getD k 0 - vs.getD ((k : Int) - 1).toNat 0 < d.down ∧ ¬ d.up < vs.getD k 0 - vs.getD ((k : Int) - 1).toNat 0) := g5
      rw [b3] at g6
      ((conv=>whnf);repeat(refine And.intro (by omega) ?_;(conv=>whnf)))
      refine LoopI.back (k + 1) ⟨by omega, fun i hi => ?_⟩ (by omega) (Sub.of [] [] rfl ?_)
      · by_cases hik : i = k
        · subst hik
          exact ⟨by omega, fun h0 => by omega⟩
        · exact hk2 i (by omega)
      · ((repeat' (refine And.intro ?_ ?_)) <;> first | rfl | exact True.intro | omega)
  simp only [decide_eq_false_iff_not] at g2
  have hk3 : k = vs.length := by omega
  subst hk3
  ((conv=>whnf);repeat(refine And.intro (by omega) ?_;(conv=>whnf)))
  refine EvLoop.inv (α := Nat) (fun j => j ≤ l.length ∧ ∀ i, i < j → HoldsP d (l.getD i cl0) vs) (fun j => l.length - j)
    (fun j => [(9, [], .v (.int .i64 ((j : Int)))), (1, [], .s 0 4 l.length c1), (2, [], .s 1 1 vs.length c2), (3, [], .p 2 0)])
    (fun j => [⟨2, true, 27, 12, 1, .cs (dcS nm (.v (.slice A ln c)) d)⟩, ⟨1, false, 3, 1, c2, .rows Int rI (vs)⟩, ⟨0, false, 52, 4, c1, .rows Cl rC (l)⟩]) 3 0 ⟨by omega, fun i hi => by omega⟩ (Sub.of [] [] rfl ?_) ?_
  · ((repeat' (refine And.intro ?_ ?_)) <;> first | rfl | exact True.intro | omega)
  intro j ⟨hj, hj2⟩
  ((conv=>whnf);repeat(refine And.intro (by omega) ?_;(conv=>whnf)))
  refine EvIf.split (fun g3 => ?_) (fun g3 => ?_)
  · simp only [decide_eq_true_eq] at g3
    have hm : l.getD j cl0 ∈ l := by rw [List.getD_eq_getElem?_getD, List.getElem?_eq_getElem (by omega)]; exact List.getElem_mem _
    ((conv=>whnf);repeat(refine And.intro (by omega) ?_;(conv=>whnf)))
    (refine EvDraw.one (.q 0 (.q 1 (.q 2 (.q 3 (.q 4 (.q 5 (.n 6 true (.q 7 (.z)) (.e)))))))) (by kernel_rfl) ?_)
    ((conv=>whnf);(repeat(refine And.intro ?_ ?_;(focus((first|omega|exact⟨rfl,True.intro⟩|exact⟨rfl,rfl,True.intro⟩|rfl|(simp only[List.length_set];first|omega|(refine⟨?_,?_⟩<;>omega)|(refine⟨?_,?_,?_⟩<;>omega))|(intro hg;(try simp only[bB]at hg);first|omega|(refine⟨?_,?_⟩<;>omega)|(refine⟨?_,?_,?_⟩<;>first|omega|(show _<_;(try simp only[List.length_set]);omega)|exact leT rfl))|(refine⟨?_,?_⟩<;>omega)|(refine⟨?_,?_,?_⟩<;>first|omega|(show _<_;(try simp only[List.length_set]);omega)|exact leT rfl)|(simp only[show rI.d=(0:Int)from rfl];omega));done));(conv=>whnf))))
    refine EvCall.plain Try.call70 (.v (.bool (holdsB' d (l.getD j cl0) vs))) rfl (fun ρ W hp => ref_holds_s nm A ln c d (l.getD j cl0) _ vs W hT (hp.rowsIn (R := rI) (n := 1) (c := c2) (xs := vs) rfl (by decide) e3 e4 1)) ?_
    ((conv=>whnf);repeat(refine And.intro (by omega) ?_;(conv=>whnf)))
    refine EvIf.split (fun g4 => ?_) (fun g4 => ?_)
    · simp only [Bool.not_eq_true'] at g4
      ((conv=>whnf);repeat(refine And.intro (by omega) ?_;(conv=>whnf)))
      refine EvRet.ret (fun _ => ?_)
      rw [histB_f.2 (fun hh => (holdsB'_f.1 g4) (hh.2.2 _ hm))]
      rfl
    · simp only [Bool.not_eq_false'] at g4
      ((conv=>whnf);repeat(refine And.intro (by omega) ?_;(conv=>whnf)))
      refine LoopI.back (j + 1) ⟨by omega, fun i hi => ?_⟩ (by omega) (Sub.of [] [] rfl ?_)
      · by_cases hij : i = j
        · subst hij
          exact holdsB'_t.1 g4
        · exact hj2 i (by omega)
      · ((repeat' (refine And.intro ?_ ?_)) <;> first | rfl | exact True.intro | omega)
  · simp only [decide_eq_false_iff_not] at g3
    have hfin : histB d l vs = true := histB_t.2 ⟨hlen, hk2, fun x hx => by
      obtain ⟨i, hi, rfl⟩ := List.getElem_of_mem hx
      have := hj2 i (by omega)
      rwa [List.getD_eq_getElem?_getD, List.getElem?_eq_getElem hi] at this⟩
    ((conv=>whnf);repeat(refine And.intro (by omega) ?_;(conv=>whnf)))
    refine EvRet.ret (fun _ => ?_)
    rw [hfin]
    rfl
end Go.Proofs.Ytnoenmacakbhdaa
