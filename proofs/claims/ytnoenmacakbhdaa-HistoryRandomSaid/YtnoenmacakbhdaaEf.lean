
/- Envelopes: SameInts, Same, same, equal, At. -/
import Derived.Test.YtnoenmacakbhdaaEe
namespace Go.Proofs.Ytnoenmacakbhdaa
open Go.RowKit
set_option linter.unusedVariables false
set_option linter.unusedSimpArgs false

theorem eq_of_getDI {a b : List Int} (hl : a.length = b.length) (h : ∀ j, j < a.length → a.getD j 0 = b.getD j 0) : a = b := by
  apply List.ext_getElem hl
  intro i h1 h2
  have := h i h1
  simpa [List.getD_eq_getElem?_getD, List.getElem?_eq_getElem h1, List.getElem?_eq_getElem h2] using this
set_option maxRecDepth 10000 in
theorem sameints_s (v1 v2 : Value) (a b : List Int) (w : World) (h1 : RowsIn rI w v1 a) (h2 : RowsIn rI w v2 b) : Con Try.prog 37 #[v1, v2] w (Ret w (.bool (decide (a = b)))) := by
  obtain ⟨A1, c1, rfl, e1, e2⟩ := h1.form
  obtain ⟨A2, c2, rfl, e3, e4⟩ := h2.form
  refine enter tabOk mixed Try.func37 rfl Try.ntmps37 Try.results37 [.s 0 1 a.length c1, .s 1 1 b.length c2] (fun n => if n = 0 then A1 else A2) [⟨1, false, 3, 1, c2, .rows Int rI (b)⟩, ⟨0, false, 3, 1, c1, .rows Int rI (a)⟩] 2 rfl rfl (.ro (.ro (hp0 _ _ _) _ rfl rfl rfl (ro_rows h1 rfl _)) _ rfl rfl rfl (ro_rows h2 rfl _)) ?_
  ((conv=>whnf);repeat(refine And.intro (by omega) ?_;(conv=>whnf)))
  refine EvIf.split (fun g1 => ?_) (fun g1 => ?_)
  · simp only [Bool.not_eq_true', decide_eq_false_iff_not] at g1
    ((conv=>whnf);repeat(refine And.intro (by omega) ?_;(conv=>whnf)))
    refine EvRet.ret (fun ρ => ?_)
    have : ¬ a = b := fun h => g1 (by rw [h])
    simp [den, this]
  simp only [Bool.not_eq_false', decide_eq_true_eq] at g1
  ((conv=>whnf);repeat(refine And.intro (by omega) ?_;(conv=>whnf)))
  refine EvLoop.inv (α := Nat) (fun i => i ≤ a.length ∧ ∀ j, j < i → a.getD j 0 = b.getD j 0) (fun i => a.length - i) (fun i => [(5, [], .v (.int .i64 ((i : Int)))), (0, [], .s 0 1 a.length c1), (1, [], .s 1 1 b.length c2)])
    (fun i => [⟨1, false, 3, 1, c2, .rows Int rI (b)⟩, ⟨0, false, 3, 1, c1, .rows Int rI (a)⟩]) 2 0 ⟨by omega, fun j hj => by omega⟩ (Sub.of [] [] rfl ?_) ?_
  · ((repeat' (refine And.intro ?_ ?_)) <;> first | rfl | exact True.intro | omega)
  intro i ⟨hi, hi2⟩
  ((conv=>whnf);repeat(refine And.intro (by omega) ?_;(conv=>whnf)))
  refine EvIf.split (fun g2 => ?_) (fun g2 => ?_)
  · simp only [decide_eq_true_eq] at g2
    ((conv=>whnf);repeat(refine And.intro (by omega) ?_;(conv=>whnf)))
    (refine EvDraw.one (.q 0 (.q 1 (.q 2 (.q 3 (.q 4 (.q 5 (.q 6 (.q 7 (.q 8 (.z)))))))))) (by kernel_rfl) ?_)
    ((conv=>whnf);(repeat(refine And.intro ?_ ?_;(focus((first|omega|exact⟨rfl,True.intro⟩|exact⟨rfl,rfl,True.intro⟩|rfl|(simp only[List.length_set];first|omega|(refine⟨?_,?_⟩<;>omega)|(refine⟨?_,?_,?_⟩<;>omega))|(intro hg;(try simp only[bB]at hg);first|omega|(refine⟨?_,?_⟩<;>omega)|(refine⟨?_,?_,?_⟩<;>first|omega|(show _<_;(try simp only[List.length_set]);omega)|exact leT rfl))|(refine⟨?_,?_⟩<;>omega)|(refine⟨?_,?_,?_⟩<;>first|omega|(show _<_;(try simp only[List.length_set]);omega)|exact leT rfl)|(simp only[show rI.d=(0:Int)from rfl];omega));done));(conv=>whnf))))
    refine EvIf.split (fun g3 => ?_) (fun g3 => ?_)
    · ((conv=>whnf);repeat(refine And.intro (by omega) ?_;(conv=>whnf)))
      refine EvRet.ret (fun ρ => ?_)
      have : ¬ a = b := fun h => by subst h; simp at g3
      simp [den, this]
    · simp only [Bool.not_eq_false', decide_eq_true_eq] at g3
      ((conv=>whnf);repeat(refine And.intro (by omega) ?_;(conv=>whnf)))
      refine LoopI.back (i + 1) ⟨by omega, fun j hj => ?_⟩ (by omega) (Sub.of [] [] rfl ?_)
      · by_cases hji : j = i
        · subst hji
          exact g3
        · exact hi2 j (by omega)
      · ((repeat' (refine And.intro ?_ ?_)) <;> first | rfl | exact True.intro | omega)
  · simp only [decide_eq_false_iff_not] at g2
    obtain rfl : i = a.length := by omega
    ((conv=>whnf);repeat(refine And.intro (by omega) ?_;(conv=>whnf)))
    refine EvRet.ret (fun ρ => ?_)
    simp [den, eq_of_getDI (by omega) hi2]
set_option maxRecDepth 10000 in
theorem same12_s (f1 f2 : Int) (A1 A2 B1 B2 : Option Addr) (n1 n2 c1 c2 d1 d2 m1 m2 : Nat) (a1 a2 b1 b2 : List Int) (w : World) (h1 : RowsIn rI w (.slice A1 n1 c1) a1) (h2 : RowsIn rI w (.slice A2 n2 c2) a2) (h3 : RowsIn rI w (.slice B1 m1 d1) b1) (h4 : RowsIn rI w (.slice B2 m2 d2) b2) :
    Con Try.prog 115 #[envV f1 (.slice A1 n1 c1) (.slice A2 n2 c2), envV f2 (.slice B1 m1 d1) (.slice B2 m2 d2)] w (Ret w (.bool (decide (a1 = b1) && decide (a2 = b2) && decide (f1 = f2)))) := by
  refine enter tabOk mixed Try.func115 rfl Try.ntmps115 Try.results115 [.a [.v (.int .i64 f1), .v (.slice A1 n1 c1), .v (.slice A2 n2 c2)], .a [.v (.int .i64 f2), .v (.slice B1 m1 d1), .v (.slice B2 m2 d2)]] (fun _ => none) [] 0 rfl rfl (hp0 _ _ _) ?_
  ((conv=>whnf);repeat(refine And.intro (by omega) ?_;(conv=>whnf)))
  refine EvCall.plain Try.call37 (.v (.bool (decide (a1 = b1)))) rfl (fun ρ W hp => sameints_s _ _ a1 b1 W (h1.below hp.bel) (h3.below hp.bel)) ?_
  ((conv=>whnf);repeat(refine And.intro (by omega) ?_;(conv=>whnf)))
  refine EvCall.plain Try.call37 (.v (.bool (decide (a2 = b2)))) rfl (fun ρ W hp => sameints_s _ _ a2 b2 W (h2.below hp.bel) (h4.below hp.bel)) ?_
  ((conv=>whnf);repeat(refine And.intro (by omega) ?_;(conv=>whnf)))
  exact EvRet.ret (fun _ => rfl)
set_option maxRecDepth 10000 in
theorem lsame_s (f1 f2 : Int) (A1 A2 B1 B2 : Option Addr) (n1 n2 c1 c2 d1 d2 m1 m2 : Nat) (a1 a2 b1 b2 : List Int) (w : World) (h1 : RowsIn rI w (.slice A1 n1 c1) a1) (h2 : RowsIn rI w (.slice A2 n2 c2) a2) (h3 : RowsIn rI w (.slice B1 m1 d1) b1) (h4 : RowsIn rI w (.slice B2 m2 d2) b2) :
    Con Try.prog 95 #[envV f1 (.slice A1 n1 c1) (.slice A2 n2 c2), envV f2 (.slice B1 m1 d1) (.slice B2 m2 d2)] w (Ret w (.bool (decide (a1 = b1) && decide (a2 = b2) && decide (f1 = f2)))) := by
  refine enter tabOk mixed Try.func95 rfl Try.ntmps95 Try.results95 [.a [.v (.int .i64 f1), .v (.slice A1 n1 c1), .v (.slice A2 n2 c2)], .a [.v (.int .i64 f2), .v (.slice B1 m1 d1), .v (.slice B2 m2 d2)]] (fun _ => none) [] 0 rfl rfl (hp0 _ _ _) ?_
  ((conv=>whnf);repeat(refine And.intro (by omega) ?_;(conv=>whnf)))
  refine EvCall.plain Try.call115 (.v (.bool (decide (a1 = b1) && decide (a2 = b2) && decide (f1 = f2)))) rfl (fun ρ W hp => same12_s f1 f2 _ _ _ _ _ _ _ _ _ _ _ _ a1 a2 b1 b2 W (h1.below hp.bel) (h2.below hp.bel) (h3.below hp.bel) (h4.below hp.bel)) ?_
  ((conv=>whnf);repeat(refine And.intro (by omega) ?_;(conv=>whnf)))
  exact EvRet.ret (fun _ => rfl)
set_option maxRecDepth 10000 in
theorem lequal_s (f1 f2 : Int) (A1 A2 B1 B2 : Option Addr) (n1 n2 c1 c2 d1 d2 m1 m2 : Nat) (a1 a2 b1 b2 : List Int) (w : World) (h1 : RowsIn rI w (.slice A1 n1 c1) a1) (h2 : RowsIn rI w (.slice A2 n2 c2) a2) (h3 : RowsIn rI w (.slice B1 m1 d1) b1) (h4 : RowsIn rI w (.slice B2 m2 d2) b2) :
    Con Try.prog 56 #[envV f1 (.slice A1 n1 c1) (.slice A2 n2 c2), envV f2 (.slice B1 m1 d1) (.slice B2 m2 d2)] w (Ret w (.bool (decide (a1 = b1) && decide (a2 = b2) && decide (f1 = f2)))) := by
  refine enter tabOk mixed Try.func56 rfl Try.ntmps56 Try.results56 [.a [.v (.int .i64 f1), .v (.slice A1 n1 c1), .v (.slice A2 n2 c2)], .a [.v (.int .i64 f2), .v (.slice B1 m1 d1), .v (.slice B2 m2 d2)]] (fun _ => none) [] 0 rfl rfl (hp0 _ _ _) ?_
  ((conv=>whnf);repeat(refine And.intro (by omega) ?_;(conv=>whnf)))
  refine EvCall.plain Try.call95 (.v (.bool (decide (a1 = b1) && decide (a2 = b2) && decide (f1 = f2)))) rfl (fun ρ W hp => lsame_s f1 f2 _ _ _ _ _ _ _ _ _ _ _ _ a1 a2 b1 b2 W (h1.below hp.bel) (h2.below hp.bel) (h3.below hp.bel) (h4.below hp.bel)) ?_
  ((conv=>whnf);repeat(refine And.intro (by omega) ?_;(conv=>whnf)))
  exact EvRet.ret (fun _ => rfl)
/-- What At returns. -/
def atR (e : Env12) (t : Int) : Int × Int × Int := if 0 ≤ t - e.f ∧ t - e.f < min (e.lo.length : Int) (e.hi.length : Int) then (e.lo.getD (t - e.f).toNat 0, e.hi.getD (t - e.f).toNat 0, 0) else (0, 0, 9)
set_option maxRecDepth 10000 in
theorem at_s (e : Env12) (A B : Option Addr) (n1 n2 c1 c2 : Nat) (t : Int) (w : World) (h1 : RowsIn rI w (.slice A n1 c1) e.lo) (h2 : RowsIn rI w (.slice B n2 c2) e.hi) (ht : -1000000000 ≤ t ∧ t ≤ 1000000000) (hf : -1000000000 ≤ e.f ∧ e.f ≤ 1000000000) :
    Con Try.prog 27 #[envV e.f (.slice A n1 c1) (.slice B n2 c2), .int .i64 t] w (Ret w (.tuple #[.int .i64 (atR e t).1, .int .i64 (atR e t).2.1, .int .i64 (atR e t).2.2])) := by
  obtain ⟨A', c, ee, e1, e2⟩ := h1.form
  simp at ee
  obtain ⟨rfl, rfl, rfl⟩ := ee
  obtain ⟨B', c', ee, e3, e4⟩ := h2.form
  simp at ee
  obtain ⟨rfl, rfl, rfl⟩ := ee
  refine enter tabOk mixed Try.func27 rfl Try.ntmps27 Try.results27 [.a [.v (.int .i64 e.f), .s 0 1 e.lo.length c1, .s 1 1 e.hi.length c2], .v (.int .i64 t)] (fun n => if n = 0 then A else B) [⟨1, false, 3, 1, c2, .rows Int rI (e.hi)⟩, ⟨0, false, 3, 1, c1, .rows Int rI (e.lo)⟩] 2 rfl rfl (.ro (.ro (hp0 _ _ _) _ rfl rfl rfl (ro_rows h1 rfl _)) _ rfl rfl rfl (ro_rows h2 rfl _)) ?_
  ((conv=>whnf);repeat(refine And.intro (by omega) ?_;(conv=>whnf)))
  refine EvCallC.plain Try.call77 (.v (.int .i64 (min (e.lo.length : Int) (e.hi.length : Int)))) rfl (fun _ ρ W hp => envlen_s e.f _ _ _ _ _ _ W) ?_
  ((conv=>whnf);repeat(refine And.intro (by omega) ?_;(conv=>whnf)))
  refine EvIf.split (fun g => ?_) (fun g => ?_)
  · simp only [Bool.or_eq_true, decide_eq_true_eq] at g
    ((conv=>whnf);repeat(refine And.intro (by omega) ?_;(conv=>whnf)))
    refine EvRet.ret (fun _ => ?_)
    rw [atR, if_neg (by omega)]
    rfl
  · simp only [Bool.or_eq_false_iff, decide_eq_false_iff_not] at g
    ((conv=>whnf);repeat(refine And.intro (by omega) ?_;(conv=>whnf)))
    (refine EvDraw.one (.q 0 (.q 1 (.q 2 (.q 3 (.q 4 (.q 5 (.q 6 (.q 7 (.q 8 (.q 9 (.q 10 (.q 11 (.q 12 (.z)))))))))))))) (by kernel_rfl) ?_)
    ((conv=>whnf);(repeat(refine And.intro ?_ ?_;(focus((first|omega|exact⟨rfl,True.intro⟩|exact⟨rfl,rfl,True.intro⟩|rfl|(simp only[List.length_set];first|omega|(refine⟨?_,?_⟩<;>omega)|(refine⟨?_,?_,?_⟩<;>omega))|(intro hg;(try simp only[bB]at hg);first|omega|(refine⟨?_,?_⟩<;>omega)|(refine⟨?_,?_,?_⟩<;>first|omega|(show _<_;(try simp only[List.length_set]);omega)|exact leT rfl))|(refine⟨?_,?_⟩<;>omega)|(refine⟨?_,?_,?_⟩<;>first|omega|(show _<_;(try simp only[List.length_set]);omega)|exact leT rfl)|(simp only[show rI.d=(0:Int)from rfl];omega));done));(conv=>whnf))))
    refine EvRet.ret (fun _ => ?_)
    rw [atR, if_pos (by omega)]
    rfl
end Go.Proofs.Ytnoenmacakbhdaa
