
/- Envelopes: SameInts, Same, same, equal, At. -/
import Derived.Test.YtpnngbfmmjjnaaaEe
namespace Go.Proofs.Ytpnngbfmmjjnaaa
open Go.RowKit
set_option linter.unusedVariables false
set_option linter.unusedSimpArgs false

theorem eq_of_getDI {a b : List Int} (hl : a.length = b.length) (h : ∀ j, j < a.length → a.getD j 0 = b.getD j 0) : a = b := by
  apply List.ext_getElem hl
  intro i h1 h2
  have := h i h1
  simpa [List.getD_eq_getElem?_getD, List.getElem?_eq_getElem h1, List.getElem?_eq_getElem h2] using this
/-- What At returns. -/
def atR (e : Env12) (t : Int) : Int × Int × Int := if 0 ≤ t - e.f ∧ t - e.f < min (e.lo.length : Int) (e.hi.length : Int) then (e.lo.getD (t - e.f).toNat 0, e.hi.getD (t - e.f).toNat 0, 0) else (0, 0, 9)
set_option maxRecDepth 10000 in
theorem at_s (e : Env12) (A B : Option Addr) (n1 n2 c1 c2 : Nat) (t : Int) (w : World) (h1 : RowsIn rI w (.slice A n1 c1) e.lo) (h2 : RowsIn rI w (.slice B n2 c2) e.hi) (ht : -1000000000 ≤ t ∧ t ≤ 1000000000) (hf : -1000000000 ≤ e.f ∧ e.f ≤ 1000000000) :
    Con Try.prog 33 #[envV e.f (.slice A n1 c1) (.slice B n2 c2), .int .i64 t] w (Ret w (.tuple #[.int .i64 (atR e t).1, .int .i64 (atR e t).2.1, .int .i64 (atR e t).2.2])) := by
  obtain ⟨A', c, ee, e1, e2⟩ := h1.form
  simp at ee
  obtain ⟨rfl, rfl, rfl⟩ := ee
  obtain ⟨B', c', ee, e3, e4⟩ := h2.form
  simp at ee
  obtain ⟨rfl, rfl, rfl⟩ := ee
  refine enter tabOk mixed Try.func33 rfl Try.ntmps33 Try.results33 [.a [.v (.int .i64 e.f), .s 0 1 e.lo.length c1, .s 1 1 e.hi.length c2], .v (.int .i64 t)] (fun n => if n = 0 then A else B) [⟨1, false, 3, 1, c2, .rows Int rI (e.hi)⟩, ⟨0, false, 3, 1, c1, .rows Int rI (e.lo)⟩] 2 rfl rfl (.ro (.ro (hp0 _ _ _) _ rfl rfl rfl (ro_rows h1 rfl _)) _ rfl rfl rfl (ro_rows h2 rfl _)) ?_
  ((conv=>whnf);(repeat(refine And.intro ?_ ?_;(focus((first|omega|exact⟨rfl,True.intro⟩|exact⟨rfl,rfl,True.intro⟩|rfl|(simp only[List.length_set];first|omega|(refine⟨?_,?_⟩<;>omega)|(refine⟨?_,?_,?_⟩<;>omega))|(intro hg;(try simp only[bB]at hg);first|omega|(refine⟨?_,?_⟩<;>omega)|(refine⟨?_,?_,?_⟩<;>first|omega|(show _<_;(try simp only[List.length_set]);omega)|exact leT rfl))|(refine⟨?_,?_⟩<;>omega)|(refine⟨?_,?_,?_⟩<;>first|omega|(show _<_;(try simp only[List.length_set]);omega)|exact leT rfl)|(simp only[show rI.d=(0:Int)from rfl];omega));done));(conv=>whnf))))
  refine EvCallC.plain Try.call60 (.v (.int .i64 (min (e.lo.length : Int) (e.hi.length : Int)))) rfl (fun _ ρ W hp => envlen_s e.f _ _ _ _ _ _ W) ?_
  ((conv=>whnf);(repeat(refine And.intro ?_ ?_;(focus((first|omega|exact⟨rfl,True.intro⟩|exact⟨rfl,rfl,True.intro⟩|rfl|(simp only[List.length_set];first|omega|(refine⟨?_,?_⟩<;>omega)|(refine⟨?_,?_,?_⟩<;>omega))|(intro hg;(try simp only[bB]at hg);first|omega|(refine⟨?_,?_⟩<;>omega)|(refine⟨?_,?_,?_⟩<;>first|omega|(show _<_;(try simp only[List.length_set]);omega)|exact leT rfl))|(refine⟨?_,?_⟩<;>omega)|(refine⟨?_,?_,?_⟩<;>first|omega|(show _<_;(try simp only[List.length_set]);omega)|exact leT rfl)|(simp only[show rI.d=(0:Int)from rfl];omega));done));(conv=>whnf))))
  refine EvIf.split (fun g => ?_) (fun g => ?_)
  · simp only [Bool.or_eq_true, decide_eq_true_eq] at g
    ((conv=>whnf);(repeat(refine And.intro ?_ ?_;(focus((first|omega|exact⟨rfl,True.intro⟩|exact⟨rfl,rfl,True.intro⟩|rfl|(simp only[List.length_set];first|omega|(refine⟨?_,?_⟩<;>omega)|(refine⟨?_,?_,?_⟩<;>omega))|(intro hg;(try simp only[bB]at hg);first|omega|(refine⟨?_,?_⟩<;>omega)|(refine⟨?_,?_,?_⟩<;>first|omega|(show _<_;(try simp only[List.length_set]);omega)|exact leT rfl))|(refine⟨?_,?_⟩<;>omega)|(refine⟨?_,?_,?_⟩<;>first|omega|(show _<_;(try simp only[List.length_set]);omega)|exact leT rfl)|(simp only[show rI.d=(0:Int)from rfl];omega));done));(conv=>whnf))))
    refine EvRet.ret (fun _ => ?_)
    rw [atR, if_neg (by omega)]
    rfl
  · simp only [Bool.or_eq_false_iff, decide_eq_false_iff_not] at g
    ((conv=>whnf);(repeat(refine And.intro ?_ ?_;(focus((first|omega|exact⟨rfl,True.intro⟩|exact⟨rfl,rfl,True.intro⟩|rfl|(simp only[List.length_set];first|omega|(refine⟨?_,?_⟩<;>omega)|(refine⟨?_,?_,?_⟩<;>omega))|(intro hg;(try simp only[bB]at hg);first|omega|(refine⟨?_,?_⟩<;>omega)|(refine⟨?_,?_,?_⟩<;>first|omega|(show _<_;(try simp only[List.length_set]);omega)|exact leT rfl))|(refine⟨?_,?_⟩<;>omega)|(refine⟨?_,?_,?_⟩<;>first|omega|(show _<_;(try simp only[List.length_set]);omega)|exact leT rfl)|(simp only[show rI.d=(0:Int)from rfl];omega));done));(conv=>whnf))))
    (refine EvDraw.one (.q 0 (.q 1 (.q 2 (.q 3 (.q 4 (.q 5 (.q 6 (.q 7 (.q 8 (.q 9 (.q 10 (.q 11 (.q 12 (.z)))))))))))))) (by kernel_rfl) ?_)
    ((conv=>whnf);(repeat(refine And.intro ?_ ?_;(focus((first|omega|exact⟨rfl,True.intro⟩|exact⟨rfl,rfl,True.intro⟩|rfl|(simp only[List.length_set];first|omega|(refine⟨?_,?_⟩<;>omega)|(refine⟨?_,?_,?_⟩<;>omega))|(intro hg;(try simp only[bB]at hg);first|omega|(refine⟨?_,?_⟩<;>omega)|(refine⟨?_,?_,?_⟩<;>first|omega|(show _<_;(try simp only[List.length_set]);omega)|exact leT rfl))|(refine⟨?_,?_⟩<;>omega)|(refine⟨?_,?_,?_⟩<;>first|omega|(show _<_;(try simp only[List.length_set]);omega)|exact leT rfl)|(simp only[show rI.d=(0:Int)from rfl];omega));done));(conv=>whnf))))
    refine EvRet.ret (fun _ => ?_)
    rw [atR, if_pos (by omega)]
    rfl
end Go.Proofs.Ytpnngbfmmjjnaaa
