
/- Histories: the example of the section; the law HistoryExtremes, walked. -/
import Derived.Test.YtnoenmacakbhdaaHd
import Derived.Test.YtnoenmacakbhdaaCu
import Derived.Test.YtnoenmacakbhdaaSyG
namespace Go.Proofs.Ytnoenmacakbhdaa
open Go.RowKit
set_option linter.unusedVariables false
set_option linter.unusedSimpArgs false

def dEh : Dc := ⟨0, 0, 0, 0, 20, -1, 2, 0, 2, 0⟩
def lEh : List Cl := [⟨1, 1, 5, 6⟩]
theorem eh_vc : validCode dEh = 0 := by decide +kernel
theorem eh_lv : ∀ c ∈ lEh, validB dEh c = true := by decide +kernel
theorem eh_new : newR dEh lEh = (⟨0, [3, 5, 4], [7, 6, 8]⟩, 0) := by
  rcases newR_cases (d := dEh) (l := lEh) (n := 3) (by decide +kernel) (by decide) (by decide +kernel) (by decide) with ⟨h1, h2⟩ | ⟨h1, h2⟩
  · rw [h2]
    have e1 : rLoL dEh lEh 3 = [3, 5, 4] := by decide +kernel
    have e2 : rHiL dEh lEh 3 = [7, 6, 8] := by decide +kernel
    rw [e1, e2]
    rfl
  · exact absurd (by decide +kernel) h1
theorem eh_th : thR dEh lEh 2 4 = ([6, 5, 4], 0) := by
  rw [thR, eh_new, if_neg (by simp), if_neg (by decide +kernel), if_neg (by decide +kernel)]
  have e : capL dEh (rHiL dEh lEh (spanN dEh)) 2 4 = [6, 5, 4] := by decide +kernel
  rw [e]
theorem eh_st : stR dEh lEh 0 2 false = ([3, 5, 7], 0) := by
  have hm : stM dEh lEh 0 2 false = 4 := by
    show chHi dEh ⟨dEh.first, rLoL dEh lEh (spanN dEh), rHiL dEh lEh (spanN dEh)⟩ 0 2 = 4
    decide +kernel
  rw [stR, eh_new, if_neg (by simp), if_neg (by decide +kernel), hm]
  have e : stL dEh lEh (spanN dEh) (0 - dEh.first).toNat (2 - dEh.first).toNat 4 = [3, 5, 7] := by decide +kernel
  rw [e]
theorem eh_ct : cntR dEh lEh 99 = 32 := by
  rw [cntR, eh_new, if_neg (by simp; omega)]
  have hno : ¬ ∃ i, i < spanN dEh ∧ (min 99 10000 : Int) ≤ ([7, 6, 8] : List Int).getD i 0 - ([3, 5, 4] : List Int).getD i 0 + 1 := by
    rintro ⟨i, hi, h⟩
    have h3 : i < 3 := hi
    obtain rfl | rfl | rfl : i = 0 ∨ i = 1 ∨ i = 2 := by omega
    · exact absurd h (by decide +kernel)
    · exact absurd h (by decide +kernel)
    · exact absurd h (by decide +kernel)
  show cntE dEh (spanN dEh) [3, 5, 4] [7, 6, 8] (min 99 10000) = 32
  rw [cntE, if_neg hno]
  decide +kernel
set_option maxRecDepth 10000 in
theorem lives13_s (w : World) : Con Try.prog 38 #[] w (Ret w (.bool true)) := by
  have hD : ∀ W : World, DeclIs W (.agg (dcCells nmA (.slice none 0 0) dEh)) dEh := fun W => ⟨nmA, none, 0, [], rfl, by decide +kernel, lab0, none, 0, rfl, by simp, by simp [maxLen], rfl, fun h => by simp at h⟩
  have hI : DcI dEh := by simp only [DcI, dEh, I64]; omega
  refine enter tabOk mixed Try.func38 rfl Try.ntmps38 Try.results38 [] (fun _ => none) [] 0 rfl rfl (hp0 _ _ _) ?_
  ((conv=>whnf);repeat(refine And.intro (by omega) ?_;(conv=>whnf)))
  refine EvCall.rowsE (R := rI) (ty := 3) (xs := [3, 5, 4]) (z := 0) Try.call46 (fun ρ W hp => by
    have := hleast_s _ _ dEh lEh W (hD W) hI (hp.lit (R := rC) (ys := lEh) (n := 1) (sz := 4) (c := 1) rfl (by decide) (by decide) (by omega) rfl)
    rw [eh_new] at this
    exact this) (fun k1 a1 a2 => ?_)
  ((conv=>whnf);repeat(refine And.intro (by omega) ?_;(conv=>whnf)))
  refine EvCall.rowsE (R := rI) (ty := 3) (xs := [7, 6, 8]) (z := 0) Try.call47 (fun ρ W hp => by
    have := hgreat_s _ _ dEh lEh W (hD W) hI (hp.lit (R := rC) (ys := lEh) (n := 1) (sz := 4) (c := 1) rfl (by decide) (by decide) (by omega) rfl)
    rw [eh_new] at this
    exact this) (fun k2 b1 b2 => ?_)
  ((conv=>whnf);repeat(refine And.intro (by omega) ?_;(conv=>whnf)))
  refine EvCall.rowsE (R := rI) (ty := 3) (xs := [6, 5, 4]) (z := 0) Try.call49 (fun ρ W hp => by
    have := hthrough_s _ _ dEh lEh 2 4 W (hD W) hI eh_vc (by decide) eh_lv (hp.lit (R := rC) (ys := lEh) (n := 1) (sz := 4) (c := 1) rfl (by decide) (by decide) (by omega) rfl) (by omega)
    rw [eh_th] at this
    exact this) (fun k3 d1 d2 => ?_)
  ((conv=>whnf);repeat(refine And.intro (by omega) ?_;(conv=>whnf)))
  refine EvCall.rowsE (R := rI) (ty := 3) (xs := [3, 5, 7]) (z := 0) Try.call42 (fun ρ W hp => by
    have := hsteep_s _ _ dEh lEh 0 2 false W (hD W) hI eh_vc (by decide) eh_lv (hp.lit (R := rC) (ys := lEh) (n := 1) (sz := 4) (c := 1) rfl (by decide) (by decide) (by omega) rfl) (by omega) (by omega) (by decide)
    rw [eh_st] at this
    exact this) (fun k4 f1 f2 => ?_)
  ((conv=>whnf);repeat(refine And.intro (by omega) ?_;(conv=>whnf)))
  refine EvCallC.plain Try.call34 (.v (.int .i64 32)) rfl (fun _ ρ W hp => by
    have := hcount_s _ _ dEh lEh 99 W (hD W) hI eh_vc (by decide) eh_lv (hp.lit (R := rC) (ys := lEh) (n := 1) (sz := 4) (c := 1) rfl (by decide) (by decide) (by omega) rfl)
    rw [eh_ct] at this
    exact this) ?_
  ((conv=>whnf);repeat(refine And.intro (by omega) ?_;(conv=>whnf)))
  refine EvIf.neg rfl ?_
  ((conv=>whnf);repeat(refine And.intro (by omega) ?_;(conv=>whnf)))
  refine EvCall.plain Try.call37 (.v (.bool true)) rfl (fun ρ W hp => by
    have := sameints_s _ _ [3, 5, 4] [3, 5, 4] W (hp.rowsIn (R := rI) (n := 2) (c := k1) rfl (by decide) a1 a2 1) (hp.lit (R := rI) (ys := [3, 5, 4]) (n := 6) (sz := 1) (c := 3) rfl (by decide) (by simp) (by omega) rfl)
    rw [decide_eq_true rfl] at this
    exact this) ?_
  ((conv=>whnf);(repeat(refine And.intro ?_ ?_;(focus((first|omega|exact⟨rfl,True.intro⟩|exact⟨rfl,rfl,True.intro⟩|rfl|(simp only[List.length_set];first|omega|(refine⟨?_,?_⟩<;>omega)|(refine⟨?_,?_,?_⟩<;>omega))|(intro hg;(try simp only[bB]at hg);first|omega|(refine⟨?_,?_⟩<;>omega)|(refine⟨?_,?_,?_⟩<;>first|omega|(show _<_;(try simp only[List.length_set]);omega)|exact leT rfl))|(refine⟨?_,?_⟩<;>omega)|(refine⟨?_,?_,?_⟩<;>first|omega|(show _<_;(try simp only[List.length_set]);omega)|exact leT rfl)|(simp only[show rI.d=(0:Int)from rfl];omega));done));(conv=>whnf))))
  refine EvCallC.plain Try.call37 (.v (.bool true)) rfl (fun _ ρ W hp => by
    have := sameints_s _ _ [7, 6, 8] [7, 6, 8] W (hp.rowsIn (R := rI) (n := 3) (c := k2) rfl (by decide) b1 b2 1) (hp.lit (R := rI) (ys := [7, 6, 8]) (n := 7) (sz := 1) (c := 3) rfl (by decide) (by simp) (by omega) rfl)
    rw [decide_eq_true rfl] at this
    exact this) ?_
  ((conv=>whnf);(repeat(refine And.intro ?_ ?_;(focus((first|omega|exact⟨rfl,True.intro⟩|exact⟨rfl,rfl,True.intro⟩|rfl|(simp only[List.length_set];first|omega|(refine⟨?_,?_⟩<;>omega)|(refine⟨?_,?_,?_⟩<;>omega))|(intro hg;(try simp only[bB]at hg);first|omega|(refine⟨?_,?_⟩<;>omega)|(refine⟨?_,?_,?_⟩<;>first|omega|(show _<_;(try simp only[List.length_set]);omega)|exact leT rfl))|(refine⟨?_,?_⟩<;>omega)|(refine⟨?_,?_,?_⟩<;>first|omega|(show _<_;(try simp only[List.length_set]);omega)|exact leT rfl)|(simp only[show rI.d=(0:Int)from rfl];omega));done));(conv=>whnf))))
  refine EvCallC.plain Try.call37 (.v (.bool true)) rfl (fun _ ρ W hp => by
    have := sameints_s _ _ [6, 5, 4] [6, 5, 4] W (hp.rowsIn (R := rI) (n := 4) (c := k3) rfl (by decide) d1 d2 1) (hp.lit (R := rI) (ys := [6, 5, 4]) (n := 8) (sz := 1) (c := 3) rfl (by decide) (by simp) (by omega) rfl)
    rw [decide_eq_true rfl] at this
    exact this) ?_
  ((conv=>whnf);(repeat(refine And.intro ?_ ?_;(focus((first|omega|exact⟨rfl,True.intro⟩|exact⟨rfl,rfl,True.intro⟩|rfl|(simp only[List.length_set];first|omega|(refine⟨?_,?_⟩<;>omega)|(refine⟨?_,?_,?_⟩<;>omega))|(intro hg;(try simp only[bB]at hg);first|omega|(refine⟨?_,?_⟩<;>omega)|(refine⟨?_,?_,?_⟩<;>first|omega|(show _<_;(try simp only[List.length_set]);omega)|exact leT rfl))|(refine⟨?_,?_⟩<;>omega)|(refine⟨?_,?_,?_⟩<;>first|omega|(show _<_;(try simp only[List.length_set]);omega)|exact leT rfl)|(simp only[show rI.d=(0:Int)from rfl];omega));done));(conv=>whnf))))
  refine EvCallC.plain Try.call37 (.v (.bool true)) rfl (fun _ ρ W hp => by
    have := sameints_s _ _ [3, 5, 7] [3, 5, 7] W (hp.rowsIn (R := rI) (n := 5) (c := k4) rfl (by decide) f1 f2 1) (hp.lit (R := rI) (ys := [3, 5, 7]) (n := 9) (sz := 1) (c := 3) rfl (by decide) (by simp) (by omega) rfl)
    rw [decide_eq_true rfl] at this
    exact this) ?_
  ((conv=>whnf);repeat(refine And.intro (by omega) ?_;(conv=>whnf)))
  exact EvRet.ret (fun ρ => rfl)
end Go.Proofs.Ytnoenmacakbhdaa
