
/- Envelopes: the example of the section; the reference's Clash. -/
import Derived.Test.YtnoenmacakbhdaaEh
namespace Go.Proofs.Ytnoenmacakbhdaa
open Go.RowKit
set_option linter.unusedVariables false
set_option linter.unusedSimpArgs false

def ctrB (d : Dc) (a b : Cl) (n : Nat) : Bool := (List.range n).any fun i : Nat => decide (greatV d b (d.first + i) < leastV d a (d.first + i)) || decide (greatV d a (d.first + i) < leastV d b (d.first + i))
theorem ctrB_iff {d : Dc} {a b : Cl} {n : Nat} (hn : (n : Int) = d.last - d.first + 1) : ctrB d a b n = true ↔ CtrP d a b := by
  unfold ctrB
  rw [List.any_eq_true]
  constructor
  · rintro ⟨i, hi, h⟩
    have := List.mem_range.1 hi
    simp only [Bool.or_eq_true, decide_eq_true_eq] at h
    exact ⟨d.first + i, by omega, by omega, h⟩
  · rintro ⟨t, h1, h2, h⟩
    refine ⟨(t - d.first).toNat, List.mem_range.2 (by omega), ?_⟩
    simp only [Bool.or_eq_true, decide_eq_true_eq]
    rw [show d.first + ((t - d.first).toNat : Int) = t by omega]
    exact h
def dEy : Dc := ⟨0, 0, 0, 0, 20, -1, 2, 0, 4, 0⟩
theorem ey_new : newR dEy [⟨2, 2, 10, 10⟩] = (⟨0, [6, 8, 10, 9, 8], [12, 11, 10, 12, 14]⟩, 0) := by
  rcases newR_cases (d := dEy) (l := [⟨2, 2, 10, 10⟩]) (n := 5) (by decide +kernel) (by decide) (by decide +kernel) (by decide) with ⟨h1, h2⟩ | ⟨h1, h2⟩
  · rw [h2]
    have e1 : rLoL dEy [⟨2, 2, 10, 10⟩] 5 = [6, 8, 10, 9, 8] := by decide +kernel
    have e2 : rHiL dEy [⟨2, 2, 10, 10⟩] 5 = [12, 11, 10, 12, 14] := by decide +kernel
    rw [e1, e2]
    rfl
  · exact absurd (by decide +kernel) h1
theorem ey_clash : clashV dEy [⟨2, 2, 10, 10⟩, ⟨3, 3, 13, 20⟩] = (0, 1, true) := by
  have hck : checkR dEy [⟨2, 2, 10, 10⟩, ⟨3, 3, 13, 20⟩] = 0 := by decide +kernel
  rw [clashV, if_neg (by simpa using hck)]
  have hc : ∀ a b, CtrP dEy a b ↔ ctrB dEy a b 5 = true := fun a b => (ctrB_iff (n := 5) (by decide)).symm
  have : IsClash dEy [⟨2, 2, 10, 10⟩, ⟨3, 3, 13, 20⟩] 1 2 := by
    refine ⟨by omega, by decide, ?_, fun k' h1 h2 => ?_, fun i' h1 j h2 => ?_⟩
    · unfold CtrI; rw [hc]; decide +kernel
    · obtain rfl : k' = 1 := by omega
      unfold CtrI; rw [hc]; decide +kernel
    · obtain rfl : i' = 0 := by omega
      have h3 : j < 3 := h2
      unfold CtrI; rw [hc]
      rcases j with _ | _ | _ | j
      · decide +kernel
      · decide +kernel
      · decide +kernel
      · omega
  rw [clashR_some this]
  rfl
set_option maxRecDepth 10000 in
theorem lives12_s (w : World) : Con Try.prog 18 #[] w (Ret w (.bool true)) := by
  have hD : ∀ W : World, DeclIs W (.agg (dcCells nmA (.slice none 0 0) dEy)) dEy := fun W => ⟨nmA, none, 0, [], rfl, by decide +kernel, lab0, none, 0, rfl, by simp, by simp [maxLen], rfl, fun h => by simp at h⟩
  have hI : DcI dEy := by simp only [DcI, dEy, I64]; omega
  refine enter tabOk mixed Try.func18 rfl Try.ntmps18 Try.results18 [] (fun _ => none) [] 0 rfl rfl (hp0 _ _ _) ?_
  ((conv=>whnf);repeat(refine And.intro (by omega) ?_;(conv=>whnf)))
  refine EvCall.two (ty := 3) (xs := [6, 8, 10, 9, 8]) (ys := [12, 11, 10, 12, 14]) (envES 0 0) (envES_den 0 0) (envES_lt 0 0) Try.call17 (fun ρ W hp => by
    have := new_s _ _ dEy [⟨2, 2, 10, 10⟩] W (hD W) hI (hp.lit (R := rC) (ys := [⟨2, 2, 10, 10⟩]) (n := 1) (sz := 4) (c := 1) rfl (by decide) (by simp) (by omega) rfl)
    rw [ey_new] at this
    exact this) (fun p1 p2 q1 q2 q3 q4 => ?_)
  ((conv=>whnf);repeat(refine And.intro (by omega) ?_;(conv=>whnf)))
  (refine EvDraw.oneR (.q 0 (.q 1 (.q 2 (.n 3 false (.n 4 true (.n 5 true (.q 6 (.q 7 (.q 8 (.q 9 (.q 10 (.q 11 (.q 12 (.z)))))))) (.e)) (.e)) (.e))))) [0] [0] (by kernel_rfl) ?_)
  ((conv=>whnf);(repeat(refine And.intro ?_ ?_;(focus((first|omega|exact⟨rfl,True.intro⟩|exact⟨rfl,rfl,True.intro⟩|rfl|(simp only[List.length_set];first|omega|(refine⟨?_,?_⟩<;>omega)|(refine⟨?_,?_,?_⟩<;>omega))|(intro hg;(try simp only[bB]at hg);first|omega|(refine⟨?_,?_⟩<;>omega)|(refine⟨?_,?_,?_⟩<;>first|omega|(show _<_;(try simp only[List.length_set]);omega)|exact leT rfl))|(refine⟨?_,?_⟩<;>omega)|(refine⟨?_,?_,?_⟩<;>first|omega|(show _<_;(try simp only[List.length_set]);omega)|exact leT rfl)|(simp only[show rI.d=(0:Int)from rfl];omega));done));(conv=>whnf))))
  refine EvBi.recast (n := 1) rfl (.rows Cl rC [⟨2, 2, 10, 10⟩]) (fun _ => rfl) rfl ?_
  refine EvBi.append (R := rC) (xs := [⟨2, 2, 10, 10⟩]) tyok29 rfl tyok52 rfl (by decide) rfl rfl rfl (by decide) [⟨3, 3, 13, 20⟩] (fun ρ W hp => hp.lit (R := rC) (ys := [⟨3, 3, 13, 20⟩]) (n := 5) rfl (by decide) (by simp) (by omega) rfl) (by decide) (by decide) (fun cap2 hq1 hq2 => ?_)
  ((conv=>whnf);(repeat(refine And.intro ?_ ?_;(focus((first|omega|exact⟨rfl,True.intro⟩|exact⟨rfl,rfl,True.intro⟩|rfl|(simp only[List.length_set];first|omega|(refine⟨?_,?_⟩<;>omega)|(refine⟨?_,?_,?_⟩<;>omega))|(intro hg;(try simp only[bB]at hg);first|omega|(refine⟨?_,?_⟩<;>omega)|(refine⟨?_,?_,?_⟩<;>first|omega|(show _<_;(try simp only[List.length_set]);omega)|exact leT rfl))|(refine⟨?_,?_⟩<;>omega)|(refine⟨?_,?_,?_⟩<;>first|omega|(show _<_;(try simp only[List.length_set]);omega)|exact leT rfl)|(simp only[show rI.d=(0:Int)from rfl];omega));done));(conv=>whnf))))
  refine EvCall.plain Try.call64 (.t [.v (.int .i64 0), .v (.int .i64 1), .v (.bool true)]) rfl (fun ρ W hp => by
    have := clash_s _ _ dEy [⟨2, 2, 10, 10⟩, ⟨3, 3, 13, 20⟩] W (hD W) hI (hp.rowsIn (R := rC) (xs := [Cl.mk 2 2 10 10] ++ [Cl.mk 3 3 13 20]) (n := 6) (c := cap2) rfl (by decide) (by simpa using hq1) hq2 4)
    rw [ey_clash] at this
    exact this) ?_
  ((conv=>whnf);(repeat(refine And.intro ?_ ?_;(focus((first|omega|exact⟨rfl,True.intro⟩|exact⟨rfl,rfl,True.intro⟩|rfl|(simp only[List.length_set];first|omega|(refine⟨?_,?_⟩<;>omega)|(refine⟨?_,?_,?_⟩<;>omega))|(intro hg;(try simp only[bB]at hg);first|omega|(refine⟨?_,?_⟩<;>omega)|(refine⟨?_,?_,?_⟩<;>first|omega|(show _<_;(try simp only[List.length_set]);omega)|exact leT rfl))|(refine⟨?_,?_⟩<;>omega)|(refine⟨?_,?_,?_⟩<;>first|omega|(show _<_;(try simp only[List.length_set]);omega)|exact leT rfl)|(simp only[show rI.d=(0:Int)from rfl];omega));done));(conv=>whnf))))
  refine EvCallC.plain Try.call37 (.v (.bool true)) rfl (fun _ ρ W hp => by
    have := sameints_s _ _ [6, 8, 10, 9, 8] [6, 8, 10, 9, 8] W (hp.rowsIn (R := rI) (n := 2) (c := p1) rfl (by decide) q1 q2 1) (hp.lit (R := rI) (ys := [6, 8, 10, 9, 8]) (n := 7) (sz := 1) (c := 5) rfl (by decide) (by simp) (by omega) rfl)
    rw [decide_eq_true rfl] at this
    exact this) ?_
  ((conv=>whnf);(repeat(refine And.intro ?_ ?_;(focus((first|omega|exact⟨rfl,True.intro⟩|exact⟨rfl,rfl,True.intro⟩|rfl|(simp only[List.length_set];first|omega|(refine⟨?_,?_⟩<;>omega)|(refine⟨?_,?_,?_⟩<;>omega))|(intro hg;(try simp only[bB]at hg);first|omega|(refine⟨?_,?_⟩<;>omega)|(refine⟨?_,?_,?_⟩<;>first|omega|(show _<_;(try simp only[List.length_set]);omega)|exact leT rfl))|(refine⟨?_,?_⟩<;>omega)|(refine⟨?_,?_,?_⟩<;>first|omega|(show _<_;(try simp only[List.length_set]);omega)|exact leT rfl)|(simp only[show rI.d=(0:Int)from rfl];omega));done));(conv=>whnf))))
  refine EvCallC.plain Try.call37 (.v (.bool true)) rfl (fun _ ρ W hp => by
    have := sameints_s _ _ [12, 11, 10, 12, 14] [12, 11, 10, 12, 14] W (hp.rowsIn (R := rI) (n := 3) (c := p2) rfl (by decide) q3 q4 1) (hp.lit (R := rI) (ys := [12, 11, 10, 12, 14]) (n := 8) (sz := 1) (c := 5) rfl (by decide) (by simp) (by omega) rfl)
    rw [decide_eq_true rfl] at this
    exact this) ?_
  ((conv=>whnf);repeat(refine And.intro (by omega) ?_;(conv=>whnf)))
  exact EvRet.ret (fun ρ => rfl)
end Go.Proofs.Ytnoenmacakbhdaa
