
/- Lossy steps: the example of the section, walked. -/
import Derived.Test.YtpnngbfmmjjnaaaLd
import Derived.Test.YtpnngbfmmjjnaaaEi
namespace Go.Proofs.Ytpnngbfmmjjnaaa
open Go.RowKit
set_option linter.unusedVariables false
set_option linter.unusedSimpArgs false

def nmC : ByteArray := ⟨#[99, 112, 117]⟩
def dEl : Dc := ⟨0, 0, 0, 0, 20, -1, 2, 0, 4, 0⟩
def lEl : List Cl := [⟨2, 2, 10, 10⟩]
section
theorem el_new : newR dEl lEl = (⟨0, [6, 8, 10, 9, 8], [12, 11, 10, 12, 14]⟩, 0) := by
  rcases newR_cases (d := dEl) (l := lEl) (n := 5) (by decide +kernel) (by decide) (by decide +kernel) (by decide) with ⟨h1, h2⟩ | ⟨h1, h2⟩
  · rw [h2]
    have e1 : rLoL dEl lEl 5 = [6, 8, 10, 9, 8] := by decide +kernel
    have e2 : rHiL dEl lEl 5 = [12, 11, 10, 12, 14] := by decide +kernel
    rw [e1, e2]
    rfl
  · exact absurd (by decide +kernel) h1
theorem el_new1 : newR dEl [⟨2, 2, 8, 12⟩] = (⟨0, [4, 6, 8, 7, 6], [14, 13, 12, 14, 16]⟩, 0) := by
  rcases newR_cases (d := dEl) (l := [⟨2, 2, 8, 12⟩]) (n := 5) (by decide +kernel) (by decide) (by decide +kernel) (by decide) with ⟨h1, h2⟩ | ⟨h1, h2⟩
  · rw [h2]
    have e1 : rLoL dEl [⟨2, 2, 8, 12⟩] 5 = [4, 6, 8, 7, 6] := by decide +kernel
    have e2 : rHiL dEl [⟨2, 2, 8, 12⟩] 5 = [14, 13, 12, 14, 16] := by decide +kernel
    rw [e1, e2]
    rfl
  · exact absurd (by decide +kernel) h1
theorem el_new2 : newR dEl [⟨0, 2, 6, 12⟩, ⟨3, 4, 8, 14⟩] = (⟨0, [6, 6, 6, 8, 8], [12, 12, 12, 14, 14]⟩, 0) := by
  rcases newR_cases (d := dEl) (l := [⟨0, 2, 6, 12⟩, ⟨3, 4, 8, 14⟩]) (n := 5) (by decide +kernel) (by decide) (by decide +kernel) (by decide) with ⟨h1, h2⟩ | ⟨h1, h2⟩
  · rw [h2]
    have e1 : rLoL dEl [⟨0, 2, 6, 12⟩, ⟨3, 4, 8, 14⟩] 5 = [6, 6, 6, 8, 8] := by decide +kernel
    have e2 : rHiL dEl [⟨0, 2, 6, 12⟩, ⟨3, 4, 8, 14⟩] 5 = [12, 12, 12, 14, 14] := by decide +kernel
    rw [e1, e2]
    rfl
  · exact absurd (by decide +kernel) h1
theorem el_new3 : newR dEl [⟨3, 3, 9, 12⟩] = (⟨0, [3, 5, 7, 9, 8], [15, 14, 13, 12, 14]⟩, 0) := by
  rcases newR_cases (d := dEl) (l := [⟨3, 3, 9, 12⟩]) (n := 5) (by decide +kernel) (by decide) (by decide +kernel) (by decide) with ⟨h1, h2⟩ | ⟨h1, h2⟩
  · rw [h2]
    have e1 : rLoL dEl [⟨3, 3, 9, 12⟩] 5 = [3, 5, 7, 9, 8] := by decide +kernel
    have e2 : rHiL dEl [⟨3, 3, 9, 12⟩] 5 = [15, 14, 13, 12, 14] := by decide +kernel
    rw [e1, e2]
    rfl
  · exact absurd (by decide +kernel) h1
end
theorem el_fin {r : List Cl} {e : Env12} {k : Int} (h : newR dEl r = (e, 0)) (hr : r.length ≤ 4096) (hs : sortC r = r) (hg : growthR ⟨0, [6, 8, 10, 9, 8], [12, 11, 10, 12, 14]⟩ e = (k, 0)) : finR dEl lEl r = (r, k, 0) := by
  have hc : costR dEl lEl r = (k, 0) := by
    rw [costR, el_new, h, if_neg (by simp), if_neg (by simp)]
    exact hg
  rw [finR, if_neg (by omega), hc, if_neg (by simp), hs]
theorem el_qu : quR dEl lEl 4 = ([⟨2, 2, 8, 12⟩], 4, 0) := by
  have e : lEl.map (wid 4) = [⟨2, 2, 8, 12⟩] := by decide +kernel
  rw [quR, el_new, if_neg (by simp), if_neg (by omega), e]
  exact el_fin el_new1 (by decide) (by decide +kernel) (by decide +kernel)
theorem el_rol0 : rolL 0 3 [6, 8, 10, 9, 8] [12, 11, 10, 12, 14] 5 = [⟨0, 2, 6, 12⟩, ⟨3, 4, 8, 14⟩] := by decide +kernel
theorem el_rol : rolR dEl lEl 3 = ([⟨0, 2, 6, 12⟩, ⟨3, 4, 8, 14⟩], 6, 0) := by
  rw [rolR, el_new, if_neg (by simp), if_neg (by omega)]
  show finR dEl lEl (rolL 0 3 [6, 8, 10, 9, 8] [12, 11, 10, 12, 14] 5) = _
  rw [el_rol0]
  exact el_fin el_new2 (by decide) (by decide +kernel) (by decide +kernel)
theorem el_ret : retR dEl lEl 3 = ([⟨3, 3, 9, 12⟩], 6, 0) := by
  rw [retR, el_new, if_neg (by simp), if_neg (by omega)]
  have e : keptL ⟨0, [6, 8, 10, 9, 8], [12, 11, 10, 12, 14]⟩ lEl 3 = [⟨3, 3, 9, 12⟩] := by decide +kernel
  show finR dEl lEl (keptL ⟨0, [6, 8, 10, 9, 8], [12, 11, 10, 12, 14]⟩ lEl 3) = _
  rw [e]
  exact el_fin el_new3 (by decide) (by decide +kernel) (by decide +kernel)
set_option maxHeartbeats 1000000 in
set_option maxRecDepth 20000 in
theorem lives16_s (w : World) : Con Try.prog 26 #[] w (Ret w (.bool true)) := by
  have hD : ∀ W : World, DeclIs W (.agg (dcCells nmC (.slice none 0 0) dEl)) dEl := fun W => ⟨nmC, none, 0, [], rfl, by decide +kernel, lab0, none, 0, rfl, by simp, by simp [maxLen], rfl, fun h => by simp at h⟩
  have hI : DcI dEl := by simp only [DcI, dEl, I64]; omega
  refine enter tabOk mixed Try.func26 rfl Try.ntmps26 Try.results26 [] (fun _ => none) [] 0 rfl rfl (hp0 _ _ _) ?_
  ((conv=>whnf);(repeat(refine And.intro ?_ ?_;(focus((first|omega|exact⟨rfl,True.intro⟩|exact⟨rfl,rfl,True.intro⟩|rfl|(simp only[List.length_set];first|omega|(refine⟨?_,?_⟩<;>omega)|(refine⟨?_,?_,?_⟩<;>omega))|(intro hg;(try simp only[bB]at hg);first|omega|(refine⟨?_,?_⟩<;>omega)|(refine⟨?_,?_,?_⟩<;>first|omega|(show _<_;(try simp only[List.length_set]);omega)|exact leT rfl))|(refine⟨?_,?_⟩<;>omega)|(refine⟨?_,?_,?_⟩<;>first|omega|(show _<_;(try simp only[List.length_set]);omega)|exact leT rfl)|(simp only[show rI.d=(0:Int)from rfl];omega));done));(conv=>whnf))))
  refine EvCall.rows3 (R := rC) (ty := 62) (xs := [⟨2, 2, 8, 12⟩]) (c := 4) (z := 0) Try.call18 (fun ρ W hp => by
    have := quantise_s _ _ dEl lEl 4 W (hD W) hI (hp.lit (R := rC) (ys := lEl) (n := 1) (sz := 4) (c := 1) rfl (by decide) (by decide) (by omega) rfl) (by decide)
    rw [el_qu] at this
    exact this) (fun k1 a1 a2 => ?_)
  ((conv=>whnf);(repeat(refine And.intro ?_ ?_;(focus((first|omega|exact⟨rfl,True.intro⟩|exact⟨rfl,rfl,True.intro⟩|rfl|(simp only[List.length_set];first|omega|(refine⟨?_,?_⟩<;>omega)|(refine⟨?_,?_,?_⟩<;>omega))|(intro hg;(try simp only[bB]at hg);first|omega|(refine⟨?_,?_⟩<;>omega)|(refine⟨?_,?_,?_⟩<;>first|omega|(show _<_;(try simp only[List.length_set]);omega)|exact leT rfl))|(refine⟨?_,?_⟩<;>omega)|(refine⟨?_,?_,?_⟩<;>first|omega|(show _<_;(try simp only[List.length_set]);omega)|exact leT rfl)|(simp only[show rI.d=(0:Int)from rfl];omega));done));(conv=>whnf))))
  refine EvCall.rows3 (R := rC) (ty := 62) (xs := [⟨0, 2, 6, 12⟩, ⟨3, 4, 8, 14⟩]) (c := 6) (z := 0) Try.call20 (fun ρ W hp => by
    have := rollup_s _ _ dEl lEl 3 W (hD W) hI (hp.lit (R := rC) (ys := lEl) (n := 1) (sz := 4) (c := 1) rfl (by decide) (by decide) (by omega) rfl) (.inl (by rw [el_new]; show (rolL 0 3 [6, 8, 10, 9, 8] [12, 11, 10, 12, 14] 5).length ≤ 1000; rw [el_rol0]; decide))
    rw [el_rol] at this
    exact this) (fun k2 b1 b2 => ?_)
  ((conv=>whnf);(repeat(refine And.intro ?_ ?_;(focus((first|omega|exact⟨rfl,True.intro⟩|exact⟨rfl,rfl,True.intro⟩|rfl|(simp only[List.length_set];first|omega|(refine⟨?_,?_⟩<;>omega)|(refine⟨?_,?_,?_⟩<;>omega))|(intro hg;(try simp only[bB]at hg);first|omega|(refine⟨?_,?_⟩<;>omega)|(refine⟨?_,?_,?_⟩<;>first|omega|(show _<_;(try simp only[List.length_set]);omega)|exact leT rfl))|(refine⟨?_,?_⟩<;>omega)|(refine⟨?_,?_,?_⟩<;>first|omega|(show _<_;(try simp only[List.length_set]);omega)|exact leT rfl)|(simp only[show rI.d=(0:Int)from rfl];omega));done));(conv=>whnf))))
  refine EvCall.rows3 (R := rC) (ty := 62) (xs := [⟨3, 3, 9, 12⟩]) (c := 6) (z := 0) Try.call21 (fun ρ W hp => by
    have := retain_s _ _ dEl lEl 3 W (hD W) hI (hp.lit (R := rC) (ys := lEl) (n := 1) (sz := 4) (c := 1) rfl (by decide) (by decide) (by omega) rfl) (by decide)
    rw [el_ret] at this
    exact this) (fun k3 c1 c2 => ?_)
  ((conv=>whnf);(repeat(refine And.intro ?_ ?_;(focus((first|omega|exact⟨rfl,True.intro⟩|exact⟨rfl,rfl,True.intro⟩|rfl|(simp only[List.length_set];first|omega|(refine⟨?_,?_⟩<;>omega)|(refine⟨?_,?_,?_⟩<;>omega))|(intro hg;(try simp only[bB]at hg);first|omega|(refine⟨?_,?_⟩<;>omega)|(refine⟨?_,?_,?_⟩<;>first|omega|(show _<_;(try simp only[List.length_set]);omega)|exact leT rfl))|(refine⟨?_,?_⟩<;>omega)|(refine⟨?_,?_,?_⟩<;>first|omega|(show _<_;(try simp only[List.length_set]);omega)|exact leT rfl)|(simp only[show rI.d=(0:Int)from rfl];omega));done));(conv=>whnf))))
  exact EvRet.ret (fun _ => rfl)
end Go.Proofs.Ytpnngbfmmjjnaaa
