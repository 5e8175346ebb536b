
/- Envelopes: New, At. -/
import Derived.Test.YtpnngbfmmjjnaaaEb
namespace Go.Proofs.Ytpnngbfmmjjnaaa
open Go.RowKit
set_option linter.unusedVariables false
set_option linter.unusedSimpArgs false

theorem partS_all (d : Dc) (l : List Cl) : partS d l 0 (l.length + 1) = srcL d l := by simp [partS, srcL]
/-- An envelope's contents: first tick, lower and upper bounds. -/
structure Env12 where
  f : Int
  lo : List Int
  hi : List Int
def env0' : Env12 := ⟨0, [], []⟩
noncomputable def newR (d : Dc) (l : List Cl) : Env12 × Int :=
  if (bandsR d l).2 ≠ 0 then (env0', (bandsR d l).2)
  else if crossB (bLoL d (srcL d l) (d.last - d.first + 1).toNat) (bHiL d (srcL d l) (d.last - d.first + 1).toNat) = true then (env0', 13)
  else (⟨d.first, bLoL d (srcL d l) (d.last - d.first + 1).toNat, bHiL d (srcL d l) (d.last - d.first + 1).toNat⟩, 0)
theorem bands_ok0 {d : Dc} {l : List Cl} (h : (bandsR d l).2 = 0) : validCode d = 0 ∧ l.length ≤ 4096 ∧ ∀ c ∈ l, validB d c = true := by
  unfold bandsR at h
  split at h
  · rename_i h1; exact absurd h h1
  · rename_i h1
    split at h
    · cases h
    · rename_i h2
      split at h
      · cases h
      · rename_i h3
        exact ⟨by omega, by omega, by simpa using h3⟩
set_option maxRecDepth 20000 in
theorem new_s (V v : Value) (d : Dc) (l : List Cl) (w : World) (h : DeclIs w V d) (hI : DcI d) (hv : RowsIn rC w v l) :
    Con Try.prog 14 #[V, v] w (Ret2 3 w (newR d l).1.lo (newR d l).1.hi (envEV (newR d l).1.f (newR d l).2)) := by
  have hD := h
  obtain ⟨nm, A, c, lb, rfl, hnm, hl, hS⟩ := h
  obtain ⟨A1, c1, rfl, e1, e2⟩ := hv.form
  refine enterD (t := 6) (g := 41) (caps := [.tmp 5, .tmp 4]) tabOk mixed Try.func14 rfl Try.ntmps14 Try.results14 rfl rfl rfl rfl ⟨_, rfl⟩ rfl rfl Try.func41 rfl Try.ntmps41 rfl Try.call41 [.a (dcS nm (.v (.slice A lb.length c)) d), .s 0 4 l.length c1] (fun _ => A1) [⟨0, false, 62, 4, c1, .rows Cl rC (l)⟩] 1 rfl rfl rfl (.ro (hp0 _ _ _) _ rfl rfl rfl (ro_rows hv rfl _)) ?_
  ((conv=>whnf);repeat(refine And.intro (by omega) ?_;(conv=>whnf)))
  intro ρ1
  ((conv=>whnf);repeat(refine And.intro (by omega) ?_;(conv=>whnf)))
  refine EvCall.rowsE (R := rC) (ty := 62) (xs := (bandsR d l).1) (z := (bandsR d l).2) Try.call42 (fun ρ W hp => bands_s _ _ d l W (hD.below hp.bel) hI (hp.rowsIn (R := rC) (n := 0) rfl (by decide) e1 e2 4)) (fun cap hc1 hc2 => ?_)
  ((conv=>whnf);repeat(refine And.intro (by omega) ?_;(conv=>whnf)))
  refine EvIf.split (fun g1 => ?_) (fun g1 => ?_)
  · simp only [Bool.not_eq_true', decide_eq_false_iff_not] at g1
    have hR : newR d l = (env0', (bandsR d l).2) := by unfold newR; rw [if_pos g1]
    rw [hR]
    ((conv=>whnf);repeat(refine And.intro (by omega) ?_;(conv=>whnf)))
    (refine EvDraw.oneR (.q 0 (.q 1 (.n 2 true (.n 3 true (.z) (.e)) (.e)))) [1] [3] (by kernel_rfl) ?_)
    ((conv=>whnf);(repeat(refine And.intro ?_ ?_;(focus((first|omega|exact⟨rfl,True.intro⟩|exact⟨rfl,rfl,True.intro⟩|rfl|(simp only[List.length_set];first|omega|(refine⟨?_,?_⟩<;>omega)|(refine⟨?_,?_,?_⟩<;>omega))|(intro hg;(try simp only[bB]at hg);first|omega|(refine⟨?_,?_⟩<;>omega)|(refine⟨?_,?_,?_⟩<;>first|omega|(show _<_;(try simp only[List.length_set]);omega)|exact leT rfl))|(refine⟨?_,?_⟩<;>omega)|(refine⟨?_,?_,?_⟩<;>first|omega|(show _<_;(try simp only[List.length_set]);omega)|exact leT rfl)|(simp only[show rI.d=(0:Int)from rfl];omega));done));(conv=>whnf))))
    intro ρ2
    ((conv=>whnf);repeat(refine And.intro (by omega) ?_;(conv=>whnf)))
    refine EvIf.pos (by simpa using g1) ?_
    ((conv=>whnf);repeat(refine And.intro (by omega) ?_;(conv=>whnf)))
    exact EvRet.two_nil (fun ρ => by simp [den, denL, envEV, envV, env0']) rfl rfl
  simp only [Bool.not_eq_false', decide_eq_true_eq] at g1
  obtain ⟨hvc, hll, hlv⟩ := bands_ok0 g1
  have hbd := valid_bounds hvc
  obtain ⟨sp, hsp⟩ : ∃ sp : Nat, d.last - d.first + 1 = (sp : Int) := ⟨(d.last - d.first + 1).toNat, by omega⟩
  have hR : newR d l = if crossB (bLoL d (srcL d l) sp) (bHiL d (srcL d l) sp) = true then (env0', 13) else (⟨d.first, bLoL d (srcL d l) sp, bHiL d (srcL d l) sp⟩, 0) := by
    unfold newR
    rw [if_neg (by simpa using g1), hsp, Int.toNat_natCast]
  have hl1 := bLoL_len d (srcL d l) sp
  have hl2 := bHiL_len d (srcL d l) sp
  ((conv=>whnf);repeat(refine And.intro (by omega) ?_;(conv=>whnf)))
  refine EvCall.two (ty := 3) (xs := bLoL d (srcL d l) sp) (ys := bHiL d (srcL d l) sp) (envS d.first) (envS_den d.first) (envS_lt d.first) Try.call43 (fun ρ W hp => by
    have := ebound_s nm A lb.length c (den ρ (.s 0 4 l.length c1)) d l 0 (l.length + 1) sp W hvc (hp.rowsIn (R := rC) (n := 0) rfl (by decide) e1 e2 4) hlv (by omega) (by omega) hll hsp
    rw [partS_all, show (((l.length + 1 : Nat) : Int) - 2) = (l.length : Int) - 1 by omega] at this
    exact this) (fun p1 p2 q1 q2 q3 q4 => ?_)
  generalize bLoL d (srcL d l) sp = los at hR hl1 q1 ⊢
  generalize bHiL d (srcL d l) sp = his at hR hl2 q3 ⊢
  ((conv=>whnf);repeat(refine And.intro (by omega) ?_;(conv=>whnf)))
  refine EvCall.plain Try.call44 (.v (.bool (crossB los his))) rfl (fun ρ W hp => crossed_s d.first d.first _ _ _ _ _ _ _ _ _ _ _ _ los his W (hp.rowsIn (R := rI) (n := 5) rfl (by decide) q1 q2 1) (hp.rowsIn (R := rI) (n := 6) rfl (by decide) q3 q4 1) (by omega)) ?_
  ((conv=>whnf);repeat(refine And.intro (by omega) ?_;(conv=>whnf)))
  refine EvIf.split (fun g2 => ?_) (fun g2 => ?_)
  · rw [if_pos g2] at hR
    rw [hR]
    ((conv=>whnf);repeat(refine And.intro (by omega) ?_;(conv=>whnf)))
    (refine EvDraw.oneR (.q 0 (.q 1 (.n 2 true (.n 3 true (.z) (.e)) (.e)))) [1] [3] (by kernel_rfl) ?_)
    ((conv=>whnf);(repeat(refine And.intro ?_ ?_;(focus((first|omega|exact⟨rfl,True.intro⟩|exact⟨rfl,rfl,True.intro⟩|rfl|(simp only[List.length_set];first|omega|(refine⟨?_,?_⟩<;>omega)|(refine⟨?_,?_,?_⟩<;>omega))|(intro hg;(try simp only[bB]at hg);first|omega|(refine⟨?_,?_⟩<;>omega)|(refine⟨?_,?_,?_⟩<;>first|omega|(show _<_;(try simp only[List.length_set]);omega)|exact leT rfl))|(refine⟨?_,?_⟩<;>omega)|(refine⟨?_,?_,?_⟩<;>first|omega|(show _<_;(try simp only[List.length_set]);omega)|exact leT rfl)|(simp only[show rI.d=(0:Int)from rfl];omega));done));(conv=>whnf))))
    intro ρ2
    ((conv=>whnf);repeat(refine And.intro (by omega) ?_;(conv=>whnf)))
    refine EvIf.pos rfl ?_
    ((conv=>whnf);repeat(refine And.intro (by omega) ?_;(conv=>whnf)))
    exact EvRet.two_nil (fun ρ => by simp [den, denL, envEV, envV, env0']) rfl rfl
  · rw [if_neg (by rw [g2]; simp)] at hR
    rw [hR]
    ((conv=>whnf);repeat(refine And.intro (by omega) ?_;(conv=>whnf)))
    (refine EvDraw.oneR (.q 0 (.q 1 (.n 2 true (.n 3 true (.z) (.e)) (.e)))) [1] [3] (by kernel_rfl) ?_)
    ((conv=>whnf);(repeat(refine And.intro ?_ ?_;(focus((first|omega|exact⟨rfl,True.intro⟩|exact⟨rfl,rfl,True.intro⟩|rfl|(simp only[List.length_set];first|omega|(refine⟨?_,?_⟩<;>omega)|(refine⟨?_,?_,?_⟩<;>omega))|(intro hg;(try simp only[bB]at hg);first|omega|(refine⟨?_,?_⟩<;>omega)|(refine⟨?_,?_,?_⟩<;>first|omega|(show _<_;(try simp only[List.length_set]);omega)|exact leT rfl))|(refine⟨?_,?_⟩<;>omega)|(refine⟨?_,?_,?_⟩<;>first|omega|(show _<_;(try simp only[List.length_set]);omega)|exact leT rfl)|(simp only[show rI.d=(0:Int)from rfl];omega));done));(conv=>whnf))))
    intro ρ2
    ((conv=>whnf);repeat(refine And.intro (by omega) ?_;(conv=>whnf)))
    refine EvIf.neg (by simpa using g1) ?_
    ((conv=>whnf);repeat(refine And.intro (by omega) ?_;(conv=>whnf)))
    exact EvRet.two (n := 5) (m := 6) (fun ρ => by simp [den, denL, envEV, envV, g1]) rfl rfl q1 q3 rfl rfl (by decide)
theorem envlen_s (f : Int) (A B : Option Addr) (n1 n2 c1 c2 : Nat) (w : World) : Con Try.prog 60 #[envV f (.slice A n1 c1) (.slice B n2 c2)] w (Ret w (.int .i64 (min (n1 : Int) (n2 : Int)))) := by
  refine enter tabOk mixed Try.func60 rfl Try.ntmps60 Try.results60 [.a [.v (.int .i64 f), .v (.slice A n1 c1), .v (.slice B n2 c2)]] (fun _ => none) [] 0 rfl rfl (hp0 _ _ _) ?_
  ((conv=>whnf);repeat(refine And.intro (by omega) ?_;(conv=>whnf)))
  exact EvRet.ret (fun _ => rfl)
end Go.Proofs.Ytpnngbfmmjjnaaa
