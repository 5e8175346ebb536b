
/- Claims: Compare and Sort. -/
import Derived.Test.YtpnngbfmmjjnaaaClC
import Derived.Test.YtpnngbfmmjjnaaaSyE
namespace Go.Proofs.Ytpnngbfmmjjnaaa
open Go.RowKit
set_option linter.unusedVariables false
set_option linter.unusedSimpArgs false

def cmpI (a b : Int) : Int := if a < b then -1 else if b < a then 1 else 0
def cmpC (x y : Cl) : Int := if x.f < y.f then -1 else if y.f < x.f then 1 else if x.t < y.t then -1 else if y.t < x.t then 1 else if x.lo < y.lo then -1 else if y.lo < x.lo then 1 else if x.hi < y.hi then -1 else if y.hi < x.hi then 1 else 0
theorem cmpI_0 {a b : Int} (h : cmpI a b = 0) : a = b := by unfold cmpI at h; (repeat' split at h) <;> omega
theorem isnan_s (a : Int) (w : World) : Con Try.prog 109 #[.int .i64 a] w (Ret w (.bool false)) := by
  refine enter tabOk mixed Try.func109 rfl Try.ntmps109 Try.results109 [.v (.int .i64 a)] (fun _ => none) [] 0 rfl rfl (hp0 _ _ _) ?_
  ((conv=>whnf);repeat(refine And.intro (by omega) ?_;(conv=>whnf)))
  exact EvRet.ret (fun _ => by simp [den])
theorem cmpint_s (a b : Int) (w : World) : Con Try.prog 90 #[.int .i64 a, .int .i64 b] w (Ret w (.int .i64 (cmpI a b))) := by
  refine enter tabOk mixed Try.func90 rfl Try.ntmps90 Try.results90 [.v (.int .i64 a), .v (.int .i64 b)] (fun _ => none) [] 0 rfl rfl (hp0 _ _ _) ?_
  ((conv=>whnf);repeat(refine And.intro (by omega) ?_;(conv=>whnf)))
  refine EvCall.plain Try.call109 (.v (.bool false)) rfl (fun ρ W hp => isnan_s _ W) ?_
  ((conv=>whnf);repeat(refine And.intro (by omega) ?_;(conv=>whnf)))
  refine EvCall.plain Try.call109 (.v (.bool false)) rfl (fun ρ W hp => isnan_s _ W) ?_
  ((conv=>whnf);repeat(refine And.intro (by omega) ?_;(conv=>whnf)))
  refine EvIf.neg rfl ?_
  ((conv=>whnf);repeat(refine And.intro (by omega) ?_;(conv=>whnf)))
  refine EvIf.neg rfl ?_
  ((conv=>whnf);repeat(refine And.intro (by omega) ?_;(conv=>whnf)))
  refine EvIf.split (fun h1 => ?_) (fun h1 => ?_)
  · simp only [decide_eq_true_eq] at h1
    ((conv=>whnf);repeat(refine And.intro (by omega) ?_;(conv=>whnf)))
    exact ret_code (by unfold cmpI; rw [if_pos h1])
  simp only [decide_eq_false_iff_not] at h1
  ((conv=>whnf);repeat(refine And.intro (by omega) ?_;(conv=>whnf)))
  refine EvIf.split (fun h2 => ?_) (fun h2 => ?_)
  · simp only [decide_eq_true_eq] at h2
    ((conv=>whnf);repeat(refine And.intro (by omega) ?_;(conv=>whnf)))
    exact ret_code (by unfold cmpI; rw [if_neg h1, if_pos h2])
  simp only [decide_eq_false_iff_not] at h2
  ((conv=>whnf);repeat(refine And.intro (by omega) ?_;(conv=>whnf)))
  exact ret_code (by unfold cmpI; rw [if_neg h1, if_neg h2])
theorem key1_s (B : Addr) (x : Cl) (w : World) (h : PtrIn w (.pointer (some B)) (denL (fun _ => some B) (clS x))) : Con Try.prog 86 #[.pointer (some B)] w (Ret w (.int .i64 x.f)) := by
  refine enter tabOk mixed Try.func86 rfl Try.ntmps86 Try.results86 [.p 0 0] (fun _ => some B) [⟨0, false, 62, 4, 1, .cs (clS x)⟩] 1 rfl rfl (.ro (hp0 _ _ _) _ rfl rfl rfl (ro_ptr h rfl)) ?_
  ((conv=>whnf);repeat(refine And.intro (by omega) ?_;(conv=>whnf)))
  exact EvRet.ret (fun _ => rfl)
theorem key2_s (B : Addr) (x : Cl) (w : World) (h : PtrIn w (.pointer (some B)) (denL (fun _ => some B) (clS x))) : Con Try.prog 87 #[.pointer (some B)] w (Ret w (.int .i64 x.t)) := by
  refine enter tabOk mixed Try.func87 rfl Try.ntmps87 Try.results87 [.p 0 0] (fun _ => some B) [⟨0, false, 62, 4, 1, .cs (clS x)⟩] 1 rfl rfl (.ro (hp0 _ _ _) _ rfl rfl rfl (ro_ptr h rfl)) ?_
  ((conv=>whnf);repeat(refine And.intro (by omega) ?_;(conv=>whnf)))
  exact EvRet.ret (fun _ => rfl)
theorem key3_s (B : Addr) (x : Cl) (w : World) (h : PtrIn w (.pointer (some B)) (denL (fun _ => some B) (clS x))) : Con Try.prog 88 #[.pointer (some B)] w (Ret w (.int .i64 x.lo)) := by
  refine enter tabOk mixed Try.func88 rfl Try.ntmps88 Try.results88 [.p 0 0] (fun _ => some B) [⟨0, false, 62, 4, 1, .cs (clS x)⟩] 1 rfl rfl (.ro (hp0 _ _ _) _ rfl rfl rfl (ro_ptr h rfl)) ?_
  ((conv=>whnf);repeat(refine And.intro (by omega) ?_;(conv=>whnf)))
  exact EvRet.ret (fun _ => rfl)
theorem key4_s (B : Addr) (x : Cl) (w : World) (h : PtrIn w (.pointer (some B)) (denL (fun _ => some B) (clS x))) : Con Try.prog 89 #[.pointer (some B)] w (Ret w (.int .i64 x.hi)) := by
  refine enter tabOk mixed Try.func89 rfl Try.ntmps89 Try.results89 [.p 0 0] (fun _ => some B) [⟨0, false, 62, 4, 1, .cs (clS x)⟩] 1 rfl rfl (.ro (hp0 _ _ _) _ rfl rfl rfl (ro_ptr h rfl)) ?_
  ((conv=>whnf);repeat(refine And.intro (by omega) ?_;(conv=>whnf)))
  exact EvRet.ret (fun _ => rfl)
set_option maxRecDepth 10000 in
theorem compare_s (x y : Cl) (w : World) : Con Try.prog 71 #[.agg (clA x), .agg (clA y)] w (Ret w (.int .i64 (cmpC x y))) := by
  refine enter tabOk mixed Try.func71 rfl Try.ntmps71 Try.results71 [.a (clS x), .a (clS y)] (fun _ => none) [] 0 rfl rfl (hp0 _ _ _) ?_
  ((conv=>whnf);repeat(refine And.intro (by omega) ?_;(conv=>whnf)))
  refine EvLoop.rounds 5 ?_
  ((conv=>whnf);repeat(refine And.intro (by omega) ?_;(conv=>whnf)))
  refine EvIf.pos rfl ?_
  ((conv=>whnf);repeat(refine And.intro (by omega) ?_;(conv=>whnf)))
  (refine EvDraw.one (.q 0 (.q 1 (.q 3 (.q 4 (.n 2 false (.n 5 true (.n 6 true (.q 7 (.z)) (.e)) (.e)) (.e)))))) (by kernel_rfl) ?_)
  ((conv=>whnf);repeat(refine And.intro (by omega) ?_;(conv=>whnf)))
  refine EvCall.plain Try.call86 (.v (.int .i64 x.f)) rfl (fun ρ W hp => key1_s _ x W (hp.ptr (n := 0) rfl (by simp [clS]))) ?_
  ((conv=>whnf);repeat(refine And.intro (by omega) ?_;(conv=>whnf)))
  refine EvCall.plain Try.call86 (.v (.int .i64 y.f)) rfl (fun ρ W hp => key1_s _ y W (hp.ptr (n := 1) rfl (by simp [clS]))) ?_
  ((conv=>whnf);repeat(refine And.intro (by omega) ?_;(conv=>whnf)))
  refine EvCall.plain Try.call90 (.v (.int .i64 (cmpI x.f y.f))) rfl (fun ρ W hp => cmpint_s _ _ W) ?_
  ((conv=>whnf);repeat(refine And.intro (by omega) ?_;(conv=>whnf)))
  refine EvIf.split (fun h1 => ?_) (fun h1 => ?_)
  · simp only [Bool.not_eq_true', decide_eq_false_iff_not] at h1
    ((conv=>whnf);repeat(refine And.intro (by omega) ?_;(conv=>whnf)))
    exact ret_code (by unfold cmpC; unfold cmpI at *; (repeat' split) <;> omega)
  simp only [Bool.not_eq_false', decide_eq_true_eq] at h1
  have h1 := cmpI_0 h1
  ((conv=>whnf);repeat(refine And.intro (by omega) ?_;(conv=>whnf)))
  refine EvIf.pos rfl ?_
  ((conv=>whnf);repeat(refine And.intro (by omega) ?_;(conv=>whnf)))
  (refine EvDraw.one (.q 0 (.q 1 (.q 3 (.q 4 (.n 2 false (.n 5 true (.n 6 true (.q 7 (.z)) (.e)) (.e)) (.e)))))) (by kernel_rfl) ?_)
  ((conv=>whnf);repeat(refine And.intro (by omega) ?_;(conv=>whnf)))
  refine EvCall.plain Try.call87 (.v (.int .i64 x.t)) rfl (fun ρ W hp => key2_s _ x W (hp.ptr (n := 0) rfl (by simp [clS]))) ?_
  ((conv=>whnf);repeat(refine And.intro (by omega) ?_;(conv=>whnf)))
  refine EvCall.plain Try.call87 (.v (.int .i64 y.t)) rfl (fun ρ W hp => key2_s _ y W (hp.ptr (n := 1) rfl (by simp [clS]))) ?_
  ((conv=>whnf);repeat(refine And.intro (by omega) ?_;(conv=>whnf)))
  refine EvCall.plain Try.call90 (.v (.int .i64 (cmpI x.t y.t))) rfl (fun ρ W hp => cmpint_s _ _ W) ?_
  ((conv=>whnf);repeat(refine And.intro (by omega) ?_;(conv=>whnf)))
  refine EvIf.split (fun h2 => ?_) (fun h2 => ?_)
  · simp only [Bool.not_eq_true', decide_eq_false_iff_not] at h2
    ((conv=>whnf);repeat(refine And.intro (by omega) ?_;(conv=>whnf)))
    exact ret_code (by unfold cmpC; unfold cmpI at *; (repeat' split) <;> omega)
  simp only [Bool.not_eq_false', decide_eq_true_eq] at h2
  have h2 := cmpI_0 h2
  ((conv=>whnf);repeat(refine And.intro (by omega) ?_;(conv=>whnf)))
  refine EvIf.pos rfl ?_
  ((conv=>whnf);repeat(refine And.intro (by omega) ?_;(conv=>whnf)))
  (refine EvDraw.one (.q 0 (.q 1 (.q 3 (.q 4 (.n 2 false (.n 5 true (.n 6 true (.q 7 (.z)) (.e)) (.e)) (.e)))))) (by kernel_rfl) ?_)
  ((conv=>whnf);repeat(refine And.intro (by omega) ?_;(conv=>whnf)))
  refine EvCall.plain Try.call88 (.v (.int .i64 x.lo)) rfl (fun ρ W hp => key3_s _ x W (hp.ptr (n := 0) rfl (by simp [clS]))) ?_
  ((conv=>whnf);repeat(refine And.intro (by omega) ?_;(conv=>whnf)))
  refine EvCall.plain Try.call88 (.v (.int .i64 y.lo)) rfl (fun ρ W hp => key3_s _ y W (hp.ptr (n := 1) rfl (by simp [clS]))) ?_
  ((conv=>whnf);repeat(refine And.intro (by omega) ?_;(conv=>whnf)))
  refine EvCall.plain Try.call90 (.v (.int .i64 (cmpI x.lo y.lo))) rfl (fun ρ W hp => cmpint_s _ _ W) ?_
  ((conv=>whnf);repeat(refine And.intro (by omega) ?_;(conv=>whnf)))
  refine EvIf.split (fun h3 => ?_) (fun h3 => ?_)
  · simp only [Bool.not_eq_true', decide_eq_false_iff_not] at h3
    ((conv=>whnf);repeat(refine And.intro (by omega) ?_;(conv=>whnf)))
    exact ret_code (by unfold cmpC; unfold cmpI at *; (repeat' split) <;> omega)
  simp only [Bool.not_eq_false', decide_eq_true_eq] at h3
  have h3 := cmpI_0 h3
  ((conv=>whnf);repeat(refine And.intro (by omega) ?_;(conv=>whnf)))
  refine EvIf.pos rfl ?_
  ((conv=>whnf);repeat(refine And.intro (by omega) ?_;(conv=>whnf)))
  (refine EvDraw.one (.q 0 (.q 1 (.q 3 (.q 4 (.n 2 false (.n 5 true (.n 6 true (.q 7 (.z)) (.e)) (.e)) (.e)))))) (by kernel_rfl) ?_)
  ((conv=>whnf);repeat(refine And.intro (by omega) ?_;(conv=>whnf)))
  refine EvCall.plain Try.call89 (.v (.int .i64 x.hi)) rfl (fun ρ W hp => key4_s _ x W (hp.ptr (n := 0) rfl (by simp [clS]))) ?_
  ((conv=>whnf);repeat(refine And.intro (by omega) ?_;(conv=>whnf)))
  refine EvCall.plain Try.call89 (.v (.int .i64 y.hi)) rfl (fun ρ W hp => key4_s _ y W (hp.ptr (n := 1) rfl (by simp [clS]))) ?_
  ((conv=>whnf);repeat(refine And.intro (by omega) ?_;(conv=>whnf)))
  refine EvCall.plain Try.call90 (.v (.int .i64 (cmpI x.hi y.hi))) rfl (fun ρ W hp => cmpint_s _ _ W) ?_
  ((conv=>whnf);repeat(refine And.intro (by omega) ?_;(conv=>whnf)))
  refine EvIf.split (fun h4 => ?_) (fun h4 => ?_)
  · simp only [Bool.not_eq_true', decide_eq_false_iff_not] at h4
    ((conv=>whnf);repeat(refine And.intro (by omega) ?_;(conv=>whnf)))
    exact ret_code (by unfold cmpC; unfold cmpI at *; (repeat' split) <;> omega)
  simp only [Bool.not_eq_false', decide_eq_true_eq] at h4
  have h4 := cmpI_0 h4
  ((conv=>whnf);repeat(refine And.intro (by omega) ?_;(conv=>whnf)))
  refine EvIf.neg rfl ?_
  ((conv=>whnf);repeat(refine And.intro (by omega) ?_;(conv=>whnf)))
  exact ret_code (by unfold cmpC; (repeat' split) <;> omega)
end Go.Proofs.Ytpnngbfmmjjnaaa
