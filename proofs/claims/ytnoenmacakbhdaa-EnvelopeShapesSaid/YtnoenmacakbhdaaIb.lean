
/- The law EnvelopeShapes, walked. -/
import Derived.Test.YtnoenmacakbhdaaIa
import Derived.Test.YtnoenmacakbhdaaEr
import Derived.Test.YtnoenmacakbhdaaEi
import Derived.Test.YtnoenmacakbhdaaHy
namespace Go.Proofs.Ytnoenmacakbhdaa
open Go.RowKit
set_option linter.unusedVariables false
set_option linter.unusedSimpArgs false

set_option maxRecDepth 10000 in
theorem raw_s (f : Int) (v1 v2 : Value) (xs ys : List Int) (w : World) (h1 : RowsIn rI w v1 xs) (h2 : RowsIn rI w v2 ys) :
    Con Try.prog 28 #[.int .i64 f, v1, v2] w (Ret2 3 w (xs.take 12) (ys.take 12) (envV f)) := by
  obtain ⟨A1, c1, rfl, e1, e2⟩ := h1.form
  obtain ⟨A2, c2, rfl, e3, e4⟩ := h2.form
  refine enter tabOk mixed Try.func28 rfl Try.ntmps28 Try.results28 [.v (.int .i64 f), .s 0 1 xs.length c1, .s 1 1 ys.length c2] (fun n => if n = 0 then A1 else A2) [⟨1, false, 3, 1, c2, .rows Int rI (ys)⟩, ⟨0, false, 3, 1, c1, .rows Int rI (xs)⟩] 2 rfl rfl (.ro (.ro (hp0 _ _ _) _ rfl rfl rfl (ro_rows h1 rfl _)) _ rfl rfl rfl (ro_rows h2 rfl _)) ?_
  ((conv=>whnf);(repeat(refine And.intro ?_ ?_;(focus((first|omega|exact⟨rfl,True.intro⟩|exact⟨rfl,rfl,True.intro⟩|rfl|(simp only[List.length_set];first|omega|(refine⟨?_,?_⟩<;>omega)|(refine⟨?_,?_,?_⟩<;>omega))|(intro hg;(try simp only[bB]at hg);first|omega|(refine⟨?_,?_⟩<;>omega)|(refine⟨?_,?_,?_⟩<;>first|omega|(show _<_;(try simp only[List.length_set]);omega)|exact leT rfl))|(refine⟨?_,?_⟩<;>omega)|(refine⟨?_,?_,?_⟩<;>first|omega|(show _<_;(try simp only[List.length_set]);omega)|exact leT rfl)|(simp only[show rI.d=(0:Int)from rfl];omega));done));(conv=>whnf))))
  refine EvCall.rows (R := rI) (ty := 3) (xs := xs.take 12) Try.call52 (fun ρ W hp => ints_s _ xs 12 W (hp.rowsIn (R := rI) (n := 0) (c := c1) rfl (by decide) e1 e2 1) (by omega)) (fun kx x1 x2 => ?_)
  ((conv=>whnf);(repeat(refine And.intro ?_ ?_;(focus((first|omega|exact⟨rfl,True.intro⟩|exact⟨rfl,rfl,True.intro⟩|rfl|(simp only[List.length_set];first|omega|(refine⟨?_,?_⟩<;>omega)|(refine⟨?_,?_,?_⟩<;>omega))|(intro hg;(try simp only[bB]at hg);first|omega|(refine⟨?_,?_⟩<;>omega)|(refine⟨?_,?_,?_⟩<;>first|omega|(show _<_;(try simp only[List.length_set]);omega)|exact leT rfl))|(refine⟨?_,?_⟩<;>omega)|(refine⟨?_,?_,?_⟩<;>first|omega|(show _<_;(try simp only[List.length_set]);omega)|exact leT rfl)|(simp only[show rI.d=(0:Int)from rfl];omega));done));(conv=>whnf))))
  refine EvCall.rows (R := rI) (ty := 3) (xs := ys.take 12) Try.call52 (fun ρ W hp => ints_s _ ys 12 W (hp.rowsIn (R := rI) (n := 1) (c := c2) rfl (by decide) e3 e4 1) (by omega)) (fun ky y1 y2 => ?_)
  ((conv=>whnf);(repeat(refine And.intro ?_ ?_;(focus((first|omega|exact⟨rfl,True.intro⟩|exact⟨rfl,rfl,True.intro⟩|rfl|(simp only[List.length_set];first|omega|(refine⟨?_,?_⟩<;>omega)|(refine⟨?_,?_,?_⟩<;>omega))|(intro hg;(try simp only[bB]at hg);first|omega|(refine⟨?_,?_⟩<;>omega)|(refine⟨?_,?_,?_⟩<;>first|omega|(show _<_;(try simp only[List.length_set]);omega)|exact leT rfl))|(refine⟨?_,?_⟩<;>omega)|(refine⟨?_,?_,?_⟩<;>first|omega|(show _<_;(try simp only[List.length_set]);omega)|exact leT rfl)|(simp only[show rI.d=(0:Int)from rfl];omega));done));(conv=>whnf))))
  exact EvRet.two (n := 3) (m := 4) (fun ρ => by simp [den, denL, envV]) rfl rfl x1 y1 rfl rfl (by decide)
def wiB (P Q : Env12) (i : Nat) : Bool := alikeB P Q && (List.range i).all fun j => decide (Q.lo.getD j 0 ≤ P.lo.getD j 0) && decide (P.hi.getD j 0 ≤ Q.hi.getD j 0)
theorem wiB_succ (P Q : Env12) (i : Nat) : wiB P Q (i + 1) = (wiB P Q i && decide (Q.lo.getD i 0 ≤ P.lo.getD i 0) && decide (P.hi.getD i 0 ≤ Q.hi.getD i 0)) := by
  simp [wiB, List.range_succ, Bool.and_assoc]
theorem within_self (P : Env12) : withinB P P = decide (P.lo.length = P.hi.length) := by
  by_cases h : P.lo.length = P.hi.length
  · rw [decide_eq_true h]
    simp [withinB, alikeB, h]
  · rw [decide_eq_false h]
    cases hh : withinB P P with
    | false => rfl
    | true =>
      simp only [withinB, alikeB, Bool.and_eq_true, decide_eq_true_eq] at hh
      omega
set_option maxHeartbeats 1000000 in
set_option maxRecDepth 20000 in
theorem envelopeshapes_s (first other t : Int) (v1 v2 v3 : Value) (us vs zs : List Int) (w : World) (h1 : Ints w v1 us) (h2 : Ints w v2 vs) (h3 : Ints w v3 zs) (hf : I64 first) (ho : I64 other) (ht : I64 t) :
    Con Try.prog 5 #[.int .i64 first, v1, v2, v3, .int .i64 other, .int .i64 t] w (Ret w (.bool true)) := by
  obtain ⟨A1, c1, rfl, e1, e2⟩ := h1.form
  obtain ⟨A2, c2, rfl, e3, e4⟩ := h2.form
  obtain ⟨A3, c3, rfl, e5, e6⟩ := h3.form
  refine enter tabOkW mixed Try.func5 rfl Try.ntmps5 Try.results5 [.v (.int .i64 first), .s 0 1 us.length c1, .s 1 1 vs.length c2, .s 2 1 zs.length c3, .v (.int .i64 other), .v (.int .i64 t)] (fun n => if n = 0 then A1 else if n = 1 then A2 else A3) [⟨2, false, 3, 1, c3, .rows Int rI (zs)⟩, ⟨1, false, 3, 1, c2, .rows Int rI (vs)⟩, ⟨0, false, 3, 1, c1, .rows Int rI (us)⟩] 3 rfl rfl (.ro (.ro (.ro (hp0 _ _ _) _ rfl rfl rfl (ro_ints h1 rfl _)) _ rfl rfl rfl (ro_ints h2 rfl _)) _ rfl rfl rfl (ro_ints h3 rfl _)) ?_
  have b0 := bnd_in first 100 (by omega)
  have b1 := bnd_in other 100 (by omega)
  ((conv=>whnf);(repeat(refine And.intro ?_ ?_;(focus((first|omega|exact⟨rfl,True.intro⟩|exact⟨rfl,rfl,True.intro⟩|rfl|(simp only[List.length_set];first|omega|(refine⟨?_,?_⟩<;>omega)|(refine⟨?_,?_,?_⟩<;>omega))|(intro hg;(try simp only[bB]at hg);first|omega|(refine⟨?_,?_⟩<;>omega)|(refine⟨?_,?_,?_⟩<;>first|omega|(show _<_;(try simp only[List.length_set]);omega)|exact leT rfl))|(refine⟨?_,?_⟩<;>omega)|(refine⟨?_,?_,?_⟩<;>first|omega|(show _<_;(try simp only[List.length_set]);omega)|exact leT rfl)|(simp only[show rI.d=(0:Int)from rfl];omega));done));(conv=>whnf))))
  refine EvCall.plain Try.call29 (.v (.int .i64 (bnd first 100))) rfl (fun ρ W hp => bound_s _ _ _ hf (by omega) (by omega)) ?_
  generalize bnd first 100 = f0 at b0 ⊢
  ((conv=>whnf);(repeat(refine And.intro ?_ ?_;(focus((first|omega|exact⟨rfl,True.intro⟩|exact⟨rfl,rfl,True.intro⟩|rfl|(simp only[List.length_set];first|omega|(refine⟨?_,?_⟩<;>omega)|(refine⟨?_,?_,?_⟩<;>omega))|(intro hg;(try simp only[bB]at hg);first|omega|(refine⟨?_,?_⟩<;>omega)|(refine⟨?_,?_,?_⟩<;>first|omega|(show _<_;(try simp only[List.length_set]);omega)|exact leT rfl))|(refine⟨?_,?_⟩<;>omega)|(refine⟨?_,?_,?_⟩<;>first|omega|(show _<_;(try simp only[List.length_set]);omega)|exact leT rfl)|(simp only[show rI.d=(0:Int)from rfl];omega));done));(conv=>whnf))))
  refine EvCall.two (ty := 3) (xs := us.take 12) (ys := vs.take 12) (envS f0) (envS_den f0) (envS_lt f0) Try.call28 (fun ρ W hp => raw_s f0 _ _ us vs W (hp.rowsIn (R := rI) (n := 0) (c := c1) rfl (by decide) e1 e2 1) (hp.rowsIn (R := rI) (n := 1) (c := c2) rfl (by decide) e3 e4 1)) (fun k1 k2 x1 x2 x3 x4 => ?_)
  ((conv=>whnf);(repeat(refine And.intro ?_ ?_;(focus((first|omega|exact⟨rfl,True.intro⟩|exact⟨rfl,rfl,True.intro⟩|rfl|(simp only[List.length_set];first|omega|(refine⟨?_,?_⟩<;>omega)|(refine⟨?_,?_,?_⟩<;>omega))|(intro hg;(try simp only[bB]at hg);first|omega|(refine⟨?_,?_⟩<;>omega)|(refine⟨?_,?_,?_⟩<;>first|omega|(show _<_;(try simp only[List.length_set]);omega)|exact leT rfl))|(refine⟨?_,?_⟩<;>omega)|(refine⟨?_,?_,?_⟩<;>first|omega|(show _<_;(try simp only[List.length_set]);omega)|exact leT rfl)|(simp only[show rI.d=(0:Int)from rfl];omega));done));(conv=>whnf))))
  refine EvCall.plain Try.call29 (.v (.int .i64 (bnd other 100))) rfl (fun ρ W hp => bound_s _ _ _ ho (by omega) (by omega)) ?_
  generalize bnd other 100 = g0 at b1 ⊢
  ((conv=>whnf);(repeat(refine And.intro ?_ ?_;(focus((first|omega|exact⟨rfl,True.intro⟩|exact⟨rfl,rfl,True.intro⟩|rfl|(simp only[List.length_set];first|omega|(refine⟨?_,?_⟩<;>omega)|(refine⟨?_,?_,?_⟩<;>omega))|(intro hg;(try simp only[bB]at hg);first|omega|(refine⟨?_,?_⟩<;>omega)|(refine⟨?_,?_,?_⟩<;>first|omega|(show _<_;(try simp only[List.length_set]);omega)|exact leT rfl))|(refine⟨?_,?_⟩<;>omega)|(refine⟨?_,?_,?_⟩<;>first|omega|(show _<_;(try simp only[List.length_set]);omega)|exact leT rfl)|(simp only[show rI.d=(0:Int)from rfl];omega));done));(conv=>whnf))))
  refine EvCall.two (ty := 3) (xs := vs.take 12) (ys := zs.take 12) (envS g0) (envS_den g0) (envS_lt g0) Try.call28 (fun ρ W hp => raw_s g0 _ _ vs zs W (hp.rowsIn (R := rI) (n := 1) (c := c2) rfl (by decide) e3 e4 1) (hp.rowsIn (R := rI) (n := 2) (c := c3) rfl (by decide) e5 e6 1)) (fun k3 k4 y1 y2 y3 y4 => ?_)
  have hxl : (us.take 12).length ≤ 12 := by simp; omega
  have hyl : (vs.take 12).length ≤ 12 := by simp; omega
  have hzl : (zs.take 12).length ≤ 12 := by simp; omega
  generalize us.take 12 = xs at *
  generalize vs.take 12 = ys at *
  generalize zs.take 12 = ws at *
  ((conv=>whnf);(repeat(refine And.intro ?_ ?_;(focus((first|omega|exact⟨rfl,True.intro⟩|exact⟨rfl,rfl,True.intro⟩|rfl|(simp only[List.length_set];first|omega|(refine⟨?_,?_⟩<;>omega)|(refine⟨?_,?_,?_⟩<;>omega))|(intro hg;(try simp only[bB]at hg);first|omega|(refine⟨?_,?_⟩<;>omega)|(refine⟨?_,?_,?_⟩<;>first|omega|(show _<_;(try simp only[List.length_set]);omega)|exact leT rfl))|(refine⟨?_,?_⟩<;>omega)|(refine⟨?_,?_,?_⟩<;>first|omega|(show _<_;(try simp only[List.length_set]);omega)|exact leT rfl)|(simp only[show rI.d=(0:Int)from rfl];omega));done));(conv=>whnf))))
  refine EvCall.plain Try.call19 (.v (.int .i64 (arnd t 3))) rfl (fun ρ W hp => around_s _ _ W ht (by omega) (by omega)) ?_
  ((conv=>whnf);(repeat(refine And.intro ?_ ?_;(focus((first|omega|exact⟨rfl,True.intro⟩|exact⟨rfl,rfl,True.intro⟩|rfl|(simp only[List.length_set];first|omega|(refine⟨?_,?_⟩<;>omega)|(refine⟨?_,?_,?_⟩<;>omega))|(intro hg;(try simp only[bB]at hg);first|omega|(refine⟨?_,?_⟩<;>omega)|(refine⟨?_,?_,?_⟩<;>first|omega|(show _<_;(try simp only[List.length_set]);omega)|exact leT rfl))|(refine⟨?_,?_⟩<;>omega)|(refine⟨?_,?_,?_⟩<;>first|omega|(show _<_;(try simp only[List.length_set]);omega)|exact leT rfl)|(simp only[show rI.d=(0:Int)from rfl];omega));done));(conv=>whnf))))
  refine EvIf.meet (α := Int) (fun yf => -100 ≤ yf ∧ yf ≤ 100) (fun yf => [(13, [], .p 5 0), (14, [], .p 8 0)]) (fun yf => [⟨8, true, 40, 3, 1, .cs [.v (.int .i64 yf), .s 6 1 ys.length k3, .s 7 1 ws.length k4]⟩, ⟨7, true, 3, 1, k4, .rows Int rI ws⟩, ⟨6, true, 3, 1, k3, .rows Int rI ys⟩, ⟨5, true, 40, 3, 1, .cs [.v (.int .i64 f0), .s 3 1 xs.length k1, .s 4 1 ys.length k2]⟩, ⟨4, true, 3, 1, k2, .rows Int rI ys⟩, ⟨3, true, 3, 1, k1, .rows Int rI xs⟩]) 9 (fun g => ?_) (fun g => ?_) ?_
  · ((conv=>whnf);(repeat(refine And.intro ?_ ?_;(focus((first|omega|exact⟨rfl,True.intro⟩|exact⟨rfl,rfl,True.intro⟩|rfl|(simp only[List.length_set];first|omega|(refine⟨?_,?_⟩<;>omega)|(refine⟨?_,?_,?_⟩<;>omega))|(intro hg;(try simp only[bB]at hg);first|omega|(refine⟨?_,?_⟩<;>omega)|(refine⟨?_,?_,?_⟩<;>first|omega|(show _<_;(try simp only[List.length_set]);omega)|exact leT rfl))|(refine⟨?_,?_⟩<;>omega)|(refine⟨?_,?_,?_⟩<;>first|omega|(show _<_;(try simp only[List.length_set]);omega)|exact leT rfl)|(simp only[show rI.d=(0:Int)from rfl];omega));done));(conv=>whnf))))
    refine Exists.intro f0 (And.intro (by omega) (Sub.of [] [] rfl ?_))
    ((repeat' (refine And.intro ?_ ?_)) <;> first | rfl | exact True.intro | omega)
  · ((conv=>whnf);(repeat(refine And.intro ?_ ?_;(focus((first|omega|exact⟨rfl,True.intro⟩|exact⟨rfl,rfl,True.intro⟩|rfl|(simp only[List.length_set];first|omega|(refine⟨?_,?_⟩<;>omega)|(refine⟨?_,?_,?_⟩<;>omega))|(intro hg;(try simp only[bB]at hg);first|omega|(refine⟨?_,?_⟩<;>omega)|(refine⟨?_,?_,?_⟩<;>first|omega|(show _<_;(try simp only[List.length_set]);omega)|exact leT rfl))|(refine⟨?_,?_⟩<;>omega)|(refine⟨?_,?_,?_⟩<;>first|omega|(show _<_;(try simp only[List.length_set]);omega)|exact leT rfl)|(simp only[show rI.d=(0:Int)from rfl];omega));done));(conv=>whnf))))
    refine Exists.intro g0 (And.intro (by omega) (Sub.of [] [] rfl ?_))
    ((repeat' (refine And.intro ?_ ?_)) <;> first | rfl | exact True.intro | omega)
  intro yf hyf
  obtain ⟨P, hP⟩ : ∃ P : Env12, P = ⟨f0, xs, ys⟩ := ⟨_, rfl⟩
  obtain ⟨Q, hQ⟩ : ∃ Q : Env12, Q = ⟨yf, ys, ws⟩ := ⟨_, rfl⟩
  have hev : (decide (f0 = yf) && decide ((ys.length : Int) = (xs.length : Int)) && decide ((ys.length : Int) = (xs.length : Int)) && decide ((ws.length : Int) = (xs.length : Int))) = alikeB P Q := by
    rw [hP, hQ]
    simp only [alikeB, Int.natCast_inj]
  have hal : alikeB P Q = true → f0 = yf ∧ ys.length = xs.length ∧ ws.length = xs.length := fun h => by
    rw [hP, hQ] at h
    simp only [alikeB, Bool.and_eq_true, decide_eq_true_eq] at h
    exact ⟨h.1.1.1, h.1.1.2, h.2⟩
  ((conv=>whnf);(repeat(refine And.intro ?_ ?_;(focus((first|omega|exact⟨rfl,True.intro⟩|exact⟨rfl,rfl,True.intro⟩|rfl|(simp only[List.length_set];first|omega|(refine⟨?_,?_⟩<;>omega)|(refine⟨?_,?_,?_⟩<;>omega))|(intro hg;(try simp only[bB]at hg);first|omega|(refine⟨?_,?_⟩<;>omega)|(refine⟨?_,?_,?_⟩<;>first|omega|(show _<_;(try simp only[List.length_set]);omega)|exact leT rfl))|(refine⟨?_,?_⟩<;>omega)|(refine⟨?_,?_,?_⟩<;>first|omega|(show _<_;(try simp only[List.length_set]);omega)|exact leT rfl)|(simp only[show rI.d=(0:Int)from rfl];omega));done));(conv=>whnf))))
  refine EvLoop.inv (α := Nat) (fun i => i ≤ xs.length ∧ (alikeB P Q = false → i = 0)) (fun i => xs.length - i) (fun i => [(21, [], .v (.int .i64 ((i : Int)))), (17, [], .v (.int .i64 ((xs.length : Int)))), (18, [], .v (.bool (alikeB P Q))), (19, [], .v (.bool (wiB P Q i))), (20, [], .v (.int .i64 (grM (grW P Q) i))), (13, [], .p 5 0), (14, [], .p 8 0), (15, [], .p 9 0), (16, [], .p 10 0)])
    (fun i => [⟨10, true, 32, 3, 1, .cs [.v (.int .i64 yf), .s 6 1 ys.length k3, .s 7 1 ws.length k4]⟩, ⟨9, true, 32, 3, 1, .cs [.v (.int .i64 f0), .s 3 1 xs.length k1, .s 4 1 ys.length k2]⟩, ⟨8, true, 40, 3, 1, .cs [.v (.int .i64 yf), .s 6 1 ys.length k3, .s 7 1 ws.length k4]⟩, ⟨7, true, 3, 1, k4, .rows Int rI ws⟩, ⟨6, true, 3, 1, k3, .rows Int rI ys⟩, ⟨5, true, 40, 3, 1, .cs [.v (.int .i64 f0), .s 3 1 xs.length k1, .s 4 1 ys.length k2]⟩, ⟨4, true, 3, 1, k2, .rows Int rI ys⟩, ⟨3, true, 3, 1, k1, .rows Int rI xs⟩]) 11 0 ⟨by omega, fun _ => rfl⟩ (Sub.of [] [] rfl ?_) ?_
  · have hw0 : wiB P Q 0 = alikeB P Q := by simp [wiB]
    (repeat' (refine And.intro ?_ ?_)) <;> first | rfl | exact True.intro | exact hev | exact hev.symm | exact hw0.trans hev.symm | exact (hw0.trans hev.symm).symm | omega
  intro i ⟨hi, hi0⟩
  ((conv=>whnf);(repeat(refine And.intro ?_ ?_;(focus((first|omega|exact⟨rfl,True.intro⟩|exact⟨rfl,rfl,True.intro⟩|rfl|(simp only[List.length_set];first|omega|(refine⟨?_,?_⟩<;>omega)|(refine⟨?_,?_,?_⟩<;>omega))|(intro hg;(try simp only[bB]at hg);first|omega|(refine⟨?_,?_⟩<;>omega)|(refine⟨?_,?_,?_⟩<;>first|omega|(show _<_;(try simp only[List.length_set]);omega)|exact leT rfl))|(refine⟨?_,?_⟩<;>omega)|(refine⟨?_,?_,?_⟩<;>first|omega|(show _<_;(try simp only[List.length_set]);omega)|exact leT rfl)|(simp only[show rI.d=(0:Int)from rfl];omega));done));(conv=>whnf))))
  refine EvIf.split (fun g1 => ?_) (fun g1 => ?_)
  · simp only [Bool.and_eq_true, decide_eq_true_eq] at g1
    obtain ⟨l1, l2, l3⟩ := hal g1.2
    have hw : IntKind.i64.wrap ((i : Int) + 1) = ((i + 1 : Nat) : Int) := by rw [w64_in _ (by omega)]; omega
    have hwi := wiB_succ P Q i
    have hwi2 : (wiB P Q i && decide (ys.getD (i : Int).toNat rI.d ≤ xs.getD (i : Int).toNat rI.d) && decide (ys.getD (i : Int).toNat rI.d ≤ ws.getD (i : Int).toNat rI.d)) = wiB P Q (i + 1) := by rw [hwi, hP, hQ]; rfl
    have hgr : IntKind.i64.wrap (IntKind.i64.wrap (ws.getD (i : Int).toNat rI.d - ys.getD (i : Int).toNat rI.d) - IntKind.i64.wrap (ys.getD (i : Int).toNat rI.d - xs.getD (i : Int).toNat rI.d)) = grW P Q i := by rw [hP, hQ]; rfl
    ((conv=>whnf);(repeat(refine And.intro ?_ ?_;(focus((first|omega|exact⟨rfl,True.intro⟩|exact⟨rfl,rfl,True.intro⟩|rfl|(simp only[List.length_set];first|omega|(refine⟨?_,?_⟩<;>omega)|(refine⟨?_,?_,?_⟩<;>omega))|(intro hg;(try simp only[bB]at hg);first|omega|(refine⟨?_,?_⟩<;>omega)|(refine⟨?_,?_,?_⟩<;>first|omega|(show _<_;(try simp only[List.length_set]);omega)|exact leT rfl))|(refine⟨?_,?_⟩<;>omega)|(refine⟨?_,?_,?_⟩<;>first|omega|(show _<_;(try simp only[List.length_set]);omega)|exact leT rfl)|(simp only[show rI.d=(0:Int)from rfl];omega));done));(conv=>whnf))))
    (refine EvDraw.one (.q 0 (.q 1 (.q 2 (.q 3 (.q 4 (.q 5 (.q 6 (.q 7 (.q 8 (.q 9 (.q 10 (.q 11 (.q 12 (.q 13 (.q 14 (.q 15 (.q 16 (.q 17 (.q 18 (.q 19 (.q 20 (.q 21 (.q 22 (.q 23 (.q 24 (.q 25 (.q 26 (.q 27 (.z))))))))))))))))))))))))))))) (by kernel_rfl) ?_)
    ((conv=>whnf);(repeat(refine And.intro ?_ ?_;(focus((first|omega|exact⟨rfl,True.intro⟩|exact⟨rfl,rfl,True.intro⟩|rfl|(simp only[List.length_set];first|omega|(refine⟨?_,?_⟩<;>omega)|(refine⟨?_,?_,?_⟩<;>omega))|(intro hg;(try simp only[bB]at hg);first|omega|(refine⟨?_,?_⟩<;>omega)|(refine⟨?_,?_,?_⟩<;>first|omega|(show _<_;(try simp only[List.length_set]);omega)|exact leT rfl))|(refine⟨?_,?_⟩<;>omega)|(refine⟨?_,?_,?_⟩<;>first|omega|(show _<_;(try simp only[List.length_set]);omega)|exact leT rfl)|(simp only[show rI.d=(0:Int)from rfl];omega));done));(conv=>whnf))))
    (refine EvDraw.one (.q 0 (.q 1 (.q 2 (.q 3 (.q 4 (.q 5 (.q 6 (.q 7 (.q 8 (.q 9 (.q 10 (.q 11 (.q 12 (.q 13 (.q 14 (.q 15 (.q 16 (.q 17 (.q 18 (.q 19 (.q 20 (.q 21 (.q 22 (.q 23 (.z))))))))))))))))))))))))) (by kernel_rfl) ?_)
    ((conv=>whnf);(repeat(refine And.intro ?_ ?_;(focus((first|omega|exact⟨rfl,True.intro⟩|exact⟨rfl,rfl,True.intro⟩|rfl|(simp only[List.length_set];first|omega|(refine⟨?_,?_⟩<;>omega)|(refine⟨?_,?_,?_⟩<;>omega))|(intro hg;(try simp only[bB]at hg);first|omega|(refine⟨?_,?_⟩<;>omega)|(refine⟨?_,?_,?_⟩<;>first|omega|(show _<_;(try simp only[List.length_set]);omega)|exact leT rfl))|(refine⟨?_,?_⟩<;>omega)|(refine⟨?_,?_,?_⟩<;>first|omega|(show _<_;(try simp only[List.length_set]);omega)|exact leT rfl)|(simp only[show rI.d=(0:Int)from rfl];omega));done));(conv=>whnf))))
    rw [hgr]
    refine EvIf.split (fun g2 => ?_) (fun g2 => ?_)
    · simp only [Bool.or_eq_true, decide_eq_true_eq] at g2
      have hm : grM (grW P Q) (i + 1) = grW P Q i := if_pos (by
        rcases g2 with g2 | g2
        · exact .inl (by omega)
        · exact .inr g2)
      ((conv=>whnf);(repeat(refine And.intro ?_ ?_;(focus((first|omega|exact⟨rfl,True.intro⟩|exact⟨rfl,rfl,True.intro⟩|rfl|(simp only[List.length_set];first|omega|(refine⟨?_,?_⟩<;>omega)|(refine⟨?_,?_,?_⟩<;>omega))|(intro hg;(try simp only[bB]at hg);first|omega|(refine⟨?_,?_⟩<;>omega)|(refine⟨?_,?_,?_⟩<;>first|omega|(show _<_;(try simp only[List.length_set]);omega)|exact leT rfl))|(refine⟨?_,?_⟩<;>omega)|(refine⟨?_,?_,?_⟩<;>first|omega|(show _<_;(try simp only[List.length_set]);omega)|exact leT rfl)|(simp only[show rI.d=(0:Int)from rfl];omega));done));(conv=>whnf))))
      refine LoopI.back (i + 1) ⟨by omega, fun h => by rw [h] at g1; simp at g1⟩ (by omega) (Sub.of [] [] rfl ?_)
      (repeat' (refine And.intro ?_ ?_)) <;> first | rfl | exact True.intro | exact hw | exact hw.symm | exact hm | exact hm.symm | exact hwi2 | exact hwi2.symm | omega
    · simp only [Bool.or_eq_false_iff, decide_eq_false_iff_not] at g2
      have hm : grM (grW P Q) (i + 1) = grM (grW P Q) i := if_neg (fun h => by
        rcases h with h | h
        · exact g2.1 (by omega)
        · exact g2.2 h)
      ((conv=>whnf);(repeat(refine And.intro ?_ ?_;(focus((first|omega|exact⟨rfl,True.intro⟩|exact⟨rfl,rfl,True.intro⟩|rfl|(simp only[List.length_set];first|omega|(refine⟨?_,?_⟩<;>omega)|(refine⟨?_,?_,?_⟩<;>omega))|(intro hg;(try simp only[bB]at hg);first|omega|(refine⟨?_,?_⟩<;>omega)|(refine⟨?_,?_,?_⟩<;>first|omega|(show _<_;(try simp only[List.length_set]);omega)|exact leT rfl))|(refine⟨?_,?_⟩<;>omega)|(refine⟨?_,?_,?_⟩<;>first|omega|(show _<_;(try simp only[List.length_set]);omega)|exact leT rfl)|(simp only[show rI.d=(0:Int)from rfl];omega));done));(conv=>whnf))))
      refine LoopI.back (i + 1) ⟨by omega, fun h => by rw [h] at g1; simp at g1⟩ (by omega) (Sub.of [] [] rfl ?_)
      (repeat' (refine And.intro ?_ ?_)) <;> first | rfl | exact True.intro | exact hw | exact hw.symm | exact hm | exact hm.symm | exact hwi2 | exact hwi2.symm | omega
  have hfin : wiB P Q i = withinB P Q ∧ grM (grW P Q) i = (growthR P Q).1 := by
    have hPl : P.lo.length = xs.length := by rw [hP]
    cases hh : alikeB P Q with
    | false =>
      have h0 := hi0 hh
      subst h0
      refine ⟨by simp [wiB, withinB, hh], ?_⟩
      rw [growthR, if_neg (fun h => by rw [hh] at h; exact absurd h.1 (by simp))]
      rfl
    | true =>
      have hin : i = P.lo.length := by rw [hh] at g1; simp at g1; omega
      refine ⟨by rw [hin]; rfl, ?_⟩
      by_cases h0 : P.lo.length = 0
      · rw [growthR, if_neg (fun h => h.2 h0), hin, h0]
        rfl
      · rw [growthR, if_pos ⟨hh, h0⟩, hin]
  rw [hfin.1, hfin.2]
  have hg2 : (growthR P Q).2 = if alikeB P Q = true ∧ xs.length ≠ 0 then 0 else 1 := by
    have hPl : P.lo.length = xs.length := by rw [hP]
    rw [growthR, hPl]
    split <;> rfl
  ((conv=>whnf);(repeat(refine And.intro ?_ ?_;(focus((first|omega|exact⟨rfl,True.intro⟩|exact⟨rfl,rfl,True.intro⟩|rfl|(simp only[List.length_set];first|omega|(refine⟨?_,?_⟩<;>omega)|(refine⟨?_,?_,?_⟩<;>omega))|(intro hg;(try simp only[bB]at hg);first|omega|(refine⟨?_,?_⟩<;>omega)|(refine⟨?_,?_,?_⟩<;>first|omega|(show _<_;(try simp only[List.length_set]);omega)|exact leT rfl))|(refine⟨?_,?_⟩<;>omega)|(refine⟨?_,?_,?_⟩<;>first|omega|(show _<_;(try simp only[List.length_set]);omega)|exact leT rfl)|(simp only[show rI.d=(0:Int)from rfl];omega));done));(conv=>whnf))))
  refine EvCall.plain Try.call30 (.t [.v (.int .i64 (growthR P Q).1), .v (.int .i64 (growthR P Q).2)]) rfl (fun ρ W hp => by
    rw [hP, hQ]
    exact growth_s ⟨f0, xs, ys⟩ ⟨yf, ys, ws⟩ _ _ _ _ _ _ _ _ _ _ _ _ W (hp.rowsIn (R := rI) (n := 3) (c := k1) rfl (by decide) x1 x2 1) (hp.rowsIn (R := rI) (n := 4) (c := k2) rfl (by decide) x3 x4 1) (hp.rowsIn (R := rI) (n := 6) (c := k3) rfl (by decide) y1 y2 1) (hp.rowsIn (R := rI) (n := 7) (c := k4) rfl (by decide) y3 y4 1) (by show xs.length ≤ 1000000; omega)) ?_
  ((conv=>whnf);(repeat(refine And.intro ?_ ?_;(focus((first|omega|exact⟨rfl,True.intro⟩|exact⟨rfl,rfl,True.intro⟩|rfl|(simp only[List.length_set];first|omega|(refine⟨?_,?_⟩<;>omega)|(refine⟨?_,?_,?_⟩<;>omega))|(intro hg;(try simp only[bB]at hg);first|omega|(refine⟨?_,?_⟩<;>omega)|(refine⟨?_,?_,?_⟩<;>first|omega|(show _<_;(try simp only[List.length_set]);omega)|exact leT rfl))|(refine⟨?_,?_⟩<;>omega)|(refine⟨?_,?_,?_⟩<;>first|omega|(show _<_;(try simp only[List.length_set]);omega)|exact leT rfl)|(simp only[show rI.d=(0:Int)from rfl];omega));done));(conv=>whnf))))
  refine EvCall.plain Try.call31 (.v (.bool (withinB P Q))) rfl (fun ρ W hp => by
    rw [hP, hQ]
    exact within_s ⟨f0, xs, ys⟩ ⟨yf, ys, ws⟩ _ _ _ _ _ _ _ _ _ _ _ _ W (hp.rowsIn (R := rI) (n := 3) (c := k1) rfl (by decide) x1 x2 1) (hp.rowsIn (R := rI) (n := 4) (c := k2) rfl (by decide) x3 x4 1) (hp.rowsIn (R := rI) (n := 6) (c := k3) rfl (by decide) y1 y2 1) (hp.rowsIn (R := rI) (n := 7) (c := k4) rfl (by decide) y3 y4 1)) ?_
  ((conv=>whnf);(repeat(refine And.intro ?_ ?_;(focus((first|omega|exact⟨rfl,True.intro⟩|exact⟨rfl,rfl,True.intro⟩|rfl|(simp only[List.length_set];first|omega|(refine⟨?_,?_⟩<;>omega)|(refine⟨?_,?_,?_⟩<;>omega))|(intro hg;(try simp only[bB]at hg);first|omega|(refine⟨?_,?_⟩<;>omega)|(refine⟨?_,?_,?_⟩<;>first|omega|(show _<_;(try simp only[List.length_set]);omega)|exact leT rfl))|(refine⟨?_,?_⟩<;>omega)|(refine⟨?_,?_,?_⟩<;>first|omega|(show _<_;(try simp only[List.length_set]);omega)|exact leT rfl)|(simp only[show rI.d=(0:Int)from rfl];omega));done));(conv=>whnf))))
  refine EvCallC.plain Try.call31 (.v (.bool (decide (xs.length = ys.length)))) rfl (fun _ ρ W hp => by
    have := within_s ⟨f0, xs, ys⟩ ⟨f0, xs, ys⟩ _ _ _ _ _ _ _ _ _ _ _ _ W (hp.rowsIn (R := rI) (n := 3) (c := k1) rfl (by decide) x1 x2 1) (hp.rowsIn (R := rI) (n := 4) (c := k2) rfl (by decide) x3 x4 1) (hp.rowsIn (R := rI) (n := 3) (c := k1) rfl (by decide) x1 x2 1) (hp.rowsIn (R := rI) (n := 4) (c := k2) rfl (by decide) x3 x4 1)
    rw [within_self] at this
    exact this) ?_
  generalize withinB P Q = wb at *
  generalize (growthR P Q).1 = gb at *
  rw [hg2]
  ((conv=>whnf);(repeat(refine And.intro ?_ ?_;(focus((first|omega|exact⟨rfl,True.intro⟩|exact⟨rfl,rfl,True.intro⟩|rfl|(simp only[List.length_set];first|omega|(refine⟨?_,?_⟩<;>omega)|(refine⟨?_,?_,?_⟩<;>omega))|(intro hg;(try simp only[bB]at hg);first|omega|(refine⟨?_,?_⟩<;>omega)|(refine⟨?_,?_,?_⟩<;>first|omega|(show _<_;(try simp only[List.length_set]);omega)|exact leT rfl))|(refine⟨?_,?_⟩<;>omega)|(refine⟨?_,?_,?_⟩<;>first|omega|(show _<_;(try simp only[List.length_set]);omega)|exact leT rfl)|(simp only[show rI.d=(0:Int)from rfl];omega));done));(conv=>whnf))))
  refine EvIf.neg (by
    have c1 : decide (xs.length = ys.length) = decide ((xs.length : Int) = (ys.length : Int)) := by simp only [Int.natCast_inj]
    rw [c1]
    by_cases ha : alikeB P Q = true ∧ xs.length ≠ 0
    · have h0 : (0 : Int) < (xs.length : Int) := by omega
      rw [if_pos ha, ha.1, decide_eq_true h0]
      cases wb <;> cases decide ((xs.length : Int) = (ys.length : Int)) <;> simp
    · have h0 : (alikeB P Q && decide ((0 : Int) < (xs.length : Int))) = false := by
        cases hh : alikeB P Q with
        | false => rfl
        | true =>
          rw [hh] at ha
          by_cases hz : xs.length = 0
          · simp only [Bool.true_and, decide_eq_false_iff_not]; omega
          · exact absurd ⟨rfl, hz⟩ ha
      rw [if_neg ha, h0]
      cases wb <;> cases decide ((xs.length : Int) = (ys.length : Int)) <;> simp) ?_
  have hNN : (min (xs.length : Int) (ys.length : Int)) = ((min xs.length ys.length : Nat) : Int) := by omega
  obtain ⟨N, hN⟩ : ∃ N : Nat, N = min xs.length ys.length := ⟨_, rfl⟩
  rw [← hN] at hNN
  ((conv=>whnf);(repeat(refine And.intro ?_ ?_;(focus((first|omega|exact⟨rfl,True.intro⟩|exact⟨rfl,rfl,True.intro⟩|rfl|(simp only[List.length_set];first|omega|(refine⟨?_,?_⟩<;>omega)|(refine⟨?_,?_,?_⟩<;>omega))|(intro hg;(try simp only[bB]at hg);first|omega|(refine⟨?_,?_⟩<;>omega)|(refine⟨?_,?_,?_⟩<;>first|omega|(show _<_;(try simp only[List.length_set]);omega)|exact leT rfl))|(refine⟨?_,?_⟩<;>omega)|(refine⟨?_,?_,?_⟩<;>first|omega|(show _<_;(try simp only[List.length_set]);omega)|exact leT rfl)|(simp only[show rI.d=(0:Int)from rfl];omega));done));(conv=>whnf))))
  refine EvLoop.inv (α := Nat × List Cl × Nat) (fun p => p.1 ≤ N ∧ runsG f0 (fun i => xs.getD i 0) (fun i => ys.getD i 0) p.1 = p.2.1 ∧ p.2.1.length ≤ p.2.2 ∧ p.2.2 ≤ 9223372036854775807) (fun p => N - p.1) (fun p => [(27, [], .v (.int .i64 ((p.1 : Int)))), (25, [], .v (.int .i64 ((N : Int)))), (26, [], .s 11 4 p.2.1.length p.2.2), (13, [], .p 5 0), (15, [], .p 9 0)])
    (fun p => [⟨11, true, 52, 4, p.2.2, .rows Cl rC p.2.1⟩, ⟨10, true, 32, 3, 1, .cs [.v (.int .i64 yf), .s 6 1 ys.length k3, .s 7 1 ws.length k4]⟩, ⟨9, true, 32, 3, 1, .cs [.v (.int .i64 f0), .s 3 1 xs.length k1, .s 4 1 ys.length k2]⟩, ⟨8, true, 40, 3, 1, .cs [.v (.int .i64 yf), .s 6 1 ys.length k3, .s 7 1 ws.length k4]⟩, ⟨7, true, 3, 1, k4, .rows Int rI ws⟩, ⟨6, true, 3, 1, k3, .rows Int rI ys⟩, ⟨5, true, 40, 3, 1, .cs [.v (.int .i64 f0), .s 3 1 xs.length k1, .s 4 1 ys.length k2]⟩, ⟨4, true, 3, 1, k2, .rows Int rI ys⟩, ⟨3, true, 3, 1, k1, .rows Int rI xs⟩]) 12 (0, [], 0) ⟨by simp, rfl, by simp, by decide⟩ (Sub.of [] [11] rfl ?_) ?_
  · (repeat' (refine And.intro ?_ ?_)) <;> first | rfl | exact True.intro | exact hNN | exact hNN.symm | omega | (show _ = _ ; simp)
  intro p ⟨hi1, hi3, hi4, hi5⟩
  have hrun := runs_ok f0 (fun i => xs.getD i 0) (fun i => ys.getD i 0) p.1
  rw [hi3] at hrun
  have hrl := hrun.len
  have hlst := hrun.lst
  have hrs : runsG f0 (fun i => xs.getD i 0) (fun i => ys.getD i 0) (p.1 + 1) = addR p.2.1 (f0 + p.1) (xs.getD p.1 0) (ys.getD p.1 0) := by
    simp only [runsG, hi3]
  have hk : IntKind.i64.wrap ((p.2.1.length : Int) - 1) = (p.2.1.length : Int) - 1 := w64_in _ (by omega)
  have hwr : IntKind.i64.wrap (f0 + (p.1 : Int)) = f0 + p.1 := w64_in _ (by omega)
  have hw : IntKind.i64.wrap ((p.1 : Int) + 1) = ((p.1 + 1 : Nat) : Int) := by rw [w64_in _ (by omega)]; omega
  have hxx : (p.2.1.getD (Int.toNat (IntKind.i64.wrap ((p.2.1.length : Int) - 1))) rC.d) = lastC p.2.1 := by
    rw [hk]
    show _ = p.2.1.getD (p.2.1.length - 1) cl0
    congr 1
    omega
  ((conv=>whnf);(repeat(refine And.intro ?_ ?_;(focus((first|omega|exact⟨rfl,True.intro⟩|exact⟨rfl,rfl,True.intro⟩|rfl|(simp only[List.length_set];first|omega|(refine⟨?_,?_⟩<;>omega)|(refine⟨?_,?_,?_⟩<;>omega))|(intro hg;(try simp only[bB]at hg);first|omega|(refine⟨?_,?_⟩<;>omega)|(refine⟨?_,?_,?_⟩<;>first|omega|(show _<_;(try simp only[List.length_set]);omega)|exact leT rfl))|(refine⟨?_,?_⟩<;>omega)|(refine⟨?_,?_,?_⟩<;>first|omega|(show _<_;(try simp only[List.length_set]);omega)|exact leT rfl)|(simp only[show rI.d=(0:Int)from rfl];omega));done));(conv=>whnf))))
  refine EvIf.split (fun g1 => ?_) (fun g1 => ?_)
  · simp only [decide_eq_true_eq] at g1
    have ha : atR ⟨f0, xs, ys⟩ (IntKind.i64.wrap (f0 + (p.1 : Int))) = (xs.getD p.1 0, ys.getD p.1 0, 0) := by
      rw [hwr, atR, if_pos (by simp only; omega)]
      simp only
      rw [show (f0 + (p.1 : Int) - f0).toNat = p.1 by omega]
    ((conv=>whnf);(repeat(refine And.intro ?_ ?_;(focus((first|omega|exact⟨rfl,True.intro⟩|exact⟨rfl,rfl,True.intro⟩|rfl|(simp only[List.length_set];first|omega|(refine⟨?_,?_⟩<;>omega)|(refine⟨?_,?_,?_⟩<;>omega))|(intro hg;(try simp only[bB]at hg);first|omega|(refine⟨?_,?_⟩<;>omega)|(refine⟨?_,?_,?_⟩<;>first|omega|(show _<_;(try simp only[List.length_set]);omega)|exact leT rfl))|(refine⟨?_,?_⟩<;>omega)|(refine⟨?_,?_,?_⟩<;>first|omega|(show _<_;(try simp only[List.length_set]);omega)|exact leT rfl)|(simp only[show rI.d=(0:Int)from rfl];omega));done));(conv=>whnf))))
    refine EvCall.plain Try.call27 (.t [.v (.int .i64 (xs.getD p.1 0)), .v (.int .i64 (ys.getD p.1 0)), .v (.int .i64 0)]) rfl (fun ρ W hp => by
      have := at_s ⟨f0, xs, ys⟩ _ _ _ _ _ _ (IntKind.i64.wrap (f0 + (p.1 : Int))) W (hp.rowsIn (R := rI) (n := 3) (c := k1) rfl (by decide) x1 x2 1) (hp.rowsIn (R := rI) (n := 4) (c := k2) rfl (by decide) x3 x4 1) (by rw [hwr]; omega) (by show -1000000000 ≤ f0 ∧ f0 ≤ 1000000000; omega)
      rw [ha] at this
      exact this) ?_
    ((conv=>whnf);(repeat(refine And.intro ?_ ?_;(focus((first|omega|exact⟨rfl,True.intro⟩|exact⟨rfl,rfl,True.intro⟩|rfl|(simp only[List.length_set];first|omega|(refine⟨?_,?_⟩<;>omega)|(refine⟨?_,?_,?_⟩<;>omega))|(intro hg;(try simp only[bB]at hg);first|omega|(refine⟨?_,?_⟩<;>omega)|(refine⟨?_,?_,?_⟩<;>first|omega|(show _<_;(try simp only[List.length_set]);omega)|exact leT rfl))|(refine⟨?_,?_⟩<;>omega)|(refine⟨?_,?_,?_⟩<;>first|omega|(show _<_;(try simp only[List.length_set]);omega)|exact leT rfl)|(simp only[show rI.d=(0:Int)from rfl];omega));done));(conv=>whnf))))
    refine EvIf.neg (by
      show (((!decide ((0 : Int) = 0)) || (!decide (xs.getD p.1 0 = xs.getD p.1 0))) || (!decide (ys.getD p.1 0 = ys.getD p.1 0))) = false
      simp) ?_
    ((conv=>whnf);(repeat(refine And.intro ?_ ?_;(focus((first|omega|exact⟨rfl,True.intro⟩|exact⟨rfl,rfl,True.intro⟩|rfl|(simp only[List.length_set];first|omega|(refine⟨?_,?_⟩<;>omega)|(refine⟨?_,?_,?_⟩<;>omega))|(intro hg;(try simp only[bB]at hg);first|omega|(refine⟨?_,?_⟩<;>omega)|(refine⟨?_,?_,?_⟩<;>first|omega|(show _<_;(try simp only[List.length_set]);omega)|exact leT rfl))|(refine⟨?_,?_⟩<;>omega)|(refine⟨?_,?_,?_⟩<;>first|omega|(show _<_;(try simp only[List.length_set]);omega)|exact leT rfl)|(simp only[show rI.d=(0:Int)from rfl];omega));done));(conv=>whnf))))
    refine EvIf.split (fun g2 => ?_) (fun g2 => ?_)
    · rw [hxx, hk] at g2
      simp only [Bool.and_eq_true, decide_eq_true_eq] at g2
      have g3 : (lastC p.2.1).lo = xs.getD p.1 0 ∧ (lastC p.2.1).hi = ys.getD p.1 0 := ⟨g2.1.2, g2.2⟩
      have hA : addR p.2.1 (f0 + p.1) (xs.getD p.1 0) (ys.getD p.1 0) = p.2.1.set (Int.toNat (IntKind.i64.wrap ((p.2.1.length : Int) - 1))) ⟨(p.2.1.getD (Int.toNat (IntKind.i64.wrap ((p.2.1.length : Int) - 1))) rC.d).f, IntKind.i64.wrap (f0 + (p.1 : Int)), (p.2.1.getD (Int.toNat (IntKind.i64.wrap ((p.2.1.length : Int) - 1))) rC.d).lo, (p.2.1.getD (Int.toNat (IntKind.i64.wrap ((p.2.1.length : Int) - 1))) rC.d).hi⟩ := by
        rw [hxx, hwr, hk, addR, if_pos ⟨by omega, g3.1, g3.2⟩, show Int.toNat ((p.2.1.length : Int) - 1) = p.2.1.length - 1 by omega]
      rw [hA] at hrs
      ((conv=>whnf);(repeat(refine And.intro ?_ ?_;(focus((first|omega|exact⟨rfl,True.intro⟩|exact⟨rfl,rfl,True.intro⟩|rfl|(simp only[List.length_set];first|omega|(refine⟨?_,?_⟩<;>omega)|(refine⟨?_,?_,?_⟩<;>omega))|(intro hg;(try simp only[bB]at hg);first|omega|(refine⟨?_,?_⟩<;>omega)|(refine⟨?_,?_,?_⟩<;>first|omega|(show _<_;(try simp only[List.length_set]);omega)|exact leT rfl))|(refine⟨?_,?_⟩<;>omega)|(refine⟨?_,?_,?_⟩<;>first|omega|(show _<_;(try simp only[List.length_set]);omega)|exact leT rfl)|(simp only[show rI.d=(0:Int)from rfl];omega));done));(conv=>whnf))))
      refine LoopI.back (p.1 + 1, _, p.2.2) ⟨by show p.1 + 1 ≤ N; omega, hrs, by simpa using hi4, hi5⟩ (by show N - (p.1 + 1) < N - p.1; omega) (Sub.of [] [] rfl ?_)
      (repeat' (refine And.intro ?_ ?_)) <;> first | rfl | exact True.intro | exact List.length_set .. | exact (List.length_set ..).symm | exact hw | exact hw.symm | omega
    · rw [hxx, hk] at g2
      simp only [Bool.and_eq_false_iff, decide_eq_false_iff_not] at g2
      have g3 : (¬ (0 : Int) ≤ (p.2.1.length : Int) - 1 ∨ ¬ (lastC p.2.1).lo = xs.getD p.1 0) ∨ ¬ (lastC p.2.1).hi = ys.getD p.1 0 := g2
      have hA : addR p.2.1 (f0 + p.1) (xs.getD p.1 0) (ys.getD p.1 0) = p.2.1 ++ [⟨IntKind.i64.wrap (f0 + (p.1 : Int)), IntKind.i64.wrap (f0 + (p.1 : Int)), xs.getD p.1 0, ys.getD p.1 0⟩] := by
        rw [hwr, addR, if_neg]
        rintro ⟨q1, q2, q3⟩
        rcases g3 with (g3 | g3) | g3
        · omega
        · exact g3 q2
        · exact g3 q3
      rw [hA] at hrs
      ((conv=>whnf);(repeat(refine And.intro ?_ ?_;(focus((first|omega|exact⟨rfl,True.intro⟩|exact⟨rfl,rfl,True.intro⟩|rfl|(simp only[List.length_set];first|omega|(refine⟨?_,?_⟩<;>omega)|(refine⟨?_,?_,?_⟩<;>omega))|(intro hg;(try simp only[bB]at hg);first|omega|(refine⟨?_,?_⟩<;>omega)|(refine⟨?_,?_,?_⟩<;>first|omega|(show _<_;(try simp only[List.length_set]);omega)|exact leT rfl))|(refine⟨?_,?_⟩<;>omega)|(refine⟨?_,?_,?_⟩<;>first|omega|(show _<_;(try simp only[List.length_set]);omega)|exact leT rfl)|(simp only[show rI.d=(0:Int)from rfl];omega));done));(conv=>whnf))))
      refine EvBi.append (R := rC) tyok29 rfl tyok52 rfl (by decide) rfl rfl rfl hi4 [⟨IntKind.i64.wrap (f0 + (p.1 : Int)), IntKind.i64.wrap (f0 + (p.1 : Int)), xs.getD p.1 0, ys.getD p.1 0⟩] (fun ρ W hp => hp.lit (R := rC) (ys := [⟨IntKind.i64.wrap (f0 + (p.1 : Int)), IntKind.i64.wrap (f0 + (p.1 : Int)), xs.getD p.1 0, ys.getD p.1 0⟩]) rfl (by decide) (by simp) (by omega) rfl) (by show (_ + 1) * 32 ≤ _; omega) (by show _ + 1 ≤ _; omega) (fun cap' hq1 hq2 => ?_)
      ((conv=>whnf);(repeat(refine And.intro ?_ ?_;(focus((first|omega|exact⟨rfl,True.intro⟩|exact⟨rfl,rfl,True.intro⟩|rfl|(simp only[List.length_set];first|omega|(refine⟨?_,?_⟩<;>omega)|(refine⟨?_,?_,?_⟩<;>omega))|(intro hg;(try simp only[bB]at hg);first|omega|(refine⟨?_,?_⟩<;>omega)|(refine⟨?_,?_,?_⟩<;>first|omega|(show _<_;(try simp only[List.length_set]);omega)|exact leT rfl))|(refine⟨?_,?_⟩<;>omega)|(refine⟨?_,?_,?_⟩<;>first|omega|(show _<_;(try simp only[List.length_set]);omega)|exact leT rfl)|(simp only[show rI.d=(0:Int)from rfl];omega));done));(conv=>whnf))))
      refine LoopI.back (p.1 + 1, _, cap') ⟨by show p.1 + 1 ≤ N; omega, hrs, by simpa using hq1, hq2⟩ (by show N - (p.1 + 1) < N - p.1; omega) (Sub.of [(11, 13)] [] rfl ?_)
      (repeat' (refine And.intro ?_ ?_)) <;> first | rfl | exact True.intro | exact List.length_append .. | exact (List.length_append ..).symm | exact hw | exact hw.symm | omega
  simp only [decide_eq_false_iff_not] at g1
  obtain ⟨i, out, cp⟩ := p
  obtain rfl : i = N := by simp only at g1 hi1; omega
  simp only at hi3 hi4 hi5
  have e1' : IntKind.i64.wrap (f0 - 1) = f0 - 1 := w64_in _ (by omega)
  have e2' : IntKind.i64.wrap (f0 + (i : Int)) = f0 + i := w64_in _ (by omega)
  have ha1 : atR ⟨f0, xs, ys⟩ (IntKind.i64.wrap (f0 - 1)) = (0, 0, 9) := by
    rw [e1', atR, if_neg (by simp only; omega)]
  have ha2 : atR ⟨f0, xs, ys⟩ (IntKind.i64.wrap (f0 + (i : Int))) = (0, 0, 9) := by
    rw [e2', atR, if_neg (by simp only; omega)]
  ((conv=>whnf);(repeat(refine And.intro ?_ ?_;(focus((first|omega|exact⟨rfl,True.intro⟩|exact⟨rfl,rfl,True.intro⟩|rfl|(simp only[List.length_set];first|omega|(refine⟨?_,?_⟩<;>omega)|(refine⟨?_,?_,?_⟩<;>omega))|(intro hg;(try simp only[bB]at hg);first|omega|(refine⟨?_,?_⟩<;>omega)|(refine⟨?_,?_,?_⟩<;>first|omega|(show _<_;(try simp only[List.length_set]);omega)|exact leT rfl))|(refine⟨?_,?_⟩<;>omega)|(refine⟨?_,?_,?_⟩<;>first|omega|(show _<_;(try simp only[List.length_set]);omega)|exact leT rfl)|(simp only[show rI.d=(0:Int)from rfl];omega));done));(conv=>whnf))))
  refine EvCall.plain Try.call27 (.t [.v (.int .i64 0), .v (.int .i64 0), .v (.int .i64 9)]) rfl (fun ρ W hp => by
    have := at_s ⟨f0, xs, ys⟩ _ _ _ _ _ _ (IntKind.i64.wrap (f0 - 1)) W (hp.rowsIn (R := rI) (n := 3) (c := k1) rfl (by decide) x1 x2 1) (hp.rowsIn (R := rI) (n := 4) (c := k2) rfl (by decide) x3 x4 1) (by rw [e1']; omega) (by show -1000000000 ≤ f0 ∧ f0 ≤ 1000000000; omega)
    rw [ha1] at this
    exact this) ?_
  ((conv=>whnf);(repeat(refine And.intro ?_ ?_;(focus((first|omega|exact⟨rfl,True.intro⟩|exact⟨rfl,rfl,True.intro⟩|rfl|(simp only[List.length_set];first|omega|(refine⟨?_,?_⟩<;>omega)|(refine⟨?_,?_,?_⟩<;>omega))|(intro hg;(try simp only[bB]at hg);first|omega|(refine⟨?_,?_⟩<;>omega)|(refine⟨?_,?_,?_⟩<;>first|omega|(show _<_;(try simp only[List.length_set]);omega)|exact leT rfl))|(refine⟨?_,?_⟩<;>omega)|(refine⟨?_,?_,?_⟩<;>first|omega|(show _<_;(try simp only[List.length_set]);omega)|exact leT rfl)|(simp only[show rI.d=(0:Int)from rfl];omega));done));(conv=>whnf))))
  refine EvCall.plain Try.call27 (.t [.v (.int .i64 0), .v (.int .i64 0), .v (.int .i64 9)]) rfl (fun ρ W hp => by
    have := at_s ⟨f0, xs, ys⟩ _ _ _ _ _ _ (IntKind.i64.wrap (f0 + (i : Int))) W (hp.rowsIn (R := rI) (n := 3) (c := k1) rfl (by decide) x1 x2 1) (hp.rowsIn (R := rI) (n := 4) (c := k2) rfl (by decide) x3 x4 1) (by rw [e2']; omega) (by show -1000000000 ≤ f0 ∧ f0 ≤ 1000000000; omega)
    rw [ha2] at this
    exact this) ?_
  have hen : envC ⟨f0, xs, ys⟩ = out := by rw [← hi3]; unfold envC; simp only; rw [hN]
  ((conv=>whnf);(repeat(refine And.intro ?_ ?_;(focus((first|omega|exact⟨rfl,True.intro⟩|exact⟨rfl,rfl,True.intro⟩|rfl|(simp only[List.length_set];first|omega|(refine⟨?_,?_⟩<;>omega)|(refine⟨?_,?_,?_⟩<;>omega))|(intro hg;(try simp only[bB]at hg);first|omega|(refine⟨?_,?_⟩<;>omega)|(refine⟨?_,?_,?_⟩<;>first|omega|(show _<_;(try simp only[List.length_set]);omega)|exact leT rfl))|(refine⟨?_,?_⟩<;>omega)|(refine⟨?_,?_,?_⟩<;>first|omega|(show _<_;(try simp only[List.length_set]);omega)|exact leT rfl)|(simp only[show rI.d=(0:Int)from rfl];omega));done));(conv=>whnf))))
  refine EvCallC.on (by decide) (EvCall.rows (R := rC) (ty := 52) (xs := out) Try.call33 (fun ρ W hp => by
    have := envclaims_s ⟨f0, xs, ys⟩ _ _ _ _ _ _ W (hp.rowsIn (R := rI) (n := 3) (c := k1) rfl (by decide) x1 x2 1) (hp.rowsIn (R := rI) (n := 4) (c := k2) rfl (by decide) x3 x4 1) (by show -1000000000 ≤ f0 ∧ f0 ≤ 1000000000; omega) (by show xs.length ≤ 1000000; omega)
    rw [hen] at this
    exact this) (fun kc z1 z2 => ?_))
  ((conv=>whnf);(repeat(refine And.intro ?_ ?_;(focus((first|omega|exact⟨rfl,True.intro⟩|exact⟨rfl,rfl,True.intro⟩|rfl|(simp only[List.length_set];first|omega|(refine⟨?_,?_⟩<;>omega)|(refine⟨?_,?_,?_⟩<;>omega))|(intro hg;(try simp only[bB]at hg);first|omega|(refine⟨?_,?_⟩<;>omega)|(refine⟨?_,?_,?_⟩<;>first|omega|(show _<_;(try simp only[List.length_set]);omega)|exact leT rfl))|(refine⟨?_,?_⟩<;>omega)|(refine⟨?_,?_,?_⟩<;>first|omega|(show _<_;(try simp only[List.length_set]);omega)|exact leT rfl)|(simp only[show rI.d=(0:Int)from rfl];omega));done));(conv=>whnf))))
  refine EvCallC.plain Try.call32 (.v (.bool true)) rfl (fun _ ρ W hp => by
    have := same_s _ _ out out W (hp.rowsIn (R := rC) (n := 12) (c := kc) rfl (by decide) z1 z2 4) (hp.rowsIn (R := rC) (n := 11) (c := cp) rfl (by decide) hi4 hi5 4)
    rw [decide_eq_true rfl] at this
    exact this) ?_
  ((conv=>whnf);(repeat(refine And.intro ?_ ?_;(focus((first|omega|exact⟨rfl,True.intro⟩|exact⟨rfl,rfl,True.intro⟩|rfl|(simp only[List.length_set];first|omega|(refine⟨?_,?_⟩<;>omega)|(refine⟨?_,?_,?_⟩<;>omega))|(intro hg;(try simp only[bB]at hg);first|omega|(refine⟨?_,?_⟩<;>omega)|(refine⟨?_,?_,?_⟩<;>first|omega|(show _<_;(try simp only[List.length_set]);omega)|exact leT rfl))|(refine⟨?_,?_⟩<;>omega)|(refine⟨?_,?_,?_⟩<;>first|omega|(show _<_;(try simp only[List.length_set]);omega)|exact leT rfl)|(simp only[show rI.d=(0:Int)from rfl];omega));done));(conv=>whnf))))
  refine EvCallC.plain Try.call18 (.v (.bool true)) rfl (fun _ ρ W hp => lives12_s W) ?_
  ((conv=>whnf);(repeat(refine And.intro ?_ ?_;(focus((first|omega|exact⟨rfl,True.intro⟩|exact⟨rfl,rfl,True.intro⟩|rfl|(simp only[List.length_set];first|omega|(refine⟨?_,?_⟩<;>omega)|(refine⟨?_,?_,?_⟩<;>omega))|(intro hg;(try simp only[bB]at hg);first|omega|(refine⟨?_,?_⟩<;>omega)|(refine⟨?_,?_,?_⟩<;>first|omega|(show _<_;(try simp only[List.length_set]);omega)|exact leT rfl))|(refine⟨?_,?_⟩<;>omega)|(refine⟨?_,?_,?_⟩<;>first|omega|(show _<_;(try simp only[List.length_set]);omega)|exact leT rfl)|(simp only[show rI.d=(0:Int)from rfl];omega));done));(conv=>whnf))))
  exact EvRet.ret (fun _ => rfl)
theorem walk_EnvelopeShapes (w : World) (first : Int) (hf : I64 first) (V1 : Value) (us : List Int) (h : Ints w V1 us) (V2 : Value) (vs : List Int) (h2 : Ints w V2 vs) (V3 : Value) (zs : List Int) (h3 : Ints w V3 zs) (other : Int) (ho : I64 other) (t : Int) (ht : I64 t) :
    Calls Try.prog 5 #[.int .i64 first, V1, V2, V3, .int .i64 other, .int .i64 t] w fun e w' => e = .returned (.bool true) ∧ Below w.heap.size w w' :=
  (envelopeshapes_s first other t V1 V2 V3 us vs zs w h h2 h3 hf ho ht).out
end Go.Proofs.Ytnoenmacakbhdaa
