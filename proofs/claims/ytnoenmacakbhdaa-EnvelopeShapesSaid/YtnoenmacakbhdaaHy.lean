
/- The law HistoryLattice, walked. -/
import Derived.Test.YtnoenmacakbhdaaHv
namespace Go.Proofs.Ytnoenmacakbhdaa
open Go.RowKit
set_option linter.unusedVariables false
set_option linter.unusedSimpArgs false

set_option maxRecDepth 10000 in
theorem ints_s (v : Value) (zs : List Int) (m : Nat) (w : World) (h : RowsIn rI w v zs) (hm : m ≤ 1000) : Con Try.prog 52 #[v, .int .i64 (m : Int)] w (RetRows rI 3 w (zs.take m)) := by
  obtain ⟨A1, c1, rfl, e1, e2⟩ := h.form
  have hn : min (zs.length : Int) (m : Int) = ((min zs.length m : Nat) : Int) := by omega
  have htl : (zs.take m).length = min zs.length m := by simp; omega
  refine enter tabOk mixed Try.func52 rfl Try.ntmps52 Try.results52 [.s 0 1 zs.length c1, .v (.int .i64 (m : Int))] (fun _ => A1) [⟨0, false, 3, 1, c1, .rows Int rI (zs)⟩] 1 rfl rfl (.ro (hp0 _ _ _) _ rfl rfl rfl (ro_rows h rfl _)) ?_
  ((conv=>whnf);(repeat(refine And.intro ?_ ?_;(focus((first|omega|exact⟨rfl,True.intro⟩|exact⟨rfl,rfl,True.intro⟩|rfl|(simp only[List.length_set];first|omega|(refine⟨?_,?_⟩<;>omega)|(refine⟨?_,?_,?_⟩<;>omega))|(intro hg;(try simp only[bB]at hg);first|omega|(refine⟨?_,?_⟩<;>omega)|(refine⟨?_,?_,?_⟩<;>first|omega|(show _<_;(try simp only[List.length_set]);omega)|exact leT rfl))|(refine⟨?_,?_⟩<;>omega)|(refine⟨?_,?_,?_⟩<;>first|omega|(show _<_;(try simp only[List.length_set]);omega)|exact leT rfl)|(simp only[show rI.d=(0:Int)from rfl];omega));done));(conv=>whnf))))
  refine EvBi.append_nil (R := rI) tyok22 rfl tyok3 rfl (by decide) rfl (zs.take m) (fun ρ W hp => by
    have := hp.cut (R := rI) (n := 0) (c := c1) (xs := zs) rfl (by decide) e1 e2 (min zs.length m) (by omega) 1
    rw [hn, Int.toNat_natCast]
    rwa [show zs.take (min zs.length m) = zs.take m by rw [Nat.min_comm, ← List.take_take, List.take_length]] at this) (by rw [htl]; show _ * 8 ≤ _; omega) (by omega) (fun ca hq1 hq2 => ?_)
  ((conv=>whnf);(repeat(refine And.intro ?_ ?_;(focus((first|omega|exact⟨rfl,True.intro⟩|exact⟨rfl,rfl,True.intro⟩|rfl|(simp only[List.length_set];first|omega|(refine⟨?_,?_⟩<;>omega)|(refine⟨?_,?_,?_⟩<;>omega))|(intro hg;(try simp only[bB]at hg);first|omega|(refine⟨?_,?_⟩<;>omega)|(refine⟨?_,?_,?_⟩<;>first|omega|(show _<_;(try simp only[List.length_set]);omega)|exact leT rfl))|(refine⟨?_,?_⟩<;>omega)|(refine⟨?_,?_,?_⟩<;>first|omega|(show _<_;(try simp only[List.length_set]);omega)|exact leT rfl)|(simp only[show rI.d=(0:Int)from rfl];omega));done));(conv=>whnf))))
  exact EvRet.rows (R := rI) rfl hq1 rfl rfl
set_option maxHeartbeats 1000000 in
set_option maxRecDepth 20000 in
theorem historylattice_s (v1 v2 v3 v4 v5 : Value) (zs ms ks us ws : List Int) (b : Bool) (seed other : Int) (w : World) (h1 : Ints w v1 zs) (h2 : Ints w v2 ms) (h3 : Ints w v3 ks) (h4 : Ints w v4 us) (h5 : Ints w v5 ws) :
    Con Try.prog 12 #[v1, v2, v3, .bool b, .int .i64 seed, .int .i64 other, v4, v5] w (Ret w (.bool true)) := by
  obtain ⟨A1, c1, rfl, e1, e2⟩ := h1.form
  obtain ⟨A2, c2, rfl, e3, e4⟩ := h2.form
  obtain ⟨A3, c3, rfl, e5, e6⟩ := h3.form
  obtain ⟨A4, c4, rfl, e7, e8⟩ := h4.form
  obtain ⟨A5, c5, rfl, e9, e10⟩ := h5.form
  have hT := declOf_T zs
  have hI := declOf_I' zs
  have hvc := declOf_vc zs
  refine enter tabOk mixed Try.func12 rfl Try.ntmps12 Try.results12 [.s 0 1 zs.length c1, .s 1 1 ms.length c2, .s 2 1 ks.length c3, .v (.bool b), .v (.int .i64 seed), .v (.int .i64 other), .s 3 1 us.length c4, .s 4 1 ws.length c5] (fun n => if n = 0 then A1 else if n = 1 then A2 else if n = 2 then A3 else if n = 3 then A4 else A5) [⟨4, false, 3, 1, c5, .rows Int rI (ws)⟩, ⟨3, false, 3, 1, c4, .rows Int rI (us)⟩, ⟨2, false, 3, 1, c3, .rows Int rI (ks)⟩, ⟨1, false, 3, 1, c2, .rows Int rI (ms)⟩, ⟨0, false, 3, 1, c1, .rows Int rI (zs)⟩] 5 rfl rfl (.ro (.ro (.ro (.ro (.ro (hp0 _ _ _) _ rfl rfl rfl (ro_ints h1 rfl _)) _ rfl rfl rfl (ro_ints h2 rfl _)) _ rfl rfl rfl (ro_ints h3 rfl _)) _ rfl rfl rfl (ro_ints h4 rfl _)) _ rfl rfl rfl (ro_ints h5 rfl _)) ?_
  ((conv=>whnf);(repeat(refine And.intro ?_ ?_;(focus((first|omega|exact⟨rfl,True.intro⟩|exact⟨rfl,rfl,True.intro⟩|rfl|(simp only[List.length_set];first|omega|(refine⟨?_,?_⟩<;>omega)|(refine⟨?_,?_,?_⟩<;>omega))|(intro hg;(try simp only[bB]at hg);first|omega|(refine⟨?_,?_⟩<;>omega)|(refine⟨?_,?_,?_⟩<;>first|omega|(show _<_;(try simp only[List.length_set]);omega)|exact leT rfl))|(refine⟨?_,?_⟩<;>omega)|(refine⟨?_,?_,?_⟩<;>first|omega|(show _<_;(try simp only[List.length_set]);omega)|exact leT rfl)|(simp only[show rI.d=(0:Int)from rfl];omega));done));(conv=>whnf))))
  refine EvCall.rows (R := rI) (ty := 3) (xs := us.take 20) Try.call52 (fun ρ W hp => ints_s _ us 20 W (hp.rowsIn (R := rI) (n := 3) (c := c4) rfl (by decide) e7 e8 1) (by omega)) (fun kx x1 x2 => ?_)
  ((conv=>whnf);(repeat(refine And.intro ?_ ?_;(focus((first|omega|exact⟨rfl,True.intro⟩|exact⟨rfl,rfl,True.intro⟩|rfl|(simp only[List.length_set];first|omega|(refine⟨?_,?_⟩<;>omega)|(refine⟨?_,?_,?_⟩<;>omega))|(intro hg;(try simp only[bB]at hg);first|omega|(refine⟨?_,?_⟩<;>omega)|(refine⟨?_,?_,?_⟩<;>first|omega|(show _<_;(try simp only[List.length_set]);omega)|exact leT rfl))|(refine⟨?_,?_⟩<;>omega)|(refine⟨?_,?_,?_⟩<;>first|omega|(show _<_;(try simp only[List.length_set]);omega)|exact leT rfl)|(simp only[show rI.d=(0:Int)from rfl];omega));done));(conv=>whnf))))
  refine EvCall.rows (R := rI) (ty := 3) (xs := ws.take 20) Try.call52 (fun ρ W hp => ints_s _ ws 20 W (hp.rowsIn (R := rI) (n := 4) (c := c5) rfl (by decide) e9 e10 1) (by omega)) (fun ky y1 y2 => ?_)
  have hxl : (us.take 20).length ≤ 20 := by simp; omega
  generalize us.take 20 = xs at *
  generalize ws.take 20 = ys at *
  ((conv=>whnf);(repeat(refine And.intro ?_ ?_;(focus((first|omega|exact⟨rfl,True.intro⟩|exact⟨rfl,rfl,True.intro⟩|rfl|(simp only[List.length_set];first|omega|(refine⟨?_,?_⟩<;>omega)|(refine⟨?_,?_,?_⟩<;>omega))|(intro hg;(try simp only[bB]at hg);first|omega|(refine⟨?_,?_⟩<;>omega)|(refine⟨?_,?_,?_⟩<;>first|omega|(show _<_;(try simp only[List.length_set]);omega)|exact leT rfl))|(refine⟨?_,?_⟩<;>omega)|(refine⟨?_,?_,?_⟩<;>first|omega|(show _<_;(try simp only[List.length_set]);omega)|exact leT rfl)|(simp only[show rI.d=(0:Int)from rfl];omega));done));(conv=>whnf))))
  refine EvCall.rows (R := rI) (ty := 3) (xs := joinL xs ys) Try.call51 (fun ρ W hp => hjoin_s _ _ xs ys W (hp.rowsIn (R := rI) (n := 5) (c := kx) rfl (by decide) x1 x2 1) (hp.rowsIn (R := rI) (n := 6) (c := ky) rfl (by decide) y1 y2 1) (by omega)) (fun kp p1 p2 => ?_)
  ((conv=>whnf);(repeat(refine And.intro ?_ ?_;(focus((first|omega|exact⟨rfl,True.intro⟩|exact⟨rfl,rfl,True.intro⟩|rfl|(simp only[List.length_set];first|omega|(refine⟨?_,?_⟩<;>omega)|(refine⟨?_,?_,?_⟩<;>omega))|(intro hg;(try simp only[bB]at hg);first|omega|(refine⟨?_,?_⟩<;>omega)|(refine⟨?_,?_,?_⟩<;>first|omega|(show _<_;(try simp only[List.length_set]);omega)|exact leT rfl))|(refine⟨?_,?_⟩<;>omega)|(refine⟨?_,?_,?_⟩<;>first|omega|(show _<_;(try simp only[List.length_set]);omega)|exact leT rfl)|(simp only[show rI.d=(0:Int)from rfl];omega));done));(conv=>whnf))))
  refine EvCall.rows (R := rI) (ty := 3) (xs := meetL xs ys) Try.call53 (fun ρ W hp => hmeet_s _ _ xs ys W (hp.rowsIn (R := rI) (n := 5) (c := kx) rfl (by decide) x1 x2 1) (hp.rowsIn (R := rI) (n := 6) (c := ky) rfl (by decide) y1 y2 1) (by omega)) (fun kq q1 q2 => ?_)
  have hjl := joinL_len xs ys
  have hml := meetL_len xs ys
  have hjg := fun i (h : i < min xs.length ys.length) => joinL_get h
  have hmg := fun i (h : i < min xs.length ys.length) => meetL_get h
  generalize joinL xs ys = ps at *
  generalize meetL xs ys = qs at *
  ((conv=>whnf);(repeat(refine And.intro ?_ ?_;(focus((first|omega|exact⟨rfl,True.intro⟩|exact⟨rfl,rfl,True.intro⟩|rfl|(simp only[List.length_set];first|omega|(refine⟨?_,?_⟩<;>omega)|(refine⟨?_,?_,?_⟩<;>omega))|(intro hg;(try simp only[bB]at hg);first|omega|(refine⟨?_,?_⟩<;>omega)|(refine⟨?_,?_,?_⟩<;>first|omega|(show _<_;(try simp only[List.length_set]);omega)|exact leT rfl))|(refine⟨?_,?_⟩<;>omega)|(refine⟨?_,?_,?_⟩<;>first|omega|(show _<_;(try simp only[List.length_set]);omega)|exact leT rfl)|(simp only[show rI.d=(0:Int)from rfl];omega));done));(conv=>whnf))))
  refine EvIf.neg (by simp; omega) ?_
  ((conv=>whnf);(repeat(refine And.intro ?_ ?_;(focus((first|omega|exact⟨rfl,True.intro⟩|exact⟨rfl,rfl,True.intro⟩|rfl|(simp only[List.length_set];first|omega|(refine⟨?_,?_⟩<;>omega)|(refine⟨?_,?_,?_⟩<;>omega))|(intro hg;(try simp only[bB]at hg);first|omega|(refine⟨?_,?_⟩<;>omega)|(refine⟨?_,?_,?_⟩<;>first|omega|(show _<_;(try simp only[List.length_set]);omega)|exact leT rfl))|(refine⟨?_,?_⟩<;>omega)|(refine⟨?_,?_,?_⟩<;>first|omega|(show _<_;(try simp only[List.length_set]);omega)|exact leT rfl)|(simp only[show rI.d=(0:Int)from rfl];omega));done));(conv=>whnf))))
  refine EvLoop.inv (α := Nat) (fun i => i ≤ ps.length) (fun i => ps.length - i) (fun i => [(21, [], .v (.int .i64 ((i : Int)))), (17, [], .s 5 1 xs.length kx), (18, [], .s 6 1 ys.length ky), (19, [], .s 7 1 ps.length kp), (20, [], .s 8 1 qs.length kq), (0, [], .s 0 1 zs.length c1), (1, [], .s 1 1 ms.length c2), (2, [], .s 2 1 ks.length c3), (3, [], .v (.bool (b))), (4, [], .v (.int .i64 (seed))), (5, [], .v (.int .i64 (other)))])
    (fun i => [⟨8, true, 3, 1, kq, .rows Int rI (qs)⟩, ⟨7, true, 3, 1, kp, .rows Int rI (ps)⟩, ⟨6, true, 3, 1, ky, .rows Int rI (ys)⟩, ⟨5, true, 3, 1, kx, .rows Int rI (xs)⟩, ⟨2, false, 3, 1, c3, .rows Int rI (ks)⟩, ⟨1, false, 3, 1, c2, .rows Int rI (ms)⟩, ⟨0, false, 3, 1, c1, .rows Int rI (zs)⟩]) 9 0 (by omega) (Sub.of [] [] rfl ?_) ?_
  · ((repeat' (refine And.intro ?_ ?_)) <;> first | rfl | exact True.intro | omega)
  intro i hi
  ((conv=>whnf);(repeat(refine And.intro ?_ ?_;(focus((first|omega|exact⟨rfl,True.intro⟩|exact⟨rfl,rfl,True.intro⟩|rfl|(simp only[List.length_set];first|omega|(refine⟨?_,?_⟩<;>omega)|(refine⟨?_,?_,?_⟩<;>omega))|(intro hg;(try simp only[bB]at hg);first|omega|(refine⟨?_,?_⟩<;>omega)|(refine⟨?_,?_,?_⟩<;>first|omega|(show _<_;(try simp only[List.length_set]);omega)|exact leT rfl))|(refine⟨?_,?_⟩<;>omega)|(refine⟨?_,?_,?_⟩<;>first|omega|(show _<_;(try simp only[List.length_set]);omega)|exact leT rfl)|(simp only[show rI.d=(0:Int)from rfl];omega));done));(conv=>whnf))))
  refine EvIf.split (fun g => ?_) (fun g => ?_)
  · simp only [decide_eq_true_eq] at g
    have hj := hjg i (by omega)
    have hm := hmg i (by omega)
    have hj' : ps.getD (i : Int).toNat rI.d = max (xs.getD (i : Int).toNat rI.d) (ys.getD (i : Int).toNat rI.d) := hj
    have hm' : qs.getD (i : Int).toNat rI.d = min (xs.getD (i : Int).toNat rI.d) (ys.getD (i : Int).toNat rI.d) := hm
    ((conv=>whnf);(repeat(refine And.intro ?_ ?_;(focus((first|omega|exact⟨rfl,True.intro⟩|exact⟨rfl,rfl,True.intro⟩|rfl|(simp only[List.length_set];first|omega|(refine⟨?_,?_⟩<;>omega)|(refine⟨?_,?_,?_⟩<;>omega))|(intro hg;(try simp only[bB]at hg);first|omega|(refine⟨?_,?_⟩<;>omega)|(refine⟨?_,?_,?_⟩<;>first|omega|(show _<_;(try simp only[List.length_set]);omega)|exact leT rfl))|(refine⟨?_,?_⟩<;>omega)|(refine⟨?_,?_,?_⟩<;>first|omega|(show _<_;(try simp only[List.length_set]);omega)|exact leT rfl)|(simp only[show rI.d=(0:Int)from rfl];omega));done));(conv=>whnf))))
    (refine EvDraw.one (.q 0 (.q 1 (.q 2 (.q 3 (.q 4 (.q 5 (.q 6 (.q 7 (.q 8 (.q 9 (.q 10 (.q 11 (.q 12 (.q 13 (.q 14 (.q 15 (.q 16 (.q 17 (.q 18 (.q 19 (.q 20 (.q 21 (.q 22 (.q 23 (.q 24 (.q 25 (.q 26 (.q 27 (.q 28 (.q 29 (.z))))))))))))))))))))))))))))))) (by kernel_rfl) ?_)
    ((conv=>whnf);(repeat(refine And.intro ?_ ?_;(focus((first|omega|exact⟨rfl,True.intro⟩|exact⟨rfl,rfl,True.intro⟩|rfl|(simp only[List.length_set];first|omega|(refine⟨?_,?_⟩<;>omega)|(refine⟨?_,?_,?_⟩<;>omega))|(intro hg;(try simp only[bB]at hg);first|omega|(refine⟨?_,?_⟩<;>omega)|(refine⟨?_,?_,?_⟩<;>first|omega|(show _<_;(try simp only[List.length_set]);omega)|exact leT rfl))|(refine⟨?_,?_⟩<;>omega)|(refine⟨?_,?_,?_⟩<;>first|omega|(show _<_;(try simp only[List.length_set]);omega)|exact leT rfl)|(simp only[show rI.d=(0:Int)from rfl];omega));done));(conv=>whnf))))
    refine EvIf.neg (by rw [hj', hm']; simp) ?_
    ((conv=>whnf);(repeat(refine And.intro ?_ ?_;(focus((first|omega|exact⟨rfl,True.intro⟩|exact⟨rfl,rfl,True.intro⟩|rfl|(simp only[List.length_set];first|omega|(refine⟨?_,?_⟩<;>omega)|(refine⟨?_,?_,?_⟩<;>omega))|(intro hg;(try simp only[bB]at hg);first|omega|(refine⟨?_,?_⟩<;>omega)|(refine⟨?_,?_,?_⟩<;>first|omega|(show _<_;(try simp only[List.length_set]);omega)|exact leT rfl))|(refine⟨?_,?_⟩<;>omega)|(refine⟨?_,?_,?_⟩<;>first|omega|(show _<_;(try simp only[List.length_set]);omega)|exact leT rfl)|(simp only[show rI.d=(0:Int)from rfl];omega));done));(conv=>whnf))))
    refine LoopI.back (i + 1) (by omega) (by omega) (Sub.of [] [] rfl ?_)
    ((repeat' (refine And.intro ?_ ?_)) <;> first | rfl | exact True.intro | omega)
  ((conv=>whnf);(repeat(refine And.intro ?_ ?_;(focus((first|omega|exact⟨rfl,True.intro⟩|exact⟨rfl,rfl,True.intro⟩|rfl|(simp only[List.length_set];first|omega|(refine⟨?_,?_⟩<;>omega)|(refine⟨?_,?_,?_⟩<;>omega))|(intro hg;(try simp only[bB]at hg);first|omega|(refine⟨?_,?_⟩<;>omega)|(refine⟨?_,?_,?_⟩<;>first|omega|(show _<_;(try simp only[List.length_set]);omega)|exact leT rfl))|(refine⟨?_,?_⟩<;>omega)|(refine⟨?_,?_,?_⟩<;>first|omega|(show _<_;(try simp only[List.length_set]);omega)|exact leT rfl)|(simp only[show rI.d=(0:Int)from rfl];omega));done));(conv=>whnf))))
  refine EvCall.decl Try.call15 (fun ρ W hp => decl_s _ zs W (hp.ints (n := 0) rfl e1 e2 h1.2)) (fun nm l c6 hnm hl hc1 hc2 => ?_)
  generalize declOf zs = d at hT hI hvc ⊢
  have hbd := valid_bounds hvc
  have hlv := some_valid d ms ks b hT
  have hsl := someL_len5 d ms ks b
  ((conv=>whnf);(repeat(refine And.intro ?_ ?_;(focus((first|omega|exact⟨rfl,True.intro⟩|exact⟨rfl,rfl,True.intro⟩|rfl|(simp only[List.length_set];first|omega|(refine⟨?_,?_⟩<;>omega)|(refine⟨?_,?_,?_⟩<;>omega))|(intro hg;(try simp only[bB]at hg);first|omega|(refine⟨?_,?_⟩<;>omega)|(refine⟨?_,?_,?_⟩<;>first|omega|(show _<_;(try simp only[List.length_set]);omega)|exact leT rfl))|(refine⟨?_,?_⟩<;>omega)|(refine⟨?_,?_,?_⟩<;>first|omega|(show _<_;(try simp only[List.length_set]);omega)|exact leT rfl)|(simp only[show rI.d=(0:Int)from rfl];omega));done));(conv=>whnf))))
  refine EvCall.rows (R := rC) (ty := 52) (xs := someL d ms ks b) Try.call16 (fun ρ W hp => some_s nm _ _ _ d _ _ ms ks b W hT (hp.ints (n := 1) rfl e3 e4 h2.2) (hp.ints (n := 2) rfl e5 e6 h3.2)) (fun cap hc3 hc4 => ?_)
  generalize someL d ms ks b = sm at hc3 hlv hsl ⊢
  have hsp : (spanN d : Int) = d.last - d.first + 1 := by unfold spanN; omega
  ((conv=>whnf);(repeat(refine And.intro ?_ ?_;(focus((first|omega|exact⟨rfl,True.intro⟩|exact⟨rfl,rfl,True.intro⟩|rfl|(simp only[List.length_set];first|omega|(refine⟨?_,?_⟩<;>omega)|(refine⟨?_,?_,?_⟩<;>omega))|(intro hg;(try simp only[bB]at hg);first|omega|(refine⟨?_,?_⟩<;>omega)|(refine⟨?_,?_,?_⟩<;>first|omega|(show _<_;(try simp only[List.length_set]);omega)|exact leT rfl))|(refine⟨?_,?_⟩<;>omega)|(refine⟨?_,?_,?_⟩<;>first|omega|(show _<_;(try simp only[List.length_set]);omega)|exact leT rfl)|(simp only[show rI.d=(0:Int)from rfl];omega));done));(conv=>whnf))))
  rcases two_ok hvc (show sm.length ≤ 4096 by omega) hlv with ⟨hok, hN⟩ | ⟨hno, hN⟩
  · have hr1 : ∀ sd, rdR d sm sd = (rndL d (fun i => (rLoL d sm (spanN d)).getD i 0) (fun i => (rHiL d sm (spanN d)).getD i 0) (rdG d sd) (spanN d), 0) := fun sd => by rw [rdR, hN, if_neg (by simp)]
    have hRa := (rnd_hist (rdG d seed) hvc hlv hsp hok).1
    have hRb := (rnd_hist (rdG d other) hvc hlv hsp hok).1
    have hra := hr1 seed
    have hrb := hr1 other
    have hla := rndL_len d (fun i => (rLoL d sm (spanN d)).getD i 0) (fun i => (rHiL d sm (spanN d)).getD i 0) (rdG d seed) (spanN d)
    generalize rndL d (fun i => (rLoL d sm (spanN d)).getD i 0) (fun i => (rHiL d sm (spanN d)).getD i 0) (rdG d seed) (spanN d) = ra at hra hRa hla
    generalize rndL d (fun i => (rLoL d sm (spanN d)).getD i 0) (fun i => (rHiL d sm (spanN d)).getD i 0) (rdG d other) (spanN d) = rb at hrb hRb
    obtain ⟨hJ, hM⟩ := join_meet hvc hlv hRa hRb
    refine EvCall.rowsE (R := rI) (ty := 3) (xs := ra) (z := 0) Try.call44 (fun ρ W hp => by
      have := hrandom_s _ _ d sm seed W (hp.decl (n := 9) (d := d) hnm hl hc1 hc2 rfl) hI hvc (by omega) hlv (hp.rowsIn (R := rC) (n := 11) (c := cap) rfl (by decide) hc3 hc4 4)
      rw [hra] at this
      exact this) (fun ka a1 a2 => ?_)
    ((conv=>whnf);(repeat(refine And.intro ?_ ?_;(focus((first|omega|exact⟨rfl,True.intro⟩|exact⟨rfl,rfl,True.intro⟩|rfl|(simp only[List.length_set];first|omega|(refine⟨?_,?_⟩<;>omega)|(refine⟨?_,?_,?_⟩<;>omega))|(intro hg;(try simp only[bB]at hg);first|omega|(refine⟨?_,?_⟩<;>omega)|(refine⟨?_,?_,?_⟩<;>first|omega|(show _<_;(try simp only[List.length_set]);omega)|exact leT rfl))|(refine⟨?_,?_⟩<;>omega)|(refine⟨?_,?_,?_⟩<;>first|omega|(show _<_;(try simp only[List.length_set]);omega)|exact leT rfl)|(simp only[show rI.d=(0:Int)from rfl];omega));done));(conv=>whnf))))
    refine EvCall.rowsE (R := rI) (ty := 3) (xs := rb) (z := 0) Try.call44 (fun ρ W hp => by
      have := hrandom_s _ _ d sm other W (hp.decl (n := 9) (d := d) hnm hl hc1 hc2 rfl) hI hvc (by omega) hlv (hp.rowsIn (R := rC) (n := 11) (c := cap) rfl (by decide) hc3 hc4 4)
      rw [hrb] at this
      exact this) (fun kb b1 b2 => ?_)
    ((conv=>whnf);(repeat(refine And.intro ?_ ?_;(focus((first|omega|exact⟨rfl,True.intro⟩|exact⟨rfl,rfl,True.intro⟩|rfl|(simp only[List.length_set];first|omega|(refine⟨?_,?_⟩<;>omega)|(refine⟨?_,?_,?_⟩<;>omega))|(intro hg;(try simp only[bB]at hg);first|omega|(refine⟨?_,?_⟩<;>omega)|(refine⟨?_,?_,?_⟩<;>first|omega|(show _<_;(try simp only[List.length_set]);omega)|exact leT rfl))|(refine⟨?_,?_⟩<;>omega)|(refine⟨?_,?_,?_⟩<;>first|omega|(show _<_;(try simp only[List.length_set]);omega)|exact leT rfl)|(simp only[show rI.d=(0:Int)from rfl];omega));done));(conv=>whnf))))
    refine EvIf.neg rfl ?_
    ((conv=>whnf);(repeat(refine And.intro ?_ ?_;(focus((first|omega|exact⟨rfl,True.intro⟩|exact⟨rfl,rfl,True.intro⟩|rfl|(simp only[List.length_set];first|omega|(refine⟨?_,?_⟩<;>omega)|(refine⟨?_,?_,?_⟩<;>omega))|(intro hg;(try simp only[bB]at hg);first|omega|(refine⟨?_,?_⟩<;>omega)|(refine⟨?_,?_,?_⟩<;>first|omega|(show _<_;(try simp only[List.length_set]);omega)|exact leT rfl))|(refine⟨?_,?_⟩<;>omega)|(refine⟨?_,?_,?_⟩<;>first|omega|(show _<_;(try simp only[List.length_set]);omega)|exact leT rfl)|(simp only[show rI.d=(0:Int)from rfl];omega));done));(conv=>whnf))))
    (refine EvDraw.one (.q 0 (.q 1 (.q 2 (.q 3 (.n 4 false (.n 5 true (.q 6 (.q 7 (.q 8 (.q 9 (.q 10 (.n 11 false (.n 12 true (.q 13 (.q 14 (.n 15 true (.q 16 (.q 17 (.z))) (.e)))) (.e)) (.e))))))) (.e)) (.e)))))) (by kernel_rfl) ?_)
    ((conv=>whnf);(repeat(refine And.intro ?_ ?_;(focus((first|omega|exact⟨rfl,True.intro⟩|exact⟨rfl,rfl,True.intro⟩|rfl|(simp only[List.length_set];first|omega|(refine⟨?_,?_⟩<;>omega)|(refine⟨?_,?_,?_⟩<;>omega))|(intro hg;(try simp only[bB]at hg);first|omega|(refine⟨?_,?_⟩<;>omega)|(refine⟨?_,?_,?_⟩<;>first|omega|(show _<_;(try simp only[List.length_set]);omega)|exact leT rfl))|(refine⟨?_,?_⟩<;>omega)|(refine⟨?_,?_,?_⟩<;>first|omega|(show _<_;(try simp only[List.length_set]);omega)|exact leT rfl)|(simp only[show rI.d=(0:Int)from rfl];omega));done));(conv=>whnf))))
    refine EvCall.rows (R := rI) (ty := 3) (xs := joinL ra rb) Try.call51 (fun ρ W hp => hjoin_s _ _ ra rb W (hp.rowsIn (R := rI) (n := 12) (c := ka) rfl (by decide) a1 a2 1) (hp.rowsIn (R := rI) (n := 13) (c := kb) rfl (by decide) b1 b2 1) (by omega)) (fun kj j1 j2 => ?_)
    ((conv=>whnf);(repeat(refine And.intro ?_ ?_;(focus((first|omega|exact⟨rfl,True.intro⟩|exact⟨rfl,rfl,True.intro⟩|rfl|(simp only[List.length_set];first|omega|(refine⟨?_,?_⟩<;>omega)|(refine⟨?_,?_,?_⟩<;>omega))|(intro hg;(try simp only[bB]at hg);first|omega|(refine⟨?_,?_⟩<;>omega)|(refine⟨?_,?_,?_⟩<;>first|omega|(show _<_;(try simp only[List.length_set]);omega)|exact leT rfl))|(refine⟨?_,?_⟩<;>omega)|(refine⟨?_,?_,?_⟩<;>first|omega|(show _<_;(try simp only[List.length_set]);omega)|exact leT rfl)|(simp only[show rI.d=(0:Int)from rfl];omega));done));(conv=>whnf))))
    refine EvCall.plain Try.call41 (.v (.bool true)) rfl (fun ρ W hp => by
      have := hagrees_s _ _ _ d sm (joinL ra rb) W (hp.decl (n := 9) (d := d) hnm hl hc1 hc2 rfl) hI (hp.rowsIn (R := rC) (n := 11) (c := cap) rfl (by decide) hc3 hc4 4) (hp.rowsIn (R := rI) (n := 14) (c := kj) rfl (by decide) j1 j2 1) (hist_bd5 hvc hJ)
      rw [agB_t.2 ⟨hvc, by omega, hJ⟩] at this
      exact this) ?_
    ((conv=>whnf);(repeat(refine And.intro ?_ ?_;(focus((first|omega|exact⟨rfl,True.intro⟩|exact⟨rfl,rfl,True.intro⟩|rfl|(simp only[List.length_set];first|omega|(refine⟨?_,?_⟩<;>omega)|(refine⟨?_,?_,?_⟩<;>omega))|(intro hg;(try simp only[bB]at hg);first|omega|(refine⟨?_,?_⟩<;>omega)|(refine⟨?_,?_,?_⟩<;>first|omega|(show _<_;(try simp only[List.length_set]);omega)|exact leT rfl))|(refine⟨?_,?_⟩<;>omega)|(refine⟨?_,?_,?_⟩<;>first|omega|(show _<_;(try simp only[List.length_set]);omega)|exact leT rfl)|(simp only[show rI.d=(0:Int)from rfl];omega));done));(conv=>whnf))))
    refine EvCallC.on rfl ?_
    refine EvCall.rows (R := rI) (ty := 3) (xs := meetL ra rb) Try.call53 (fun ρ W hp => hmeet_s _ _ ra rb W (hp.rowsIn (R := rI) (n := 12) (c := ka) rfl (by decide) a1 a2 1) (hp.rowsIn (R := rI) (n := 13) (c := kb) rfl (by decide) b1 b2 1) (by omega)) (fun km m1 m2 => ?_)
    ((conv=>whnf);(repeat(refine And.intro ?_ ?_;(focus((first|omega|exact⟨rfl,True.intro⟩|exact⟨rfl,rfl,True.intro⟩|rfl|(simp only[List.length_set];first|omega|(refine⟨?_,?_⟩<;>omega)|(refine⟨?_,?_,?_⟩<;>omega))|(intro hg;(try simp only[bB]at hg);first|omega|(refine⟨?_,?_⟩<;>omega)|(refine⟨?_,?_,?_⟩<;>first|omega|(show _<_;(try simp only[List.length_set]);omega)|exact leT rfl))|(refine⟨?_,?_⟩<;>omega)|(refine⟨?_,?_,?_⟩<;>first|omega|(show _<_;(try simp only[List.length_set]);omega)|exact leT rfl)|(simp only[show rI.d=(0:Int)from rfl];omega));done));(conv=>whnf))))
    refine EvCallC.plain Try.call41 (.v (.bool true)) rfl (fun _ ρ W hp => by
      have := hagrees_s _ _ _ d sm (meetL ra rb) W (hp.decl (n := 9) (d := d) hnm hl hc1 hc2 rfl) hI (hp.rowsIn (R := rC) (n := 11) (c := cap) rfl (by decide) hc3 hc4 4) (hp.rowsIn (R := rI) (n := 15) (c := km) rfl (by decide) m1 m2 1) (hist_bd5 hvc hM)
      rw [agB_t.2 ⟨hvc, by omega, hM⟩] at this
      exact this) ?_
    ((conv=>whnf);(repeat(refine And.intro ?_ ?_;(focus((first|omega|exact⟨rfl,True.intro⟩|exact⟨rfl,rfl,True.intro⟩|rfl|(simp only[List.length_set];first|omega|(refine⟨?_,?_⟩<;>omega)|(refine⟨?_,?_,?_⟩<;>omega))|(intro hg;(try simp only[bB]at hg);first|omega|(refine⟨?_,?_⟩<;>omega)|(refine⟨?_,?_,?_⟩<;>first|omega|(show _<_;(try simp only[List.length_set]);omega)|exact leT rfl))|(refine⟨?_,?_⟩<;>omega)|(refine⟨?_,?_,?_⟩<;>first|omega|(show _<_;(try simp only[List.length_set]);omega)|exact leT rfl)|(simp only[show rI.d=(0:Int)from rfl];omega));done));(conv=>whnf))))
    refine EvCallC.plain Try.call38 (.v (.bool true)) rfl (fun _ ρ W hp => lives13_s W) ?_
    ((conv=>whnf);(repeat(refine And.intro ?_ ?_;(focus((first|omega|exact⟨rfl,True.intro⟩|exact⟨rfl,rfl,True.intro⟩|rfl|(simp only[List.length_set];first|omega|(refine⟨?_,?_⟩<;>omega)|(refine⟨?_,?_,?_⟩<;>omega))|(intro hg;(try simp only[bB]at hg);first|omega|(refine⟨?_,?_⟩<;>omega)|(refine⟨?_,?_,?_⟩<;>first|omega|(show _<_;(try simp only[List.length_set]);omega)|exact leT rfl))|(refine⟨?_,?_⟩<;>omega)|(refine⟨?_,?_,?_⟩<;>first|omega|(show _<_;(try simp only[List.length_set]);omega)|exact leT rfl)|(simp only[show rI.d=(0:Int)from rfl];omega));done));(conv=>whnf))))
    exact EvRet.ret (fun ρ => rfl)
  · have hr1 : ∀ sd, rdR d sm sd = ([], 13) := fun sd => by rw [rdR, hN, if_pos (by simp)]
    refine EvCall.rowsE (R := rI) (ty := 3) (xs := []) (z := 13) Try.call44 (fun ρ W hp => by
      have := hrandom_s _ _ d sm seed W (hp.decl (n := 9) (d := d) hnm hl hc1 hc2 rfl) hI hvc (by omega) hlv (hp.rowsIn (R := rC) (n := 11) (c := cap) rfl (by decide) hc3 hc4 4)
      rw [hr1] at this
      exact this) (fun ka a1 a2 => ?_)
    ((conv=>whnf);(repeat(refine And.intro ?_ ?_;(focus((first|omega|exact⟨rfl,True.intro⟩|exact⟨rfl,rfl,True.intro⟩|rfl|(simp only[List.length_set];first|omega|(refine⟨?_,?_⟩<;>omega)|(refine⟨?_,?_,?_⟩<;>omega))|(intro hg;(try simp only[bB]at hg);first|omega|(refine⟨?_,?_⟩<;>omega)|(refine⟨?_,?_,?_⟩<;>first|omega|(show _<_;(try simp only[List.length_set]);omega)|exact leT rfl))|(refine⟨?_,?_⟩<;>omega)|(refine⟨?_,?_,?_⟩<;>first|omega|(show _<_;(try simp only[List.length_set]);omega)|exact leT rfl)|(simp only[show rI.d=(0:Int)from rfl];omega));done));(conv=>whnf))))
    refine EvCall.rowsE (R := rI) (ty := 3) (xs := []) (z := 13) Try.call44 (fun ρ W hp => by
      have := hrandom_s _ _ d sm other W (hp.decl (n := 9) (d := d) hnm hl hc1 hc2 rfl) hI hvc (by omega) hlv (hp.rowsIn (R := rC) (n := 11) (c := cap) rfl (by decide) hc3 hc4 4)
      rw [hr1] at this
      exact this) (fun kb b1 b2 => ?_)
    ((conv=>whnf);(repeat(refine And.intro ?_ ?_;(focus((first|omega|exact⟨rfl,True.intro⟩|exact⟨rfl,rfl,True.intro⟩|rfl|(simp only[List.length_set];first|omega|(refine⟨?_,?_⟩<;>omega)|(refine⟨?_,?_,?_⟩<;>omega))|(intro hg;(try simp only[bB]at hg);first|omega|(refine⟨?_,?_⟩<;>omega)|(refine⟨?_,?_,?_⟩<;>first|omega|(show _<_;(try simp only[List.length_set]);omega)|exact leT rfl))|(refine⟨?_,?_⟩<;>omega)|(refine⟨?_,?_,?_⟩<;>first|omega|(show _<_;(try simp only[List.length_set]);omega)|exact leT rfl)|(simp only[show rI.d=(0:Int)from rfl];omega));done));(conv=>whnf))))
    refine EvIf.pos rfl ?_
    ((conv=>whnf);(repeat(refine And.intro ?_ ?_;(focus((first|omega|exact⟨rfl,True.intro⟩|exact⟨rfl,rfl,True.intro⟩|rfl|(simp only[List.length_set];first|omega|(refine⟨?_,?_⟩<;>omega)|(refine⟨?_,?_,?_⟩<;>omega))|(intro hg;(try simp only[bB]at hg);first|omega|(refine⟨?_,?_⟩<;>omega)|(refine⟨?_,?_,?_⟩<;>first|omega|(show _<_;(try simp only[List.length_set]);omega)|exact leT rfl))|(refine⟨?_,?_⟩<;>omega)|(refine⟨?_,?_,?_⟩<;>first|omega|(show _<_;(try simp only[List.length_set]);omega)|exact leT rfl)|(simp only[show rI.d=(0:Int)from rfl];omega));done));(conv=>whnf))))
    refine EvCallC.plain Try.call38 (.v (.bool true)) rfl (fun _ ρ W hp => lives13_s W) ?_
    ((conv=>whnf);(repeat(refine And.intro ?_ ?_;(focus((first|omega|exact⟨rfl,True.intro⟩|exact⟨rfl,rfl,True.intro⟩|rfl|(simp only[List.length_set];first|omega|(refine⟨?_,?_⟩<;>omega)|(refine⟨?_,?_,?_⟩<;>omega))|(intro hg;(try simp only[bB]at hg);first|omega|(refine⟨?_,?_⟩<;>omega)|(refine⟨?_,?_,?_⟩<;>first|omega|(show _<_;(try simp only[List.length_set]);omega)|exact leT rfl))|(refine⟨?_,?_⟩<;>omega)|(refine⟨?_,?_,?_⟩<;>first|omega|(show _<_;(try simp only[List.length_set]);omega)|exact leT rfl)|(simp only[show rI.d=(0:Int)from rfl];omega));done));(conv=>whnf))))
    exact EvRet.ret (fun ρ => rfl)
theorem walk_HistoryLattice (w : World) (V0 : Value) (zs : List Int) (h : Ints w V0 zs) (V1 : Value) (ms : List Int) (h2 : Ints w V1 ms) (V2 : Value) (ks : List Int) (h3 : Ints w V2 ks) (b : Bool) (seed : Int) (hsd : I64 seed) (other : Int) (hot : I64 other) (V6 : Value) (us : List Int) (h4 : Ints w V6 us) (V7 : Value) (ws : List Int) (h5 : Ints w V7 ws) :
    Calls Try.prog 12 #[V0, V1, V2, .bool b, .int .i64 seed, .int .i64 other, V6, V7] w fun e w' => e = .returned (.bool true) ∧ Below w.heap.size w w' :=
  (historylattice_s V0 V1 V2 V6 V7 zs ms ks us ws b seed other w h h2 h3 h4 h5).out
end Go.Proofs.Ytnoenmacakbhdaa
