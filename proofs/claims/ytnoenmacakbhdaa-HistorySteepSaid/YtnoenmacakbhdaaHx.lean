
/- The law HistorySteep, walked. -/
import Derived.Test.YtnoenmacakbhdaaHv
namespace Go.Proofs.Ytnoenmacakbhdaa
open Go.RowKit
set_option linter.unusedVariables false
set_option linter.unusedSimpArgs false

set_option maxHeartbeats 1000000 in
set_option maxRecDepth 20000 in
theorem historysteep_s (v1 v2 v3 : Value) (zs ms ks : List Int) (b : Bool) (s t : Int) (down : Bool) (seed : Int) (w : World) (h1 : Ints w v1 zs) (h2 : Ints w v2 ms) (h3 : Ints w v3 ks) (hs : I64 s) (ht : I64 t) :
    Con Try.prog 8 #[v1, v2, v3, .bool b, .int .i64 s, .int .i64 t, .bool down, .int .i64 seed] w (Ret w (.bool true)) := by
  obtain ⟨A1, c1, rfl, e1, e2⟩ := h1.form
  obtain ⟨A2, c2, rfl, e3, e4⟩ := h2.form
  obtain ⟨A3, c3, rfl, e5, e6⟩ := h3.form
  have hT := declOf_T zs
  have hI := declOf_I' zs
  have hvc := declOf_vc zs
  refine enter tabOk mixed Try.func8 rfl Try.ntmps8 Try.results8 [.s 0 1 zs.length c1, .s 1 1 ms.length c2, .s 2 1 ks.length c3, .v (.bool b), .v (.int .i64 s), .v (.int .i64 t), .v (.bool down), .v (.int .i64 seed)] (fun n => if n = 0 then A1 else if n = 1 then A2 else A3) [⟨2, false, 3, 1, c3, .rows Int rI (ks)⟩, ⟨1, false, 3, 1, c2, .rows Int rI (ms)⟩, ⟨0, false, 3, 1, c1, .rows Int rI (zs)⟩] 3 rfl rfl (.ro (.ro (.ro (hp0 _ _ _) _ rfl rfl rfl (ro_ints h1 rfl _)) _ rfl rfl rfl (ro_ints h2 rfl _)) _ rfl rfl rfl (ro_ints h3 rfl _)) ?_
  ((conv=>whnf);(repeat(refine And.intro ?_ ?_;(focus((first|omega|exact⟨rfl,True.intro⟩|exact⟨rfl,rfl,True.intro⟩|rfl|(simp only[List.length_set];first|omega|(refine⟨?_,?_⟩<;>omega)|(refine⟨?_,?_,?_⟩<;>omega))|(intro hg;(try simp only[bB]at hg);first|omega|(refine⟨?_,?_⟩<;>omega)|(refine⟨?_,?_,?_⟩<;>first|omega|(show _<_;(try simp only[List.length_set]);omega)|exact leT rfl))|(refine⟨?_,?_⟩<;>omega)|(refine⟨?_,?_,?_⟩<;>first|omega|(show _<_;(try simp only[List.length_set]);omega)|exact leT rfl)|(simp only[show rI.d=(0:Int)from rfl];omega));done));(conv=>whnf))))
  refine EvCall.decl Try.call15 (fun ρ W hp => decl_s _ zs W (hp.ints (n := 0) rfl e1 e2 h1.2)) (fun nm l c5 hnm hl hc1 hc2 => ?_)
  generalize declOf zs = d at hT hI hvc ⊢
  have hbd := valid_bounds hvc
  have hTT := hT
  obtain ⟨t1, t2, t3⟩ := hTT
  have hlv := some_valid d ms ks b hT
  have hsl := someL_len5 d ms ks b
  ((conv=>whnf);(repeat(refine And.intro ?_ ?_;(focus((first|omega|exact⟨rfl,True.intro⟩|exact⟨rfl,rfl,True.intro⟩|rfl|(simp only[List.length_set];first|omega|(refine⟨?_,?_⟩<;>omega)|(refine⟨?_,?_,?_⟩<;>omega))|(intro hg;(try simp only[bB]at hg);first|omega|(refine⟨?_,?_⟩<;>omega)|(refine⟨?_,?_,?_⟩<;>first|omega|(show _<_;(try simp only[List.length_set]);omega)|exact leT rfl))|(refine⟨?_,?_⟩<;>omega)|(refine⟨?_,?_,?_⟩<;>first|omega|(show _<_;(try simp only[List.length_set]);omega)|exact leT rfl)|(simp only[show rI.d=(0:Int)from rfl];omega));done));(conv=>whnf))))
  refine EvCall.rows (R := rC) (ty := 52) (xs := someL d ms ks b) Try.call16 (fun ρ W hp => some_s nm _ _ _ d _ _ ms ks b W hT (hp.ints (n := 1) rfl e3 e4 h2.2) (hp.ints (n := 2) rfl e5 e6 h3.2)) (fun cap hc3 hc4 => ?_)
  generalize someL d ms ks b = sm at hc3 hlv hsl ⊢
  have hsp : (spanN d : Int) = d.last - d.first + 1 := by unfold spanN; omega
  have hl1 := rLoL_len d sm (spanN d)
  have hl2 := rHiL_len d sm (spanN d)
  have a1 := arnd_nn s (d.last - d.first + 3) (by omega)
  have a2 := arnd_lt s (d.last - d.first + 3) (by omega)
  have a3 := arnd_nn t (d.last - d.first + 1) (by omega)
  have a4 := arnd_lt t (d.last - d.first + 1) (by omega)
  ((conv=>whnf);(repeat(refine And.intro ?_ ?_;(focus((first|omega|exact⟨rfl,True.intro⟩|exact⟨rfl,rfl,True.intro⟩|rfl|(simp only[List.length_set];first|omega|(refine⟨?_,?_⟩<;>omega)|(refine⟨?_,?_,?_⟩<;>omega))|(intro hg;(try simp only[bB]at hg);first|omega|(refine⟨?_,?_⟩<;>omega)|(refine⟨?_,?_,?_⟩<;>first|omega|(show _<_;(try simp only[List.length_set]);omega)|exact leT rfl))|(refine⟨?_,?_⟩<;>omega)|(refine⟨?_,?_,?_⟩<;>first|omega|(show _<_;(try simp only[List.length_set]);omega)|exact leT rfl)|(simp only[show rI.d=(0:Int)from rfl];omega));done));(conv=>whnf))))
  (refine EvDraw.one (.q 0 (.q 1 (.q 2 (.q 3 (.q 4 (.q 5 (.q 6 (.q 7 (.q 8 (.n 9 false (.q 10 (.q 11 (.q 12 (.z)))) (.e))))))))))) (by kernel_rfl) ?_)
  ((conv=>whnf);(repeat(refine And.intro ?_ ?_;(focus((first|omega|exact⟨rfl,True.intro⟩|exact⟨rfl,rfl,True.intro⟩|rfl|(simp only[List.length_set];first|omega|(refine⟨?_,?_⟩<;>omega)|(refine⟨?_,?_,?_⟩<;>omega))|(intro hg;(try simp only[bB]at hg);first|omega|(refine⟨?_,?_⟩<;>omega)|(refine⟨?_,?_,?_⟩<;>first|omega|(show _<_;(try simp only[List.length_set]);omega)|exact leT rfl))|(refine⟨?_,?_⟩<;>omega)|(refine⟨?_,?_,?_⟩<;>first|omega|(show _<_;(try simp only[List.length_set]);omega)|exact leT rfl)|(simp only[show rI.d=(0:Int)from rfl];omega));done));(conv=>whnf))))
  refine EvCall.plain Try.call19 (.v (.int .i64 (arnd s (d.last - d.first + 3)))) rfl (fun ρ W hp => around_s _ _ W hs (by omega) (by omega)) ?_
  generalize arnd s (d.last - d.first + 3) = x0 at a1 a2 ⊢
  ((conv=>whnf);(repeat(refine And.intro ?_ ?_;(focus((first|omega|exact⟨rfl,True.intro⟩|exact⟨rfl,rfl,True.intro⟩|rfl|(simp only[List.length_set];first|omega|(refine⟨?_,?_⟩<;>omega)|(refine⟨?_,?_,?_⟩<;>omega))|(intro hg;(try simp only[bB]at hg);first|omega|(refine⟨?_,?_⟩<;>omega)|(refine⟨?_,?_,?_⟩<;>first|omega|(show _<_;(try simp only[List.length_set]);omega)|exact leT rfl))|(refine⟨?_,?_⟩<;>omega)|(refine⟨?_,?_,?_⟩<;>first|omega|(show _<_;(try simp only[List.length_set]);omega)|exact leT rfl)|(simp only[show rI.d=(0:Int)from rfl];omega));done));(conv=>whnf))))
  (refine EvDraw.one (.q 0 (.q 1 (.q 2 (.q 3 (.q 4 (.q 5 (.q 6 (.q 7 (.q 8 (.n 9 false (.q 10 (.q 11 (.z))) (.e))))))))))) (by kernel_rfl) ?_)
  ((conv=>whnf);(repeat(refine And.intro ?_ ?_;(focus((first|omega|exact⟨rfl,True.intro⟩|exact⟨rfl,rfl,True.intro⟩|rfl|(simp only[List.length_set];first|omega|(refine⟨?_,?_⟩<;>omega)|(refine⟨?_,?_,?_⟩<;>omega))|(intro hg;(try simp only[bB]at hg);first|omega|(refine⟨?_,?_⟩<;>omega)|(refine⟨?_,?_,?_⟩<;>first|omega|(show _<_;(try simp only[List.length_set]);omega)|exact leT rfl))|(refine⟨?_,?_⟩<;>omega)|(refine⟨?_,?_,?_⟩<;>first|omega|(show _<_;(try simp only[List.length_set]);omega)|exact leT rfl)|(simp only[show rI.d=(0:Int)from rfl];omega));done));(conv=>whnf))))
  refine EvCall.plain Try.call19 (.v (.int .i64 (arnd t (d.last - d.first + 1)))) rfl (fun ρ W hp => around_s _ _ W ht (by omega) (by omega)) ?_
  generalize arnd t (d.last - d.first + 1) = y0 at a3 a4 ⊢
  obtain ⟨x, hx⟩ : ∃ x, x = d.first + x0 - 1 := ⟨_, rfl⟩
  obtain ⟨y, hy⟩ : ∃ y, y = d.first + y0 := ⟨_, rfl⟩
  ((conv=>whnf);(repeat(refine And.intro ?_ ?_;(focus((first|omega|exact⟨rfl,True.intro⟩|exact⟨rfl,rfl,True.intro⟩|rfl|(simp only[List.length_set];first|omega|(refine⟨?_,?_⟩<;>omega)|(refine⟨?_,?_,?_⟩<;>omega))|(intro hg;(try simp only[bB]at hg);first|omega|(refine⟨?_,?_⟩<;>omega)|(refine⟨?_,?_,?_⟩<;>first|omega|(show _<_;(try simp only[List.length_set]);omega)|exact leT rfl))|(refine⟨?_,?_⟩<;>omega)|(refine⟨?_,?_,?_⟩<;>first|omega|(show _<_;(try simp only[List.length_set]);omega)|exact leT rfl)|(simp only[show rI.d=(0:Int)from rfl];omega));done));(conv=>whnf))))
  rw [← hx, ← hy]
  rcases two_ok hvc (show sm.length ≤ 4096 by omega) hlv with ⟨hok, hN⟩ | ⟨hno, hN⟩
  · by_cases hin : x < d.first ∨ d.last < x
    · have hst : stR d sm x y down = ([], 9) := by rw [stR, hN, if_neg (by simp), if_pos (.inl hin)]
      refine EvCall.rowsE (R := rI) (ty := 3) (xs := []) (z := 9) Try.call42 (fun ρ W hp => by
        have := hsteep_s _ _ d sm x y down W (hp.decl (n := 3) (d := d) hnm hl hc1 hc2 rfl) hI hvc (by omega) hlv (hp.rowsIn (R := rC) (n := 5) (c := cap) rfl (by decide) hc3 hc4 4) (by omega) (by omega) (by omega)
        rw [hst] at this
        exact this) (fun ka a1 a2 => ?_)
      ((conv=>whnf);(repeat(refine And.intro ?_ ?_;(focus((first|omega|exact⟨rfl,True.intro⟩|exact⟨rfl,rfl,True.intro⟩|rfl|(simp only[List.length_set];first|omega|(refine⟨?_,?_⟩<;>omega)|(refine⟨?_,?_,?_⟩<;>omega))|(intro hg;(try simp only[bB]at hg);first|omega|(refine⟨?_,?_⟩<;>omega)|(refine⟨?_,?_,?_⟩<;>first|omega|(show _<_;(try simp only[List.length_set]);omega)|exact leT rfl))|(refine⟨?_,?_⟩<;>omega)|(refine⟨?_,?_,?_⟩<;>first|omega|(show _<_;(try simp only[List.length_set]);omega)|exact leT rfl)|(simp only[show rI.d=(0:Int)from rfl];omega));done));(conv=>whnf))))
      refine EvCall.rowsE (R := rI) (ty := 3) (xs := []) (z := 9) Try.call43 (fun ρ W hp => by
        have := ref_steep_s _ _ d sm x y down W (hp.decl (n := 3) (d := d) hnm hl hc1 hc2 rfl) hI hvc (by omega) hlv (hp.rowsIn (R := rC) (n := 5) (c := cap) rfl (by decide) hc3 hc4 4) (by omega) (by omega)
        rw [hst] at this
        exact this) (fun kb b1 b2 => ?_)
      ((conv=>whnf);(repeat(refine And.intro ?_ ?_;(focus((first|omega|exact⟨rfl,True.intro⟩|exact⟨rfl,rfl,True.intro⟩|rfl|(simp only[List.length_set];first|omega|(refine⟨?_,?_⟩<;>omega)|(refine⟨?_,?_,?_⟩<;>omega))|(intro hg;(try simp only[bB]at hg);first|omega|(refine⟨?_,?_⟩<;>omega)|(refine⟨?_,?_,?_⟩<;>first|omega|(show _<_;(try simp only[List.length_set]);omega)|exact leT rfl))|(refine⟨?_,?_⟩<;>omega)|(refine⟨?_,?_,?_⟩<;>first|omega|(show _<_;(try simp only[List.length_set]);omega)|exact leT rfl)|(simp only[show rI.d=(0:Int)from rfl];omega));done));(conv=>whnf))))
      refine EvCallC.plain Try.call37 (.v (.bool true)) rfl (fun _ ρ W hp => by
        have := sameints_s _ _ (([])) (([])) W (hp.rowsIn (R := rI) (n := 6) (c := ka) rfl (by decide) a1 a2 1) (hp.rowsIn (R := rI) (n := 7) (c := kb) rfl (by decide) b1 b2 1)
        rw [decide_eq_true (show ([]) = ([]) by first | rfl | assumption)] at this
        exact this) ?_
      ((conv=>whnf);(repeat(refine And.intro ?_ ?_;(focus((first|omega|exact⟨rfl,True.intro⟩|exact⟨rfl,rfl,True.intro⟩|rfl|(simp only[List.length_set];first|omega|(refine⟨?_,?_⟩<;>omega)|(refine⟨?_,?_,?_⟩<;>omega))|(intro hg;(try simp only[bB]at hg);first|omega|(refine⟨?_,?_⟩<;>omega)|(refine⟨?_,?_,?_⟩<;>first|omega|(show _<_;(try simp only[List.length_set]);omega)|exact leT rfl))|(refine⟨?_,?_⟩<;>omega)|(refine⟨?_,?_,?_⟩<;>first|omega|(show _<_;(try simp only[List.length_set]);omega)|exact leT rfl)|(simp only[show rI.d=(0:Int)from rfl];omega));done));(conv=>whnf))))
      refine EvIf.neg rfl ?_
      ((conv=>whnf);(repeat(refine And.intro ?_ ?_;(focus((first|omega|exact⟨rfl,True.intro⟩|exact⟨rfl,rfl,True.intro⟩|rfl|(simp only[List.length_set];first|omega|(refine⟨?_,?_⟩<;>omega)|(refine⟨?_,?_,?_⟩<;>omega))|(intro hg;(try simp only[bB]at hg);first|omega|(refine⟨?_,?_⟩<;>omega)|(refine⟨?_,?_,?_⟩<;>first|omega|(show _<_;(try simp only[List.length_set]);omega)|exact leT rfl))|(refine⟨?_,?_⟩<;>omega)|(refine⟨?_,?_,?_⟩<;>first|omega|(show _<_;(try simp only[List.length_set]);omega)|exact leT rfl)|(simp only[show rI.d=(0:Int)from rfl];omega));done));(conv=>whnf))))
      refine EvIf.pos rfl ?_
      ((conv=>whnf);(repeat(refine And.intro ?_ ?_;(focus((first|omega|exact⟨rfl,True.intro⟩|exact⟨rfl,rfl,True.intro⟩|rfl|(simp only[List.length_set];first|omega|(refine⟨?_,?_⟩<;>omega)|(refine⟨?_,?_,?_⟩<;>omega))|(intro hg;(try simp only[bB]at hg);first|omega|(refine⟨?_,?_⟩<;>omega)|(refine⟨?_,?_,?_⟩<;>first|omega|(show _<_;(try simp only[List.length_set]);omega)|exact leT rfl))|(refine⟨?_,?_⟩<;>omega)|(refine⟨?_,?_,?_⟩<;>first|omega|(show _<_;(try simp only[List.length_set]);omega)|exact leT rfl)|(simp only[show rI.d=(0:Int)from rfl];omega));done));(conv=>whnf))))
      refine EvCall.plain Try.call38 (.v (.bool true)) rfl (fun  ρ W hp => lives13_s W) ?_
      ((conv=>whnf);(repeat(refine And.intro ?_ ?_;(focus((first|omega|exact⟨rfl,True.intro⟩|exact⟨rfl,rfl,True.intro⟩|rfl|(simp only[List.length_set];first|omega|(refine⟨?_,?_⟩<;>omega)|(refine⟨?_,?_,?_⟩<;>omega))|(intro hg;(try simp only[bB]at hg);first|omega|(refine⟨?_,?_⟩<;>omega)|(refine⟨?_,?_,?_⟩<;>first|omega|(show _<_;(try simp only[List.length_set]);omega)|exact leT rfl))|(refine⟨?_,?_⟩<;>omega)|(refine⟨?_,?_,?_⟩<;>first|omega|(show _<_;(try simp only[List.length_set]);omega)|exact leT rfl)|(simp only[show rI.d=(0:Int)from rfl];omega));done));(conv=>whnf))))
      exact EvRet.ret (fun ρ => rfl)
    have hrd : rdR d sm seed = (rndL d (fun i => (rLoL d sm (spanN d)).getD i 0) (fun i => (rHiL d sm (spanN d)).getD i 0) (rdG d seed) (spanN d), 0) := by rw [rdR, hN, if_neg (by simp)]
    have hRH := (rnd_hist (rdG d seed) hvc hlv hsp hok).1
    have hRl := rndL_len d (fun i => (rLoL d sm (spanN d)).getD i 0) (fun i => (rHiL d sm (spanN d)).getD i 0) (rdG d seed) (spanN d)
    generalize rndL d (fun i => (rLoL d sm (spanN d)).getD i 0) (fun i => (rHiL d sm (spanN d)).getD i 0) (rdG d seed) (spanN d) = rs at hrd hRH hRl
    obtain ⟨hL, hH⟩ := rL_hist hvc hlv hsp hok
    have hcb : ∀ i, (-1099511627776 ≤ (rLoL d sm (spanN d)).getD i 0 ∧ (rLoL d sm (spanN d)).getD i 0 ≤ 1099511627776) ∧ -1099511627776 ≤ (rHiL d sm (spanN d)).getD i 0 ∧ (rHiL d sm (spanN d)).getD i 0 ≤ 1099511627776 := fun i => ⟨hist_bd5 hvc hL i, hist_bd5 hvc hH i⟩
    have hkx : d.first + ((x - d.first).toNat : Int) = x := by omega
    have hky : d.first + ((y - d.first).toNat : Int) = y := by omega
    have q := ch_eq (d := d) (l := sm) (n := spanN d) (i := (x - d.first).toNat) (k := (y - d.first).toNat) (by omega) (by omega)
    rw [hkx, hky] at q
    have hm : stM d sm x y down = max (lowV d ((x - d.first).toNat : Int) ((y - d.first).toNat : Int) 0) (rLo d sm y - rHi d sm x) ∨ stM d sm x y down = min (highV d ((x - d.first).toNat : Int) ((y - d.first).toNat : Int) 0) (rHi d sm y - rLo d sm x) := by
      cases down with
      | true => exact .inl q.1
      | false => exact .inr q.2
    have hm2 := hm
    rw [← hkx, ← hky] at hm2
    have hsl5 := steep_law (m := stM d sm x y down) hvc hlv hsp hok (i := (x - d.first).toNat) (k := (y - d.first).toNat) (by omega) (by omega) (by
      rw [hkx, hky]; exact hm)
    have hst : stR d sm x y down = (stL d sm (spanN d) (x - d.first).toNat (y - d.first).toNat (stM d sm x y down), 0) := by rw [stR, hN, if_neg (by simp), if_neg (by omega)]
    have hstl : (stL d sm (spanN d) (x - d.first).toNat (y - d.first).toNat (stM d sm x y down)).length = spanN d := by unfold stL; rw [capL_len, capL_len, hl2]
    generalize stL d sm (spanN d) (x - d.first).toNat (y - d.first).toNat (stM d sm x y down) = st at hst hsl5 hstl
    have hsb := hist_bd5 hvc hsl5.1
    have hrc := hist_change hvc hlv hRH (i := (x - d.first).toNat) (k := (y - d.first).toNat) (by omega) (by omega)
    rw [hkx, hky, ← q.1, ← q.2] at hrc
    have hrb := hist_bd5 hvc hRH
    have s1 : -1099511627776 ≤ st.getD (x - d.first).toNat rI.d ∧ st.getD (x - d.first).toNat rI.d ≤ 1099511627776 := hsb _
    have s2 : -1099511627776 ≤ st.getD (y - d.first).toNat rI.d ∧ st.getD (y - d.first).toNat rI.d ≤ 1099511627776 := hsb _
    have s3 : -1099511627776 ≤ rs.getD (x - d.first).toNat rI.d ∧ rs.getD (x - d.first).toNat rI.d ≤ 1099511627776 := hrb _
    have s4 : -1099511627776 ≤ rs.getD (y - d.first).toNat rI.d ∧ rs.getD (y - d.first).toNat rI.d ≤ 1099511627776 := hrb _
    have hch : chR d ⟨d.first, rLoL d sm (spanN d), rHiL d sm (spanN d)⟩ x y = (chLo d ⟨d.first, rLoL d sm (spanN d), rHiL d sm (spanN d)⟩ x y, chHi d ⟨d.first, rLoL d sm (spanN d), rHiL d sm (spanN d)⟩ x y, 0) := if_pos ⟨by unfold inE; simp only; omega, by unfold inE; simp only; omega⟩
    have d1 : st.getD (y - d.first).toNat rI.d - st.getD (x - d.first).toNat rI.d = stM d sm x y down := hsl5.2
    have d2 : chLo d ⟨d.first, rLoL d sm (spanN d), rHiL d sm (spanN d)⟩ x y ≤ rs.getD (y - d.first).toNat rI.d - rs.getD (x - d.first).toNat rI.d := hrc.1
    have d3 : rs.getD (y - d.first).toNat rI.d - rs.getD (x - d.first).toNat rI.d ≤ chHi d ⟨d.first, rLoL d sm (spanN d), rHiL d sm (spanN d)⟩ x y := hrc.2
    refine EvCall.rowsE (R := rI) (ty := 3) (xs := st) (z := 0) Try.call42 (fun ρ W hp => by
      have := hsteep_s _ _ d sm x y down W (hp.decl (n := 3) (d := d) hnm hl hc1 hc2 rfl) hI hvc (by omega) hlv (hp.rowsIn (R := rC) (n := 5) (c := cap) rfl (by decide) hc3 hc4 4) (by omega) (by omega) (by omega)
      rw [hst] at this
      exact this) (fun ka a1 a2 => ?_)
    ((conv=>whnf);(repeat(refine And.intro ?_ ?_;(focus((first|omega|exact⟨rfl,True.intro⟩|exact⟨rfl,rfl,True.intro⟩|rfl|(simp only[List.length_set];first|omega|(refine⟨?_,?_⟩<;>omega)|(refine⟨?_,?_,?_⟩<;>omega))|(intro hg;(try simp only[bB]at hg);first|omega|(refine⟨?_,?_⟩<;>omega)|(refine⟨?_,?_,?_⟩<;>first|omega|(show _<_;(try simp only[List.length_set]);omega)|exact leT rfl))|(refine⟨?_,?_⟩<;>omega)|(refine⟨?_,?_,?_⟩<;>first|omega|(show _<_;(try simp only[List.length_set]);omega)|exact leT rfl)|(simp only[show rI.d=(0:Int)from rfl];omega));done));(conv=>whnf))))
    refine EvCall.rowsE (R := rI) (ty := 3) (xs := st) (z := 0) Try.call43 (fun ρ W hp => by
      have := ref_steep_s _ _ d sm x y down W (hp.decl (n := 3) (d := d) hnm hl hc1 hc2 rfl) hI hvc (by omega) hlv (hp.rowsIn (R := rC) (n := 5) (c := cap) rfl (by decide) hc3 hc4 4) (by omega) (by omega)
      rw [hst] at this
      exact this) (fun kb b1 b2 => ?_)
    ((conv=>whnf);(repeat(refine And.intro ?_ ?_;(focus((first|omega|exact⟨rfl,True.intro⟩|exact⟨rfl,rfl,True.intro⟩|rfl|(simp only[List.length_set];first|omega|(refine⟨?_,?_⟩<;>omega)|(refine⟨?_,?_,?_⟩<;>omega))|(intro hg;(try simp only[bB]at hg);first|omega|(refine⟨?_,?_⟩<;>omega)|(refine⟨?_,?_,?_⟩<;>first|omega|(show _<_;(try simp only[List.length_set]);omega)|exact leT rfl))|(refine⟨?_,?_⟩<;>omega)|(refine⟨?_,?_,?_⟩<;>first|omega|(show _<_;(try simp only[List.length_set]);omega)|exact leT rfl)|(simp only[show rI.d=(0:Int)from rfl];omega));done));(conv=>whnf))))
    refine EvCallC.plain Try.call37 (.v (.bool true)) rfl (fun _ ρ W hp => by
      have := sameints_s _ _ ((st)) ((st)) W (hp.rowsIn (R := rI) (n := 6) (c := ka) rfl (by decide) a1 a2 1) (hp.rowsIn (R := rI) (n := 7) (c := kb) rfl (by decide) b1 b2 1)
      rw [decide_eq_true (show (st) = (st) by first | rfl | assumption)] at this
      exact this) ?_
    ((conv=>whnf);(repeat(refine And.intro ?_ ?_;(focus((first|omega|exact⟨rfl,True.intro⟩|exact⟨rfl,rfl,True.intro⟩|rfl|(simp only[List.length_set];first|omega|(refine⟨?_,?_⟩<;>omega)|(refine⟨?_,?_,?_⟩<;>omega))|(intro hg;(try simp only[bB]at hg);first|omega|(refine⟨?_,?_⟩<;>omega)|(refine⟨?_,?_,?_⟩<;>first|omega|(show _<_;(try simp only[List.length_set]);omega)|exact leT rfl))|(refine⟨?_,?_⟩<;>omega)|(refine⟨?_,?_,?_⟩<;>first|omega|(show _<_;(try simp only[List.length_set]);omega)|exact leT rfl)|(simp only[show rI.d=(0:Int)from rfl];omega));done));(conv=>whnf))))
    refine EvIf.neg rfl ?_
    ((conv=>whnf);(repeat(refine And.intro ?_ ?_;(focus((first|omega|exact⟨rfl,True.intro⟩|exact⟨rfl,rfl,True.intro⟩|rfl|(simp only[List.length_set];first|omega|(refine⟨?_,?_⟩<;>omega)|(refine⟨?_,?_,?_⟩<;>omega))|(intro hg;(try simp only[bB]at hg);first|omega|(refine⟨?_,?_⟩<;>omega)|(refine⟨?_,?_,?_⟩<;>first|omega|(show _<_;(try simp only[List.length_set]);omega)|exact leT rfl))|(refine⟨?_,?_⟩<;>omega)|(refine⟨?_,?_,?_⟩<;>first|omega|(show _<_;(try simp only[List.length_set]);omega)|exact leT rfl)|(simp only[show rI.d=(0:Int)from rfl];omega));done));(conv=>whnf))))
    refine EvIf.neg rfl ?_
    ((conv=>whnf);(repeat(refine And.intro ?_ ?_;(focus((first|omega|exact⟨rfl,True.intro⟩|exact⟨rfl,rfl,True.intro⟩|rfl|(simp only[List.length_set];first|omega|(refine⟨?_,?_⟩<;>omega)|(refine⟨?_,?_,?_⟩<;>omega))|(intro hg;(try simp only[bB]at hg);first|omega|(refine⟨?_,?_⟩<;>omega)|(refine⟨?_,?_,?_⟩<;>first|omega|(show _<_;(try simp only[List.length_set]);omega)|exact leT rfl))|(refine⟨?_,?_⟩<;>omega)|(refine⟨?_,?_,?_⟩<;>first|omega|(show _<_;(try simp only[List.length_set]);omega)|exact leT rfl)|(simp only[show rI.d=(0:Int)from rfl];omega));done));(conv=>whnf))))
    refine EvCall.two (ty := 3) (xs := rLoL d sm (spanN d)) (ys := rHiL d sm (spanN d)) (envES d.first 0) (envES_den _ _) (envES_lt _ _) Try.call17 (fun ρ W hp => by
      have := new_s _ _ d sm W (hp.decl (n := 3) (d := d) hnm hl hc1 hc2 rfl) hI (hp.rowsIn (R := rC) (n := 5) (c := cap) rfl (by decide) hc3 hc4 4)
      rw [hN] at this
      exact this) (fun p1 p2 q1 q2 q3 q4 => ?_)
    ((conv=>whnf);(repeat(refine And.intro ?_ ?_;(focus((first|omega|exact⟨rfl,True.intro⟩|exact⟨rfl,rfl,True.intro⟩|rfl|(simp only[List.length_set];first|omega|(refine⟨?_,?_⟩<;>omega)|(refine⟨?_,?_,?_⟩<;>omega))|(intro hg;(try simp only[bB]at hg);first|omega|(refine⟨?_,?_⟩<;>omega)|(refine⟨?_,?_,?_⟩<;>first|omega|(show _<_;(try simp only[List.length_set]);omega)|exact leT rfl))|(refine⟨?_,?_⟩<;>omega)|(refine⟨?_,?_,?_⟩<;>first|omega|(show _<_;(try simp only[List.length_set]);omega)|exact leT rfl)|(simp only[show rI.d=(0:Int)from rfl];omega));done));(conv=>whnf))))
    refine EvCall.plain Try.call20 (.t [.v (.int .i64 (chLo d ⟨d.first, rLoL d sm (spanN d), rHiL d sm (spanN d)⟩ x y)), .v (.int .i64 (chHi d ⟨d.first, rLoL d sm (spanN d), rHiL d sm (spanN d)⟩ x y)), .v (.int .i64 0)]) rfl (fun ρ W hp => by
      have := change_s _ d ⟨d.first, rLoL d sm (spanN d), rHiL d sm (spanN d)⟩ _ _ _ _ _ _ x y W (hp.decl (n := 3) (d := d) hnm hl hc1 hc2 rfl) hI hvc (hp.rowsIn (R := rI) (n := 8) (c := p1) rfl (by decide) q1 q2 1) (hp.rowsIn (R := rI) (n := 9) (c := p2) rfl (by decide) q3 q4 1) (by omega) (by omega) (by show 0 ≤ d.first ∧ d.first ≤ 1000000; omega) (by show (rLoL d sm (spanN d)).length ≤ 4096; omega) hcb
      rw [hch] at this
      exact this) ?_
    ((conv=>whnf);(repeat(refine And.intro ?_ ?_;(focus((first|omega|exact⟨rfl,True.intro⟩|exact⟨rfl,rfl,True.intro⟩|rfl|(simp only[List.length_set];first|omega|(refine⟨?_,?_⟩<;>omega)|(refine⟨?_,?_,?_⟩<;>omega))|(intro hg;(try simp only[bB]at hg);first|omega|(refine⟨?_,?_⟩<;>omega)|(refine⟨?_,?_,?_⟩<;>first|omega|(show _<_;(try simp only[List.length_set]);omega)|exact leT rfl))|(refine⟨?_,?_⟩<;>omega)|(refine⟨?_,?_,?_⟩<;>first|omega|(show _<_;(try simp only[List.length_set]);omega)|exact leT rfl)|(simp only[show rI.d=(0:Int)from rfl];omega));done));(conv=>whnf))))
    refine EvCall.rowsE (R := rI) (ty := 3) (xs := rs) (z := 0) Try.call44 (fun ρ W hp => by
      have := hrandom_s _ _ d sm seed W (hp.decl (n := 3) (d := d) hnm hl hc1 hc2 rfl) hI hvc (by omega) hlv (hp.rowsIn (R := rC) (n := 5) (c := cap) rfl (by decide) hc3 hc4 4)
      rw [hrd] at this
      exact this) (fun kr r1 r2 => ?_)
    ((conv=>whnf);(repeat(refine And.intro ?_ ?_;(focus((first|omega|exact⟨rfl,True.intro⟩|exact⟨rfl,rfl,True.intro⟩|rfl|(simp only[List.length_set];first|omega|(refine⟨?_,?_⟩<;>omega)|(refine⟨?_,?_,?_⟩<;>omega))|(intro hg;(try simp only[bB]at hg);first|omega|(refine⟨?_,?_⟩<;>omega)|(refine⟨?_,?_,?_⟩<;>first|omega|(show _<_;(try simp only[List.length_set]);omega)|exact leT rfl))|(refine⟨?_,?_⟩<;>omega)|(refine⟨?_,?_,?_⟩<;>first|omega|(show _<_;(try simp only[List.length_set]);omega)|exact leT rfl)|(simp only[show rI.d=(0:Int)from rfl];omega));done));(conv=>whnf))))
    refine EvCallC.plain Try.call41 (.v (.bool true)) rfl (fun _ ρ W hp => by
      have := hagrees_s _ _ _ d sm st W (hp.decl (n := 3) (d := d) hnm hl hc1 hc2 rfl) hI (hp.rowsIn (R := rC) (n := 5) (c := cap) rfl (by decide) hc3 hc4 4) (hp.rowsIn (R := rI) (n := 6) (c := ka) rfl (by decide) a1 a2 1) hsb
      rw [agB_t.2 ⟨hvc, by omega, hsl5.1⟩] at this
      exact this) ?_
    ((conv=>whnf);(repeat(refine And.intro ?_ ?_;(focus((first|omega|exact⟨rfl,True.intro⟩|exact⟨rfl,rfl,True.intro⟩|rfl|(simp only[List.length_set];first|omega|(refine⟨?_,?_⟩<;>omega)|(refine⟨?_,?_,?_⟩<;>omega))|(intro hg;(try simp only[bB]at hg);first|omega|(refine⟨?_,?_⟩<;>omega)|(refine⟨?_,?_,?_⟩<;>first|omega|(show _<_;(try simp only[List.length_set]);omega)|exact leT rfl))|(refine⟨?_,?_⟩<;>omega)|(refine⟨?_,?_,?_⟩<;>first|omega|(show _<_;(try simp only[List.length_set]);omega)|exact leT rfl)|(simp only[show rI.d=(0:Int)from rfl];omega));done));(conv=>whnf))))
    refine EvIf.neg (by simp; omega) ?_
    ((conv=>whnf);(repeat(refine And.intro ?_ ?_;(focus((first|omega|exact⟨rfl,True.intro⟩|exact⟨rfl,rfl,True.intro⟩|rfl|(simp only[List.length_set];first|omega|(refine⟨?_,?_⟩<;>omega)|(refine⟨?_,?_,?_⟩<;>omega))|(intro hg;(try simp only[bB]at hg);first|omega|(refine⟨?_,?_⟩<;>omega)|(refine⟨?_,?_,?_⟩<;>first|omega|(show _<_;(try simp only[List.length_set]);omega)|exact leT rfl))|(refine⟨?_,?_⟩<;>omega)|(refine⟨?_,?_,?_⟩<;>first|omega|(show _<_;(try simp only[List.length_set]);omega)|exact leT rfl)|(simp only[show rI.d=(0:Int)from rfl];omega));done));(conv=>whnf))))
    (refine EvDraw.one (.q 0 (.q 1 (.q 2 (.q 3 (.q 4 (.q 5 (.q 6 (.q 7 (.q 8 (.q 9 (.q 10 (.q 11 (.q 12 (.q 13 (.q 14 (.q 15 (.z))))))))))))))))) (by kernel_rfl) ?_)
    ((conv=>whnf);(repeat(refine And.intro ?_ ?_;(focus((first|omega|exact⟨rfl,True.intro⟩|exact⟨rfl,rfl,True.intro⟩|rfl|(simp only[List.length_set];first|omega|(refine⟨?_,?_⟩<;>omega)|(refine⟨?_,?_,?_⟩<;>omega))|(intro hg;(try simp only[bB]at hg);first|omega|(refine⟨?_,?_⟩<;>omega)|(refine⟨?_,?_,?_⟩<;>first|omega|(show _<_;(try simp only[List.length_set]);omega)|exact leT rfl))|(refine⟨?_,?_⟩<;>omega)|(refine⟨?_,?_,?_⟩<;>first|omega|(show _<_;(try simp only[List.length_set]);omega)|exact leT rfl)|(simp only[show rI.d=(0:Int)from rfl];omega));done));(conv=>whnf))))
    (refine EvDraw.one (.q 0 (.q 1 (.q 2 (.q 3 (.q 4 (.q 5 (.q 6 (.q 7 (.q 8 (.q 9 (.q 10 (.q 11 (.q 12 (.q 13 (.q 14 (.q 15 (.z))))))))))))))))) (by kernel_rfl) ?_)
    ((conv=>whnf);(repeat(refine And.intro ?_ ?_;(focus((first|omega|exact⟨rfl,True.intro⟩|exact⟨rfl,rfl,True.intro⟩|rfl|(simp only[List.length_set];first|omega|(refine⟨?_,?_⟩<;>omega)|(refine⟨?_,?_,?_⟩<;>omega))|(intro hg;(try simp only[bB]at hg);first|omega|(refine⟨?_,?_⟩<;>omega)|(refine⟨?_,?_,?_⟩<;>first|omega|(show _<_;(try simp only[List.length_set]);omega)|exact leT rfl))|(refine⟨?_,?_⟩<;>omega)|(refine⟨?_,?_,?_⟩<;>first|omega|(show _<_;(try simp only[List.length_set]);omega)|exact leT rfl)|(simp only[show rI.d=(0:Int)from rfl];omega));done));(conv=>whnf))))
    refine EvCallC.plain Try.call38 (.v (.bool true)) rfl (fun _ ρ W hp => lives13_s W) ?_
    ((conv=>whnf);(repeat(refine And.intro ?_ ?_;(focus((first|omega|exact⟨rfl,True.intro⟩|exact⟨rfl,rfl,True.intro⟩|rfl|(simp only[List.length_set];first|omega|(refine⟨?_,?_⟩<;>omega)|(refine⟨?_,?_,?_⟩<;>omega))|(intro hg;(try simp only[bB]at hg);first|omega|(refine⟨?_,?_⟩<;>omega)|(refine⟨?_,?_,?_⟩<;>first|omega|(show _<_;(try simp only[List.length_set]);omega)|exact leT rfl))|(refine⟨?_,?_⟩<;>omega)|(refine⟨?_,?_,?_⟩<;>first|omega|(show _<_;(try simp only[List.length_set]);omega)|exact leT rfl)|(simp only[show rI.d=(0:Int)from rfl];omega));done));(conv=>whnf))))
    refine EvRet.ret (fun ρ => ?_)
    have d4 : stM d sm x y down = if down then chLo d ⟨d.first, rLoL d sm (spanN d), rHiL d sm (spanN d)⟩ x y else chHi d ⟨d.first, rLoL d sm (spanN d), rHiL d sm (spanN d)⟩ x y := rfl
    simp only [den, d1, decide_eq_true d2, decide_eq_true d3, d4]
    cases down <;> simp
  · have hst : stR d sm x y down = ([], 13) := by rw [stR, hN, if_pos (by simp)]
    refine EvCall.rowsE (R := rI) (ty := 3) (xs := []) (z := 13) Try.call42 (fun ρ W hp => by
      have := hsteep_s _ _ d sm x y down W (hp.decl (n := 3) (d := d) hnm hl hc1 hc2 rfl) hI hvc (by omega) hlv (hp.rowsIn (R := rC) (n := 5) (c := cap) rfl (by decide) hc3 hc4 4) (by omega) (by omega) (by omega)
      rw [hst] at this
      exact this) (fun ka a1 a2 => ?_)
    ((conv=>whnf);(repeat(refine And.intro ?_ ?_;(focus((first|omega|exact⟨rfl,True.intro⟩|exact⟨rfl,rfl,True.intro⟩|rfl|(simp only[List.length_set];first|omega|(refine⟨?_,?_⟩<;>omega)|(refine⟨?_,?_,?_⟩<;>omega))|(intro hg;(try simp only[bB]at hg);first|omega|(refine⟨?_,?_⟩<;>omega)|(refine⟨?_,?_,?_⟩<;>first|omega|(show _<_;(try simp only[List.length_set]);omega)|exact leT rfl))|(refine⟨?_,?_⟩<;>omega)|(refine⟨?_,?_,?_⟩<;>first|omega|(show _<_;(try simp only[List.length_set]);omega)|exact leT rfl)|(simp only[show rI.d=(0:Int)from rfl];omega));done));(conv=>whnf))))
    refine EvCall.rowsE (R := rI) (ty := 3) (xs := []) (z := 13) Try.call43 (fun ρ W hp => by
      have := ref_steep_s _ _ d sm x y down W (hp.decl (n := 3) (d := d) hnm hl hc1 hc2 rfl) hI hvc (by omega) hlv (hp.rowsIn (R := rC) (n := 5) (c := cap) rfl (by decide) hc3 hc4 4) (by omega) (by omega)
      rw [hst] at this
      exact this) (fun kb b1 b2 => ?_)
    ((conv=>whnf);(repeat(refine And.intro ?_ ?_;(focus((first|omega|exact⟨rfl,True.intro⟩|exact⟨rfl,rfl,True.intro⟩|rfl|(simp only[List.length_set];first|omega|(refine⟨?_,?_⟩<;>omega)|(refine⟨?_,?_,?_⟩<;>omega))|(intro hg;(try simp only[bB]at hg);first|omega|(refine⟨?_,?_⟩<;>omega)|(refine⟨?_,?_,?_⟩<;>first|omega|(show _<_;(try simp only[List.length_set]);omega)|exact leT rfl))|(refine⟨?_,?_⟩<;>omega)|(refine⟨?_,?_,?_⟩<;>first|omega|(show _<_;(try simp only[List.length_set]);omega)|exact leT rfl)|(simp only[show rI.d=(0:Int)from rfl];omega));done));(conv=>whnf))))
    refine EvCallC.plain Try.call37 (.v (.bool true)) rfl (fun _ ρ W hp => by
      have := sameints_s _ _ (([])) (([])) W (hp.rowsIn (R := rI) (n := 6) (c := ka) rfl (by decide) a1 a2 1) (hp.rowsIn (R := rI) (n := 7) (c := kb) rfl (by decide) b1 b2 1)
      rw [decide_eq_true (show ([]) = ([]) by first | rfl | assumption)] at this
      exact this) ?_
    ((conv=>whnf);(repeat(refine And.intro ?_ ?_;(focus((first|omega|exact⟨rfl,True.intro⟩|exact⟨rfl,rfl,True.intro⟩|rfl|(simp only[List.length_set];first|omega|(refine⟨?_,?_⟩<;>omega)|(refine⟨?_,?_,?_⟩<;>omega))|(intro hg;(try simp only[bB]at hg);first|omega|(refine⟨?_,?_⟩<;>omega)|(refine⟨?_,?_,?_⟩<;>first|omega|(show _<_;(try simp only[List.length_set]);omega)|exact leT rfl))|(refine⟨?_,?_⟩<;>omega)|(refine⟨?_,?_,?_⟩<;>first|omega|(show _<_;(try simp only[List.length_set]);omega)|exact leT rfl)|(simp only[show rI.d=(0:Int)from rfl];omega));done));(conv=>whnf))))
    refine EvIf.neg rfl ?_
    ((conv=>whnf);(repeat(refine And.intro ?_ ?_;(focus((first|omega|exact⟨rfl,True.intro⟩|exact⟨rfl,rfl,True.intro⟩|rfl|(simp only[List.length_set];first|omega|(refine⟨?_,?_⟩<;>omega)|(refine⟨?_,?_,?_⟩<;>omega))|(intro hg;(try simp only[bB]at hg);first|omega|(refine⟨?_,?_⟩<;>omega)|(refine⟨?_,?_,?_⟩<;>first|omega|(show _<_;(try simp only[List.length_set]);omega)|exact leT rfl))|(refine⟨?_,?_⟩<;>omega)|(refine⟨?_,?_,?_⟩<;>first|omega|(show _<_;(try simp only[List.length_set]);omega)|exact leT rfl)|(simp only[show rI.d=(0:Int)from rfl];omega));done));(conv=>whnf))))
    refine EvIf.pos rfl ?_
    ((conv=>whnf);(repeat(refine And.intro ?_ ?_;(focus((first|omega|exact⟨rfl,True.intro⟩|exact⟨rfl,rfl,True.intro⟩|rfl|(simp only[List.length_set];first|omega|(refine⟨?_,?_⟩<;>omega)|(refine⟨?_,?_,?_⟩<;>omega))|(intro hg;(try simp only[bB]at hg);first|omega|(refine⟨?_,?_⟩<;>omega)|(refine⟨?_,?_,?_⟩<;>first|omega|(show _<_;(try simp only[List.length_set]);omega)|exact leT rfl))|(refine⟨?_,?_⟩<;>omega)|(refine⟨?_,?_,?_⟩<;>first|omega|(show _<_;(try simp only[List.length_set]);omega)|exact leT rfl)|(simp only[show rI.d=(0:Int)from rfl];omega));done));(conv=>whnf))))
    refine EvCall.plain Try.call38 (.v (.bool true)) rfl (fun  ρ W hp => lives13_s W) ?_
    ((conv=>whnf);(repeat(refine And.intro ?_ ?_;(focus((first|omega|exact⟨rfl,True.intro⟩|exact⟨rfl,rfl,True.intro⟩|rfl|(simp only[List.length_set];first|omega|(refine⟨?_,?_⟩<;>omega)|(refine⟨?_,?_,?_⟩<;>omega))|(intro hg;(try simp only[bB]at hg);first|omega|(refine⟨?_,?_⟩<;>omega)|(refine⟨?_,?_,?_⟩<;>first|omega|(show _<_;(try simp only[List.length_set]);omega)|exact leT rfl))|(refine⟨?_,?_⟩<;>omega)|(refine⟨?_,?_,?_⟩<;>first|omega|(show _<_;(try simp only[List.length_set]);omega)|exact leT rfl)|(simp only[show rI.d=(0:Int)from rfl];omega));done));(conv=>whnf))))
    exact EvRet.ret (fun ρ => rfl)
theorem walk_HistorySteep (w : World) (V0 : Value) (zs : List Int) (h : Ints w V0 zs) (V1 : Value) (ms : List Int) (h2 : Ints w V1 ms) (V2 : Value) (ks : List Int) (h3 : Ints w V2 ks) (b : Bool) (s : Int) (hs : I64 s) (t : Int) (ht : I64 t) (down : Bool) (seed : Int) (hsd : I64 seed) :
    Calls Try.prog 8 #[V0, V1, V2, .bool b, .int .i64 s, .int .i64 t, .bool down, .int .i64 seed] w fun e w' => e = .returned (.bool true) ∧ Below w.heap.size w w' :=
  (historysteep_s V0 V1 V2 zs ms ks b s t down seed w h h2 h3 hs ht).out
end Go.Proofs.Ytnoenmacakbhdaa
