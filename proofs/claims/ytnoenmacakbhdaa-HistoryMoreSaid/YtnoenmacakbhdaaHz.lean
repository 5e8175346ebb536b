
/- The law HistoryMore, walked. -/
import Derived.Test.YtnoenmacakbhdaaHv
namespace Go.Proofs.Ytnoenmacakbhdaa
open Go.RowKit
set_option linter.unusedVariables false
set_option linter.unusedSimpArgs false

theorem out_hist {d : Dc} {l : List Cl} {vs : List Int} {k : Nat} (hk : k < spanN d) (hd : validCode d = 0) : agB d (l ++ [⟨d.first + k, d.first + k, vs.getD k 0 + 1, vs.getD k 0 + 9⟩]) vs = false := agB_f.2 (fun h => by
  have hc := h.2.2.2.2 ⟨d.first + k, d.first + k, vs.getD k 0 + 1, vs.getD k 0 + 9⟩ (by simp)
  have := hc.2.2 k (by simp only; omega) (by simp only; omega)
  simp only at this
  omega)
set_option maxRecDepth 20000 in
theorem historymore_s (v1 v2 v3 : Value) (zs ms ks : List Int) (b : Bool) (t seed : Int) (w : World) (h1 : Ints w v1 zs) (h2 : Ints w v2 ms) (h3 : Ints w v3 ks) (ht : I64 t) :
    Con Try.prog 10 #[v1, v2, v3, .bool b, .int .i64 t, .int .i64 seed] w (Ret w (.bool true)) := by
  obtain ⟨A1, c1, rfl, e1, e2⟩ := h1.form
  obtain ⟨A2, c2, rfl, e3, e4⟩ := h2.form
  obtain ⟨A3, c3, rfl, e5, e6⟩ := h3.form
  have hT := declOf_T zs
  have hI := declOf_I' zs
  have hvc := declOf_vc zs
  refine enter tabOk mixed Try.func10 rfl Try.ntmps10 Try.results10 [.s 0 1 zs.length c1, .s 1 1 ms.length c2, .s 2 1 ks.length c3, .v (.bool b), .v (.int .i64 t), .v (.int .i64 seed)] (fun n => if n = 0 then A1 else if n = 1 then A2 else A3) [⟨2, false, 3, 1, c3, .rows Int rI (ks)⟩, ⟨1, false, 3, 1, c2, .rows Int rI (ms)⟩, ⟨0, false, 3, 1, c1, .rows Int rI (zs)⟩] 3 rfl rfl (.ro (.ro (.ro (hp0 _ _ _) _ rfl rfl rfl (ro_ints h1 rfl _)) _ rfl rfl rfl (ro_ints h2 rfl _)) _ rfl rfl rfl (ro_ints h3 rfl _)) ?_
  ((conv=>whnf);(repeat(refine And.intro ?_ ?_;(focus((first|omega|exact⟨rfl,True.intro⟩|exact⟨rfl,rfl,True.intro⟩|rfl|(simp only[List.length_set];first|omega|(refine⟨?_,?_⟩<;>omega)|(refine⟨?_,?_,?_⟩<;>omega))|(intro hg;(try simp only[bB]at hg);first|omega|(refine⟨?_,?_⟩<;>omega)|(refine⟨?_,?_,?_⟩<;>first|omega|(show _<_;(try simp only[List.length_set]);omega)|exact leT rfl))|(refine⟨?_,?_⟩<;>omega)|(refine⟨?_,?_,?_⟩<;>first|omega|(show _<_;(try simp only[List.length_set]);omega)|exact leT rfl)|(simp only[show rI.d=(0:Int)from rfl];omega));done));(conv=>whnf))))
  refine EvCall.decl Try.call15 (fun ρ W hp => decl_s _ zs W (hp.ints (n := 0) rfl e1 e2 h1.2)) (fun nm l c5 hnm hl hc1 hc2 => ?_)
  generalize declOf zs = d at hT hI hvc ⊢
  have hbd := valid_bounds hvc
  have hTT := hT
  obtain ⟨t1, t2, t3⟩ := hTT
  have hlv := some_valid d ms ks b hT
  have hsl := someL_len5 d ms ks b
  ((conv=>whnf);(repeat(refine And.intro ?_ ?_;(focus((first|omega|exact⟨rfl,True.intro⟩|exact⟨rfl,rfl,True.intro⟩|rfl|(simp only[List.length_set];first|omega|(refine⟨?_,?_⟩<;>omega)|(refine⟨?_,?_,?_⟩<;>omega))|(intro hg;(try simp only[bB]at hg);first|omega|(refine⟨?_,?_⟩<;>omega)|(refine⟨?_,?_,?_⟩<;>first|omega|(show _<_;(try simp only[List.length_set]);omega)|exact leT rfl))|(refine⟨?_,?_⟩<;>omega)|(refine⟨?_,?_,?_⟩<;>first|omega|(show _<_;(try simp only[List.length_set]);omega)|exact leT rfl)|(simp only[show rI.d=(0:Int)from rfl];omega));done));(conv=>whnf))))
  refine EvCall.rows (R := rC) (ty := 52) (xs := someL d ms ks b) Try.call16 (fun ρ W hp => some_s nm _ _ _ d _ _ ms ks b W hT (hp.ints (n := 1) rfl e3 e4 h2.2) (hp.ints (n := 2) rfl e5 e6 h3.2)) (fun cap hc3 hc4 => ?_)
  generalize someL d ms ks b = sm at hc3 hlv hsl ⊢
  have hsp : (spanN d : Int) = d.last - d.first + 1 := by unfold spanN; omega
  have hl1 := rLoL_len d sm (spanN d)
  have hl2 := rHiL_len d sm (spanN d)
  have a3 := arnd_nn t (d.last - d.first + 1) (by omega)
  have a4 := arnd_lt t (d.last - d.first + 1) (by omega)
  ((conv=>whnf);(repeat(refine And.intro ?_ ?_;(focus((first|omega|exact⟨rfl,True.intro⟩|exact⟨rfl,rfl,True.intro⟩|rfl|(simp only[List.length_set];first|omega|(refine⟨?_,?_⟩<;>omega)|(refine⟨?_,?_,?_⟩<;>omega))|(intro hg;(try simp only[bB]at hg);first|omega|(refine⟨?_,?_⟩<;>omega)|(refine⟨?_,?_,?_⟩<;>first|omega|(show _<_;(try simp only[List.length_set]);omega)|exact leT rfl))|(refine⟨?_,?_⟩<;>omega)|(refine⟨?_,?_,?_⟩<;>first|omega|(show _<_;(try simp only[List.length_set]);omega)|exact leT rfl)|(simp only[show rI.d=(0:Int)from rfl];omega));done));(conv=>whnf))))
  rcases two_ok hvc (show sm.length ≤ 4096 by omega) hlv with ⟨hok, hN⟩ | ⟨hno, hN⟩
  · have hrd : rdR d sm seed = (rndL d (fun i => (rLoL d sm (spanN d)).getD i 0) (fun i => (rHiL d sm (spanN d)).getD i 0) (rdG d seed) (spanN d), 0) := by rw [rdR, hN, if_neg (by simp)]
    have hRH := (rnd_hist (rdG d seed) hvc hlv hsp hok).1
    have hRl := rndL_len d (fun i => (rLoL d sm (spanN d)).getD i 0) (fun i => (rHiL d sm (spanN d)).getD i 0) (rdG d seed) (spanN d)
    generalize rndL d (fun i => (rLoL d sm (spanN d)).getD i 0) (fun i => (rHiL d sm (spanN d)).getD i 0) (rdG d seed) (spanN d) = rs at hrd hRH hRl
    have hrb := hist_bd5 hvc hRH
    refine EvCall.two (ty := 3) (xs := rLoL d sm (spanN d)) (ys := rHiL d sm (spanN d)) (envES d.first 0) (envES_den _ _) (envES_lt _ _) Try.call17 (fun ρ W hp => by
      have := new_s _ _ d sm W (hp.decl (n := 3) (d := d) hnm hl hc1 hc2 rfl) hI (hp.rowsIn (R := rC) (n := 5) (c := cap) rfl (by decide) hc3 hc4 4)
      rw [hN] at this
      exact this) (fun p1 p2 q1 q2 q3 q4 => ?_)
    ((conv=>whnf);(repeat(refine And.intro ?_ ?_;(focus((first|omega|exact⟨rfl,True.intro⟩|exact⟨rfl,rfl,True.intro⟩|rfl|(simp only[List.length_set];first|omega|(refine⟨?_,?_⟩<;>omega)|(refine⟨?_,?_,?_⟩<;>omega))|(intro hg;(try simp only[bB]at hg);first|omega|(refine⟨?_,?_⟩<;>omega)|(refine⟨?_,?_,?_⟩<;>first|omega|(show _<_;(try simp only[List.length_set]);omega)|exact leT rfl))|(refine⟨?_,?_⟩<;>omega)|(refine⟨?_,?_,?_⟩<;>first|omega|(show _<_;(try simp only[List.length_set]);omega)|exact leT rfl)|(simp only[show rI.d=(0:Int)from rfl];omega));done));(conv=>whnf))))
    (refine EvDraw.one (.q 0 (.q 1 (.q 2 (.q 3 (.q 4 (.q 5 (.q 6 (.q 7 (.q 8 (.n 9 false (.q 10 (.q 11 (.z))) (.e))))))))))) (by kernel_rfl) ?_)
    ((conv=>whnf);(repeat(refine And.intro ?_ ?_;(focus((first|omega|exact⟨rfl,True.intro⟩|exact⟨rfl,rfl,True.intro⟩|rfl|(simp only[List.length_set];first|omega|(refine⟨?_,?_⟩<;>omega)|(refine⟨?_,?_,?_⟩<;>omega))|(intro hg;(try simp only[bB]at hg);first|omega|(refine⟨?_,?_⟩<;>omega)|(refine⟨?_,?_,?_⟩<;>first|omega|(show _<_;(try simp only[List.length_set]);omega)|exact leT rfl))|(refine⟨?_,?_⟩<;>omega)|(refine⟨?_,?_,?_⟩<;>first|omega|(show _<_;(try simp only[List.length_set]);omega)|exact leT rfl)|(simp only[show rI.d=(0:Int)from rfl];omega));done));(conv=>whnf))))
    refine EvCall.plain Try.call19 (.v (.int .i64 (arnd t (d.last - d.first + 1)))) rfl (fun ρ W hp => around_s _ _ W ht (by omega) (by omega)) ?_
    generalize arnd t (d.last - d.first + 1) = y0 at a3 a4 ⊢
    obtain ⟨k, hk⟩ : ∃ k : Nat, (k : Int) = y0 := ⟨y0.toNat, by omega⟩
    subst hk
    have hks : k < spanN d := by omega
    obtain ⟨hvb, hNs⟩ := newR_same (k := k) hvc hlv (show sm.length ≤ 4095 by omega) hsp hok hks
    have hout := out_hist (l := sm) (vs := rs) hks hvc
    obtain ⟨sa, hsa⟩ : ∃ sa, sa = sm ++ [(⟨d.first + k, d.first + k, rLo d sm (d.first + k) - 1, rHi d sm (d.first + k)⟩ : Cl)] := ⟨_, rfl⟩
    obtain ⟨sb, hsb⟩ : ∃ sb, sb = sm ++ [(⟨d.first + k, d.first + k, rs.getD k 0 + 1, rs.getD k 0 + 9⟩ : Cl)] := ⟨_, rfl⟩
    have hle : sm.length + ([⟨d.first + k, d.first + k, rLo d sm (d.first + k) - 1, rHi d sm (d.first + k)⟩] : List Cl).length = sa.length := by rw [hsa]; simp
    have hlf : sm.length + ([⟨d.first + k, d.first + k, rs.getD k 0 + 1, rs.getD k 0 + 9⟩] : List Cl).length = sb.length := by rw [hsb]; simp
    have hle2 : sa.length = sm.length + 1 := by rw [hsa]; simp
    have hlast : sa.getD ((sa.length : Int) - 1).toNat rC.d = ⟨d.first + k, d.first + k, rLo d sm (d.first + k) - 1, rHi d sm (d.first + k)⟩ := by
      rw [show ((sa.length : Int) - 1).toNat = sm.length by omega, hsa]
      exact getD_e sm _
    rw [← hsa] at hNs
    rw [← hsb] at hout
    obtain ⟨hL, hH⟩ := rL_hist hvc hlv hsp hok
    have bL := hist_bd5 hvc hL k
    have bH := hist_bd5 hvc hH k
    rw [(rL_get d sm (spanN d) k hks).1] at bL
    rw [(rL_get d sm (spanN d) k hks).2] at bH
    have brk := hrb k
    have brk' : -1099511627776 ≤ rs.getD (d.first + (k : Int) - d.first).toNat rI.d ∧ rs.getD (d.first + (k : Int) - d.first).toNat rI.d ≤ 1099511627776 := hrb _
    have hix : (d.first + (k : Int) - d.first).toNat = k := by omega
    ((conv=>whnf);(repeat(refine And.intro ?_ ?_;(focus((first|omega|exact⟨rfl,True.intro⟩|exact⟨rfl,rfl,True.intro⟩|rfl|(simp only[List.length_set];first|omega|(refine⟨?_,?_⟩<;>omega)|(refine⟨?_,?_,?_⟩<;>omega))|(intro hg;(try simp only[bB]at hg);first|omega|(refine⟨?_,?_⟩<;>omega)|(refine⟨?_,?_,?_⟩<;>first|omega|(show _<_;(try simp only[List.length_set]);omega)|exact leT rfl))|(refine⟨?_,?_⟩<;>omega)|(refine⟨?_,?_,?_⟩<;>first|omega|(show _<_;(try simp only[List.length_set]);omega)|exact leT rfl)|(simp only[show rI.d=(0:Int)from rfl];omega));done));(conv=>whnf))))
    refine EvCall.plain Try.call27 (.t [.v (.int .i64 (rLo d sm (d.first + k))), .v (.int .i64 (rHi d sm (d.first + k))), .v (.int .i64 0)]) rfl (fun ρ W hp => by
      have := at_s ⟨d.first, rLoL d sm (spanN d), rHiL d sm (spanN d)⟩ _ _ _ _ _ _ (d.first + (k : Int)) W (hp.rowsIn (R := rI) (n := 6) (c := p1) rfl (by decide) q1 q2 1) (hp.rowsIn (R := rI) (n := 7) (c := p2) rfl (by decide) q3 q4 1) (by omega) (by show -1000000000 ≤ d.first ∧ d.first ≤ 1000000000; omega)
      rw [at_in hsp (by omega)] at this
      exact this) ?_
    ((conv=>whnf);(repeat(refine And.intro ?_ ?_;(focus((first|omega|exact⟨rfl,True.intro⟩|exact⟨rfl,rfl,True.intro⟩|rfl|(simp only[List.length_set];first|omega|(refine⟨?_,?_⟩<;>omega)|(refine⟨?_,?_,?_⟩<;>omega))|(intro hg;(try simp only[bB]at hg);first|omega|(refine⟨?_,?_⟩<;>omega)|(refine⟨?_,?_,?_⟩<;>first|omega|(show _<_;(try simp only[List.length_set]);omega)|exact leT rfl))|(refine⟨?_,?_⟩<;>omega)|(refine⟨?_,?_,?_⟩<;>first|omega|(show _<_;(try simp only[List.length_set]);omega)|exact leT rfl)|(simp only[show rI.d=(0:Int)from rfl];omega));done));(conv=>whnf))))
    refine EvCall.rowsE (R := rI) (ty := 3) (xs := rs) (z := 0) Try.call44 (fun ρ W hp => by
      have := hrandom_s _ _ d sm seed W (hp.decl (n := 3) (d := d) hnm hl hc1 hc2 rfl) hI hvc (by omega) hlv (hp.rowsIn (R := rC) (n := 5) (c := cap) rfl (by decide) hc3 hc4 4)
      rw [hrd] at this
      exact this) (fun kr r1 r2 => ?_)
    ((conv=>whnf);(repeat(refine And.intro ?_ ?_;(focus((first|omega|exact⟨rfl,True.intro⟩|exact⟨rfl,rfl,True.intro⟩|rfl|(simp only[List.length_set];first|omega|(refine⟨?_,?_⟩<;>omega)|(refine⟨?_,?_,?_⟩<;>omega))|(intro hg;(try simp only[bB]at hg);first|omega|(refine⟨?_,?_⟩<;>omega)|(refine⟨?_,?_,?_⟩<;>first|omega|(show _<_;(try simp only[List.length_set]);omega)|exact leT rfl))|(refine⟨?_,?_⟩<;>omega)|(refine⟨?_,?_,?_⟩<;>first|omega|(show _<_;(try simp only[List.length_set]);omega)|exact leT rfl)|(simp only[show rI.d=(0:Int)from rfl];omega));done));(conv=>whnf))))
    refine EvIf.neg rfl ?_
    ((conv=>whnf);(repeat(refine And.intro ?_ ?_;(focus((first|omega|exact⟨rfl,True.intro⟩|exact⟨rfl,rfl,True.intro⟩|rfl|(simp only[List.length_set];first|omega|(refine⟨?_,?_⟩<;>omega)|(refine⟨?_,?_,?_⟩<;>omega))|(intro hg;(try simp only[bB]at hg);first|omega|(refine⟨?_,?_⟩<;>omega)|(refine⟨?_,?_,?_⟩<;>first|omega|(show _<_;(try simp only[List.length_set]);omega)|exact leT rfl))|(refine⟨?_,?_⟩<;>omega)|(refine⟨?_,?_,?_⟩<;>first|omega|(show _<_;(try simp only[List.length_set]);omega)|exact leT rfl)|(simp only[show rI.d=(0:Int)from rfl];omega));done));(conv=>whnf))))
    refine EvIf.neg (by simp; omega) ?_
    ((conv=>whnf);(repeat(refine And.intro ?_ ?_;(focus((first|omega|exact⟨rfl,True.intro⟩|exact⟨rfl,rfl,True.intro⟩|rfl|(simp only[List.length_set];first|omega|(refine⟨?_,?_⟩<;>omega)|(refine⟨?_,?_,?_⟩<;>omega))|(intro hg;(try simp only[bB]at hg);first|omega|(refine⟨?_,?_⟩<;>omega)|(refine⟨?_,?_,?_⟩<;>first|omega|(show _<_;(try simp only[List.length_set]);omega)|exact leT rfl))|(refine⟨?_,?_⟩<;>omega)|(refine⟨?_,?_,?_⟩<;>first|omega|(show _<_;(try simp only[List.length_set]);omega)|exact leT rfl)|(simp only[show rI.d=(0:Int)from rfl];omega));done));(conv=>whnf))))
    refine EvBi.recast (n := 10) rfl (.rows Cl rC []) (fun _ => rfl) rfl ?_
    refine EvBi.append0 (R := rC) tyok29 rfl tyok52 rfl (by decide) rfl rfl sm (fun ρ W hp => hp.rowsIn (R := rC) (n := 5) rfl (by decide) hc3 hc4 4) (by show _ * 32 ≤ _; omega) (by omega) (fun f1 g1 g2 => ?_)
    ((conv=>whnf);(repeat(refine And.intro ?_ ?_;(focus((first|omega|exact⟨rfl,True.intro⟩|exact⟨rfl,rfl,True.intro⟩|rfl|(simp only[List.length_set];first|omega|(refine⟨?_,?_⟩<;>omega)|(refine⟨?_,?_,?_⟩<;>omega))|(intro hg;(try simp only[bB]at hg);first|omega|(refine⟨?_,?_⟩<;>omega)|(refine⟨?_,?_,?_⟩<;>first|omega|(show _<_;(try simp only[List.length_set]);omega)|exact leT rfl))|(refine⟨?_,?_⟩<;>omega)|(refine⟨?_,?_,?_⟩<;>first|omega|(show _<_;(try simp only[List.length_set]);omega)|exact leT rfl)|(simp only[show rI.d=(0:Int)from rfl];omega));done));(conv=>whnf))))
    refine EvBi.append (R := rC) tyok29 rfl tyok52 rfl (by decide) rfl rfl rfl g1 [⟨d.first + k, d.first + k, rLo d sm (d.first + k) - 1, rHi d sm (d.first + k)⟩] (fun ρ W hp => hp.lit (R := rC) (ys := [⟨d.first + k, d.first + k, rLo d sm (d.first + k) - 1, rHi d sm (d.first + k)⟩]) (n := 12) (sz := 4) (c := 1) rfl (by decide) (by simp) (by omega) rfl) (by show (_ + 1) * 32 ≤ _; omega) (by show _ + 1 ≤ _; omega) (fun f2 g3 g4 => ?_)
    rw [hle] at g3
    rw [hle, ← hsa]
    ((conv=>whnf);(repeat(refine And.intro ?_ ?_;(focus((first|omega|exact⟨rfl,True.intro⟩|exact⟨rfl,rfl,True.intro⟩|rfl|(simp only[List.length_set];first|omega|(refine⟨?_,?_⟩<;>omega)|(refine⟨?_,?_,?_⟩<;>omega))|(intro hg;(try simp only[bB]at hg);first|omega|(refine⟨?_,?_⟩<;>omega)|(refine⟨?_,?_,?_⟩<;>first|omega|(show _<_;(try simp only[List.length_set]);omega)|exact leT rfl))|(refine⟨?_,?_⟩<;>omega)|(refine⟨?_,?_,?_⟩<;>first|omega|(show _<_;(try simp only[List.length_set]);omega)|exact leT rfl)|(simp only[show rI.d=(0:Int)from rfl];omega));done));(conv=>whnf))))
    refine EvCall.rowsE (R := rI) (ty := 3) (xs := rLoL d sm (spanN d)) (z := 0) Try.call46 (fun ρ W hp => by
      have := hleast_s _ _ d sa W (hp.decl (n := 3) (d := d) hnm hl hc1 hc2 rfl) hI (hp.rowsIn (R := rC) (n := 13) (c := f2) rfl (by decide) g3 g4 4)
      rw [hNs] at this
      exact this) (fun ka x1 x2 => ?_)
    ((conv=>whnf);(repeat(refine And.intro ?_ ?_;(focus((first|omega|exact⟨rfl,True.intro⟩|exact⟨rfl,rfl,True.intro⟩|rfl|(simp only[List.length_set];first|omega|(refine⟨?_,?_⟩<;>omega)|(refine⟨?_,?_,?_⟩<;>omega))|(intro hg;(try simp only[bB]at hg);first|omega|(refine⟨?_,?_⟩<;>omega)|(refine⟨?_,?_,?_⟩<;>first|omega|(show _<_;(try simp only[List.length_set]);omega)|exact leT rfl))|(refine⟨?_,?_⟩<;>omega)|(refine⟨?_,?_,?_⟩<;>first|omega|(show _<_;(try simp only[List.length_set]);omega)|exact leT rfl)|(simp only[show rI.d=(0:Int)from rfl];omega));done));(conv=>whnf))))
    refine EvCall.rowsE (R := rI) (ty := 3) (xs := rHiL d sm (spanN d)) (z := 0) Try.call47 (fun ρ W hp => by
      have := hgreat_s _ _ d sa W (hp.decl (n := 3) (d := d) hnm hl hc1 hc2 rfl) hI (hp.rowsIn (R := rC) (n := 13) (c := f2) rfl (by decide) g3 g4 4)
      rw [hNs] at this
      exact this) (fun kb y1 y2 => ?_)
    ((conv=>whnf);(repeat(refine And.intro ?_ ?_;(focus((first|omega|exact⟨rfl,True.intro⟩|exact⟨rfl,rfl,True.intro⟩|rfl|(simp only[List.length_set];first|omega|(refine⟨?_,?_⟩<;>omega)|(refine⟨?_,?_,?_⟩<;>omega))|(intro hg;(try simp only[bB]at hg);first|omega|(refine⟨?_,?_⟩<;>omega)|(refine⟨?_,?_,?_⟩<;>first|omega|(show _<_;(try simp only[List.length_set]);omega)|exact leT rfl))|(refine⟨?_,?_⟩<;>omega)|(refine⟨?_,?_,?_⟩<;>first|omega|(show _<_;(try simp only[List.length_set]);omega)|exact leT rfl)|(simp only[show rI.d=(0:Int)from rfl];omega));done));(conv=>whnf))))
    rw [hix]
    have brk2 : -1099511627776 ≤ rs.getD k rI.d ∧ rs.getD k rI.d ≤ 1099511627776 := brk
    refine EvBi.recast (n := 16) rfl (.rows Cl rC []) (fun _ => rfl) rfl ?_
    refine EvBi.append0 (R := rC) tyok29 rfl tyok52 rfl (by decide) rfl rfl sm (fun ρ W hp => hp.rowsIn (R := rC) (n := 5) rfl (by decide) hc3 hc4 4) (by show _ * 32 ≤ _; omega) (by omega) (fun f3 g5 g6 => ?_)
    ((conv=>whnf);(repeat(refine And.intro ?_ ?_;(focus((first|omega|exact⟨rfl,True.intro⟩|exact⟨rfl,rfl,True.intro⟩|rfl|(simp only[List.length_set];first|omega|(refine⟨?_,?_⟩<;>omega)|(refine⟨?_,?_,?_⟩<;>omega))|(intro hg;(try simp only[bB]at hg);first|omega|(refine⟨?_,?_⟩<;>omega)|(refine⟨?_,?_,?_⟩<;>first|omega|(show _<_;(try simp only[List.length_set]);omega)|exact leT rfl))|(refine⟨?_,?_⟩<;>omega)|(refine⟨?_,?_,?_⟩<;>first|omega|(show _<_;(try simp only[List.length_set]);omega)|exact leT rfl)|(simp only[show rI.d=(0:Int)from rfl];omega));done));(conv=>whnf))))
    refine EvBi.append (R := rC) tyok29 rfl tyok52 rfl (by decide) rfl rfl rfl g5 [⟨d.first + k, d.first + k, rs.getD k 0 + 1, rs.getD k 0 + 9⟩] (fun ρ W hp => hp.lit (R := rC) (ys := [⟨d.first + k, d.first + k, rs.getD k 0 + 1, rs.getD k 0 + 9⟩]) (n := 18) (sz := 4) (c := 1) rfl (by decide) (by simp) (by omega) rfl) (by show (_ + 1) * 32 ≤ _; omega) (by show _ + 1 ≤ _; omega) (fun f4 g7 g8 => ?_)
    rw [hlf] at g7
    rw [hlf, ← hsb]
    ((conv=>whnf);(repeat(refine And.intro ?_ ?_;(focus((first|omega|exact⟨rfl,True.intro⟩|exact⟨rfl,rfl,True.intro⟩|rfl|(simp only[List.length_set];first|omega|(refine⟨?_,?_⟩<;>omega)|(refine⟨?_,?_,?_⟩<;>omega))|(intro hg;(try simp only[bB]at hg);first|omega|(refine⟨?_,?_⟩<;>omega)|(refine⟨?_,?_,?_⟩<;>first|omega|(show _<_;(try simp only[List.length_set]);omega)|exact leT rfl))|(refine⟨?_,?_⟩<;>omega)|(refine⟨?_,?_,?_⟩<;>first|omega|(show _<_;(try simp only[List.length_set]);omega)|exact leT rfl)|(simp only[show rI.d=(0:Int)from rfl];omega));done));(conv=>whnf))))
    (refine EvDraw.one (.q 0 (.q 1 (.q 2 (.q 3 (.q 4 (.q 5 (.q 6 (.n 7 true (.q 8 (.q 9 (.q 10 (.q 11 (.q 12 (.n 13 true (.q 14 (.z)) (.e))))))) (.e))))))))) (by kernel_rfl) ?_)
    ((conv=>whnf);(repeat(refine And.intro ?_ ?_;(focus((first|omega|exact⟨rfl,True.intro⟩|exact⟨rfl,rfl,True.intro⟩|rfl|(simp only[List.length_set];first|omega|(refine⟨?_,?_⟩<;>omega)|(refine⟨?_,?_,?_⟩<;>omega))|(intro hg;(try simp only[bB]at hg);first|omega|(refine⟨?_,?_⟩<;>omega)|(refine⟨?_,?_,?_⟩<;>first|omega|(show _<_;(try simp only[List.length_set]);omega)|exact leT rfl))|(refine⟨?_,?_⟩<;>omega)|(refine⟨?_,?_,?_⟩<;>first|omega|(show _<_;(try simp only[List.length_set]);omega)|exact leT rfl)|(simp only[show rI.d=(0:Int)from rfl];omega));done));(conv=>whnf))))
    simp only [hlast]
    refine EvCall.plain Try.call48 (.v (.bool true)) rfl (fun ρ W hp => by
      have := valid_s nm (ρ 3) l.length c5 d ⟨d.first + k, d.first + k, rLo d sm (d.first + k) - 1, rHi d sm (d.first + k)⟩ W
      rw [hvb] at this
      exact this) ?_
    ((conv=>whnf);(repeat(refine And.intro ?_ ?_;(focus((first|omega|exact⟨rfl,True.intro⟩|exact⟨rfl,rfl,True.intro⟩|rfl|(simp only[List.length_set];first|omega|(refine⟨?_,?_⟩<;>omega)|(refine⟨?_,?_,?_⟩<;>omega))|(intro hg;(try simp only[bB]at hg);first|omega|(refine⟨?_,?_⟩<;>omega)|(refine⟨?_,?_,?_⟩<;>first|omega|(show _<_;(try simp only[List.length_set]);omega)|exact leT rfl))|(refine⟨?_,?_⟩<;>omega)|(refine⟨?_,?_,?_⟩<;>first|omega|(show _<_;(try simp only[List.length_set]);omega)|exact leT rfl)|(simp only[show rI.d=(0:Int)from rfl];omega));done));(conv=>whnf))))
    refine EvCallC.plain Try.call41 (.v (.bool false)) rfl (fun _ ρ W hp => by
      have := hagrees_s _ _ _ d sb rs W (hp.decl (n := 3) (d := d) hnm hl hc1 hc2 rfl) hI (hp.rowsIn (R := rC) (n := 19) (c := f4) rfl (by decide) g7 g8 4) (hp.rowsIn (R := rI) (n := 9) (c := kr) rfl (by decide) r1 r2 1) hrb
      rw [hout] at this
      exact this) ?_
    ((conv=>whnf);(repeat(refine And.intro ?_ ?_;(focus((first|omega|exact⟨rfl,True.intro⟩|exact⟨rfl,rfl,True.intro⟩|rfl|(simp only[List.length_set];first|omega|(refine⟨?_,?_⟩<;>omega)|(refine⟨?_,?_,?_⟩<;>omega))|(intro hg;(try simp only[bB]at hg);first|omega|(refine⟨?_,?_⟩<;>omega)|(refine⟨?_,?_,?_⟩<;>first|omega|(show _<_;(try simp only[List.length_set]);omega)|exact leT rfl))|(refine⟨?_,?_⟩<;>omega)|(refine⟨?_,?_,?_⟩<;>first|omega|(show _<_;(try simp only[List.length_set]);omega)|exact leT rfl)|(simp only[show rI.d=(0:Int)from rfl];omega));done));(conv=>whnf))))
    refine EvIf.neg rfl ?_
    ((conv=>whnf);(repeat(refine And.intro ?_ ?_;(focus((first|omega|exact⟨rfl,True.intro⟩|exact⟨rfl,rfl,True.intro⟩|rfl|(simp only[List.length_set];first|omega|(refine⟨?_,?_⟩<;>omega)|(refine⟨?_,?_,?_⟩<;>omega))|(intro hg;(try simp only[bB]at hg);first|omega|(refine⟨?_,?_⟩<;>omega)|(refine⟨?_,?_,?_⟩<;>first|omega|(show _<_;(try simp only[List.length_set]);omega)|exact leT rfl))|(refine⟨?_,?_⟩<;>omega)|(refine⟨?_,?_,?_⟩<;>first|omega|(show _<_;(try simp only[List.length_set]);omega)|exact leT rfl)|(simp only[show rI.d=(0:Int)from rfl];omega));done));(conv=>whnf))))
    refine EvCallC.plain Try.call37 (.v (.bool true)) rfl (fun _ ρ W hp => by
      have := sameints_s _ _ (rLoL d sm (spanN d)) (rLoL d sm (spanN d)) W (hp.rowsIn (R := rI) (n := 14) (c := ka) rfl (by decide) x1 x2 1) (hp.rowsIn (R := rI) (n := 6) (c := p1) rfl (by decide) q1 q2 1)
      rw [decide_eq_true (show rLoL d sm (spanN d) = rLoL d sm (spanN d) by first | rfl | assumption)] at this
      exact this) ?_
    ((conv=>whnf);(repeat(refine And.intro ?_ ?_;(focus((first|omega|exact⟨rfl,True.intro⟩|exact⟨rfl,rfl,True.intro⟩|rfl|(simp only[List.length_set];first|omega|(refine⟨?_,?_⟩<;>omega)|(refine⟨?_,?_,?_⟩<;>omega))|(intro hg;(try simp only[bB]at hg);first|omega|(refine⟨?_,?_⟩<;>omega)|(refine⟨?_,?_,?_⟩<;>first|omega|(show _<_;(try simp only[List.length_set]);omega)|exact leT rfl))|(refine⟨?_,?_⟩<;>omega)|(refine⟨?_,?_,?_⟩<;>first|omega|(show _<_;(try simp only[List.length_set]);omega)|exact leT rfl)|(simp only[show rI.d=(0:Int)from rfl];omega));done));(conv=>whnf))))
    refine EvCallC.plain Try.call37 (.v (.bool true)) rfl (fun _ ρ W hp => by
      have := sameints_s _ _ (rHiL d sm (spanN d)) (rHiL d sm (spanN d)) W (hp.rowsIn (R := rI) (n := 15) (c := kb) rfl (by decide) y1 y2 1) (hp.rowsIn (R := rI) (n := 7) (c := p2) rfl (by decide) q3 q4 1)
      rw [decide_eq_true (show rHiL d sm (spanN d) = rHiL d sm (spanN d) by first | rfl | assumption)] at this
      exact this) ?_
    ((conv=>whnf);(repeat(refine And.intro ?_ ?_;(focus((first|omega|exact⟨rfl,True.intro⟩|exact⟨rfl,rfl,True.intro⟩|rfl|(simp only[List.length_set];first|omega|(refine⟨?_,?_⟩<;>omega)|(refine⟨?_,?_,?_⟩<;>omega))|(intro hg;(try simp only[bB]at hg);first|omega|(refine⟨?_,?_⟩<;>omega)|(refine⟨?_,?_,?_⟩<;>first|omega|(show _<_;(try simp only[List.length_set]);omega)|exact leT rfl))|(refine⟨?_,?_⟩<;>omega)|(refine⟨?_,?_,?_⟩<;>first|omega|(show _<_;(try simp only[List.length_set]);omega)|exact leT rfl)|(simp only[show rI.d=(0:Int)from rfl];omega));done));(conv=>whnf))))
    refine EvCallC.plain Try.call38 (.v (.bool true)) rfl (fun _ ρ W hp => lives13_s W) ?_
    ((conv=>whnf);(repeat(refine And.intro ?_ ?_;(focus((first|omega|exact⟨rfl,True.intro⟩|exact⟨rfl,rfl,True.intro⟩|rfl|(simp only[List.length_set];first|omega|(refine⟨?_,?_⟩<;>omega)|(refine⟨?_,?_,?_⟩<;>omega))|(intro hg;(try simp only[bB]at hg);first|omega|(refine⟨?_,?_⟩<;>omega)|(refine⟨?_,?_,?_⟩<;>first|omega|(show _<_;(try simp only[List.length_set]);omega)|exact leT rfl))|(refine⟨?_,?_⟩<;>omega)|(refine⟨?_,?_,?_⟩<;>first|omega|(show _<_;(try simp only[List.length_set]);omega)|exact leT rfl)|(simp only[show rI.d=(0:Int)from rfl];omega));done));(conv=>whnf))))
    exact EvRet.ret (fun ρ => rfl)
  · have hrd : rdR d sm seed = ([], 13) := by rw [rdR, hN, if_pos (by simp)]
    refine EvCall.two (ty := 3) (xs := []) (ys := []) (envES 0 13) (envES_den _ _) (envES_lt _ _) Try.call17 (fun ρ W hp => by
      have := new_s _ _ d sm W (hp.decl (n := 3) (d := d) hnm hl hc1 hc2 rfl) hI (hp.rowsIn (R := rC) (n := 5) (c := cap) rfl (by decide) hc3 hc4 4)
      rw [hN] at this
      exact this) (fun p1 p2 q1 q2 q3 q4 => ?_)
    ((conv=>whnf);(repeat(refine And.intro ?_ ?_;(focus((first|omega|exact⟨rfl,True.intro⟩|exact⟨rfl,rfl,True.intro⟩|rfl|(simp only[List.length_set];first|omega|(refine⟨?_,?_⟩<;>omega)|(refine⟨?_,?_,?_⟩<;>omega))|(intro hg;(try simp only[bB]at hg);first|omega|(refine⟨?_,?_⟩<;>omega)|(refine⟨?_,?_,?_⟩<;>first|omega|(show _<_;(try simp only[List.length_set]);omega)|exact leT rfl))|(refine⟨?_,?_⟩<;>omega)|(refine⟨?_,?_,?_⟩<;>first|omega|(show _<_;(try simp only[List.length_set]);omega)|exact leT rfl)|(simp only[show rI.d=(0:Int)from rfl];omega));done));(conv=>whnf))))
    (refine EvDraw.one (.q 0 (.q 1 (.q 2 (.q 3 (.q 4 (.q 5 (.q 6 (.q 7 (.q 8 (.n 9 false (.q 10 (.q 11 (.z))) (.e))))))))))) (by kernel_rfl) ?_)
    ((conv=>whnf);(repeat(refine And.intro ?_ ?_;(focus((first|omega|exact⟨rfl,True.intro⟩|exact⟨rfl,rfl,True.intro⟩|rfl|(simp only[List.length_set];first|omega|(refine⟨?_,?_⟩<;>omega)|(refine⟨?_,?_,?_⟩<;>omega))|(intro hg;(try simp only[bB]at hg);first|omega|(refine⟨?_,?_⟩<;>omega)|(refine⟨?_,?_,?_⟩<;>first|omega|(show _<_;(try simp only[List.length_set]);omega)|exact leT rfl))|(refine⟨?_,?_⟩<;>omega)|(refine⟨?_,?_,?_⟩<;>first|omega|(show _<_;(try simp only[List.length_set]);omega)|exact leT rfl)|(simp only[show rI.d=(0:Int)from rfl];omega));done));(conv=>whnf))))
    refine EvCall.plain Try.call19 (.v (.int .i64 (arnd t (d.last - d.first + 1)))) rfl (fun ρ W hp => around_s _ _ W ht (by omega) (by omega)) ?_
    generalize arnd t (d.last - d.first + 1) = y0 at a3 a4 ⊢
    ((conv=>whnf);(repeat(refine And.intro ?_ ?_;(focus((first|omega|exact⟨rfl,True.intro⟩|exact⟨rfl,rfl,True.intro⟩|rfl|(simp only[List.length_set];first|omega|(refine⟨?_,?_⟩<;>omega)|(refine⟨?_,?_,?_⟩<;>omega))|(intro hg;(try simp only[bB]at hg);first|omega|(refine⟨?_,?_⟩<;>omega)|(refine⟨?_,?_,?_⟩<;>first|omega|(show _<_;(try simp only[List.length_set]);omega)|exact leT rfl))|(refine⟨?_,?_⟩<;>omega)|(refine⟨?_,?_,?_⟩<;>first|omega|(show _<_;(try simp only[List.length_set]);omega)|exact leT rfl)|(simp only[show rI.d=(0:Int)from rfl];omega));done));(conv=>whnf))))
    refine EvCall.plain Try.call27 (.t [.v (.int .i64 0), .v (.int .i64 0), .v (.int .i64 9)]) rfl (fun ρ W hp => by
      have := at_s ⟨0, [], []⟩ _ _ _ _ _ _ (d.first + y0) W (hp.rowsIn (R := rI) (n := 6) (c := p1) rfl (by decide) q1 q2 1) (hp.rowsIn (R := rI) (n := 7) (c := p2) rfl (by decide) q3 q4 1) (by omega) (by show -1000000000 ≤ (0 : Int) ∧ (0 : Int) ≤ 1000000000; omega)
      rw [show atR ⟨0, [], []⟩ (d.first + y0) = (0, 0, 9) from if_neg (by simp)] at this
      exact this) ?_
    ((conv=>whnf);(repeat(refine And.intro ?_ ?_;(focus((first|omega|exact⟨rfl,True.intro⟩|exact⟨rfl,rfl,True.intro⟩|rfl|(simp only[List.length_set];first|omega|(refine⟨?_,?_⟩<;>omega)|(refine⟨?_,?_,?_⟩<;>omega))|(intro hg;(try simp only[bB]at hg);first|omega|(refine⟨?_,?_⟩<;>omega)|(refine⟨?_,?_,?_⟩<;>first|omega|(show _<_;(try simp only[List.length_set]);omega)|exact leT rfl))|(refine⟨?_,?_⟩<;>omega)|(refine⟨?_,?_,?_⟩<;>first|omega|(show _<_;(try simp only[List.length_set]);omega)|exact leT rfl)|(simp only[show rI.d=(0:Int)from rfl];omega));done));(conv=>whnf))))
    refine EvCall.rowsE (R := rI) (ty := 3) (xs := []) (z := 13) Try.call44 (fun ρ W hp => by
      have := hrandom_s _ _ d sm seed W (hp.decl (n := 3) (d := d) hnm hl hc1 hc2 rfl) hI hvc (by omega) hlv (hp.rowsIn (R := rC) (n := 5) (c := cap) rfl (by decide) hc3 hc4 4)
      rw [hrd] at this
      exact this) (fun kr r1 r2 => ?_)
    ((conv=>whnf);(repeat(refine And.intro ?_ ?_;(focus((first|omega|exact⟨rfl,True.intro⟩|exact⟨rfl,rfl,True.intro⟩|rfl|(simp only[List.length_set];first|omega|(refine⟨?_,?_⟩<;>omega)|(refine⟨?_,?_,?_⟩<;>omega))|(intro hg;(try simp only[bB]at hg);first|omega|(refine⟨?_,?_⟩<;>omega)|(refine⟨?_,?_,?_⟩<;>first|omega|(show _<_;(try simp only[List.length_set]);omega)|exact leT rfl))|(refine⟨?_,?_⟩<;>omega)|(refine⟨?_,?_,?_⟩<;>first|omega|(show _<_;(try simp only[List.length_set]);omega)|exact leT rfl)|(simp only[show rI.d=(0:Int)from rfl];omega));done));(conv=>whnf))))
    refine EvIf.pos rfl ?_
    ((conv=>whnf);(repeat(refine And.intro ?_ ?_;(focus((first|omega|exact⟨rfl,True.intro⟩|exact⟨rfl,rfl,True.intro⟩|rfl|(simp only[List.length_set];first|omega|(refine⟨?_,?_⟩<;>omega)|(refine⟨?_,?_,?_⟩<;>omega))|(intro hg;(try simp only[bB]at hg);first|omega|(refine⟨?_,?_⟩<;>omega)|(refine⟨?_,?_,?_⟩<;>first|omega|(show _<_;(try simp only[List.length_set]);omega)|exact leT rfl))|(refine⟨?_,?_⟩<;>omega)|(refine⟨?_,?_,?_⟩<;>first|omega|(show _<_;(try simp only[List.length_set]);omega)|exact leT rfl)|(simp only[show rI.d=(0:Int)from rfl];omega));done));(conv=>whnf))))
    refine EvCallC.plain Try.call38 (.v (.bool true)) rfl (fun _ ρ W hp => lives13_s W) ?_
    ((conv=>whnf);(repeat(refine And.intro ?_ ?_;(focus((first|omega|exact⟨rfl,True.intro⟩|exact⟨rfl,rfl,True.intro⟩|rfl|(simp only[List.length_set];first|omega|(refine⟨?_,?_⟩<;>omega)|(refine⟨?_,?_,?_⟩<;>omega))|(intro hg;(try simp only[bB]at hg);first|omega|(refine⟨?_,?_⟩<;>omega)|(refine⟨?_,?_,?_⟩<;>first|omega|(show _<_;(try simp only[List.length_set]);omega)|exact leT rfl))|(refine⟨?_,?_⟩<;>omega)|(refine⟨?_,?_,?_⟩<;>first|omega|(show _<_;(try simp only[List.length_set]);omega)|exact leT rfl)|(simp only[show rI.d=(0:Int)from rfl];omega));done));(conv=>whnf))))
    exact EvRet.ret (fun ρ => rfl)
theorem walk_HistoryMore (w : World) (V0 : Value) (zs : List Int) (h : Ints w V0 zs) (V1 : Value) (ms : List Int) (h2 : Ints w V1 ms) (V2 : Value) (ks : List Int) (h3 : Ints w V2 ks) (b : Bool) (t : Int) (ht : I64 t) (seed : Int) (hsd : I64 seed) :
    Calls Try.prog 10 #[V0, V1, V2, .bool b, .int .i64 t, .int .i64 seed] w fun e w' => e = .returned (.bool true) ∧ Below w.heap.size w w' :=
  (historymore_s V0 V1 V2 zs ms ks b t seed w h h2 h3 ht).out
end Go.Proofs.Ytnoenmacakbhdaa
