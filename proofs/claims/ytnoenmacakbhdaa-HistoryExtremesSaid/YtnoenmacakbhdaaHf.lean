
/- The law HistoryExtremes, walked. -/
import Derived.Test.YtnoenmacakbhdaaHe
namespace Go.Proofs.Ytnoenmacakbhdaa
open Go.RowKit
set_option linter.unusedVariables false
set_option linter.unusedSimpArgs false

set_option maxRecDepth 20000 in
theorem historyextremes_s (v1 v2 v3 : Value) (zs ms ks : List Int) (b : Bool) (w : World) (h1 : Ints w v1 zs) (h2 : Ints w v2 ms) (h3 : Ints w v3 ks) :
    Con Try.prog 14 #[v1, v2, v3, .bool b] w (Ret w (.bool true)) := by
  obtain ⟨A1, c1, rfl, e1, e2⟩ := h1.form
  obtain ⟨A2, c2, rfl, e3, e4⟩ := h2.form
  obtain ⟨A3, c3, rfl, e5, e6⟩ := h3.form
  have hT := declOf_T zs
  have hI := declOf_I' zs
  have hvc := declOf_vc zs
  refine enter tabOk mixed Try.func14 rfl Try.ntmps14 Try.results14 [.s 0 1 zs.length c1, .s 1 1 ms.length c2, .s 2 1 ks.length c3, .v (.bool b)] (fun n => if n = 0 then A1 else if n = 1 then A2 else A3) [⟨2, false, 3, 1, c3, .rows Int rI (ks)⟩, ⟨1, false, 3, 1, c2, .rows Int rI (ms)⟩, ⟨0, false, 3, 1, c1, .rows Int rI (zs)⟩] 3 rfl rfl (.ro (.ro (.ro (hp0 _ _ _) _ rfl rfl rfl (ro_ints h1 rfl _)) _ rfl rfl rfl (ro_ints h2 rfl _)) _ rfl rfl rfl (ro_ints h3 rfl _)) ?_
  ((conv=>whnf);repeat(refine And.intro (by omega) ?_;(conv=>whnf)))
  refine EvCall.decl Try.call15 (fun ρ W hp => decl_s _ zs W (hp.ints (n := 0) rfl e1 e2 h1.2)) (fun nm l c5 hnm hl hc1 hc2 => ?_)
  generalize declOf zs = d at hT hI hvc ⊢
  have hbd := valid_bounds hvc
  have hlv := some_valid d ms ks b hT
  have hsl := someL_len5 d ms ks b
  ((conv=>whnf);repeat(refine And.intro (by omega) ?_;(conv=>whnf)))
  refine EvCall.rows (R := rC) (ty := 52) (xs := someL d ms ks b) Try.call16 (fun ρ W hp => some_s nm _ _ _ d _ _ ms ks b W hT (hp.ints (n := 1) rfl e3 e4 h2.2) (hp.ints (n := 2) rfl e5 e6 h3.2)) (fun cap hc3 hc4 => ?_)
  generalize someL d ms ks b = sm at hc3 hlv hsl ⊢
  obtain ⟨sp, hsp⟩ : ∃ sp : Nat, (sp : Int) = d.last - d.first + 1 := ⟨(d.last - d.first + 1).toNat, by omega⟩
  have hsl2 := sortC_len sm
  have hset : newR d (sortC sm) = newR d sm := newR_set hvc hsp (fun c => by simp [mem_sortC]) (by omega) (by omega) hlv
  ((conv=>whnf);repeat(refine And.intro (by omega) ?_;(conv=>whnf)))
  rcases newR_cases hvc (by omega) hlv hsp with ⟨hok, hN⟩ | ⟨hno, hN⟩
  · obtain ⟨hL, hH⟩ := rL_hist hvc hlv hsp hok
    refine EvCall.rowsE (R := rI) (ty := 3) (xs := rLoL d sm sp) (z := 0) Try.call46 (fun ρ W hp => by
      have := hleast_s _ _ d sm W (hp.decl (n := 3) (d := d) hnm hl hc1 hc2 rfl) hI (hp.rowsIn (R := rC) (n := 5) (c := cap) rfl (by decide) hc3 hc4 4)
      rw [hN] at this
      exact this) (fun k1 a1 a2 => ?_)
    ((conv=>whnf);repeat(refine And.intro (by omega) ?_;(conv=>whnf)))
    (refine EvDraw.one (.q 0 (.q 1 (.n 2 false (.n 3 true (.q 4 (.q 5 (.q 6 (.q 7 (.q 8 (.z)))))) (.e)) (.e)))) (by kernel_rfl) ?_)
    ((conv=>whnf);repeat(refine And.intro (by omega) ?_;(conv=>whnf)))
    refine EvCall.rows (R := rC) (ty := 52) (xs := sortC sm) Try.call54 (fun ρ W hp => sort_s _ sm W (hp.rowsIn (R := rC) (n := 5) rfl (by decide) hc3 hc4 4) (by omega)) (fun caps hs1 hs2 => ?_)
    ((conv=>whnf);repeat(refine And.intro (by omega) ?_;(conv=>whnf)))
    refine EvCall.rowsE (R := rI) (ty := 3) (xs := rHiL d sm sp) (z := 0) Try.call47 (fun ρ W hp => by
      have := hgreat_s _ _ d (sortC sm) W (hp.decl (n := 3) (d := d) hnm hl hc1 hc2 rfl) hI (hp.rowsIn (R := rC) (n := 7) (c := caps) rfl (by decide) hs1 hs2 4)
      rw [hset, hN] at this
      exact this) (fun k2 b1 b2 => ?_)
    ((conv=>whnf);repeat(refine And.intro (by omega) ?_;(conv=>whnf)))
    refine EvCall.two (ty := 3) (xs := rLoL d sm sp) (ys := rHiL d sm sp) (envES d.first 0) (envES_den _ _) (envES_lt _ _) Try.call17 (fun ρ W hp => by
      have := new_s _ _ d sm W (hp.decl (n := 3) (d := d) hnm hl hc1 hc2 rfl) hI (hp.rowsIn (R := rC) (n := 5) (c := cap) rfl (by decide) hc3 hc4 4)
      rw [hN] at this
      exact this) (fun p1 p2 q1 q2 q3 q4 => ?_)
    ((conv=>whnf);repeat(refine And.intro (by omega) ?_;(conv=>whnf)))
    refine EvCallC.plain Try.call37 (.v (.bool true)) rfl (fun _ ρ W hp => by
      have := sameints_s _ _ (rLoL d sm sp) (rLoL d sm sp) W (hp.rowsIn (R := rI) (n := 6) (c := k1) rfl (by decide) a1 a2 1) (hp.rowsIn (R := rI) (n := 9) (c := p1) rfl (by decide) q1 q2 1)
      rw [decide_eq_true rfl] at this
      exact this) ?_
    ((conv=>whnf);repeat(refine And.intro (by omega) ?_;(conv=>whnf)))
    refine EvCallC.plain Try.call37 (.v (.bool true)) rfl (fun _ ρ W hp => by
      have := sameints_s _ _ (rHiL d sm sp) (rHiL d sm sp) W (hp.rowsIn (R := rI) (n := 8) (c := k2) rfl (by decide) b1 b2 1) (hp.rowsIn (R := rI) (n := 10) (c := p2) rfl (by decide) q3 q4 1)
      rw [decide_eq_true rfl] at this
      exact this) ?_
    ((conv=>whnf);repeat(refine And.intro (by omega) ?_;(conv=>whnf)))
    refine EvIf.neg rfl ?_
    ((conv=>whnf);repeat(refine And.intro (by omega) ?_;(conv=>whnf)))
    refine EvCallC.off Try.call38 (by simp) (.v (.bool false)) rfl ?_
    ((conv=>whnf);repeat(refine And.intro (by omega) ?_;(conv=>whnf)))
    refine EvCallC.plain Try.call41 (.v (.bool true)) rfl (fun _ ρ W hp => by
      have := hagrees_s _ _ _ d sm (rLoL d sm sp) W (hp.decl (n := 3) (d := d) hnm hl hc1 hc2 rfl) hI (hp.rowsIn (R := rC) (n := 5) (c := cap) rfl (by decide) hc3 hc4 4) (hp.rowsIn (R := rI) (n := 6) (c := k1) rfl (by decide) a1 a2 1) (hist_bd5 hvc hL)
      rw [agB_t.2 ⟨hvc, by omega, hL⟩] at this
      exact this) ?_
    ((conv=>whnf);repeat(refine And.intro (by omega) ?_;(conv=>whnf)))
    refine EvCallC.plain Try.call41 (.v (.bool true)) rfl (fun _ ρ W hp => by
      have := hagrees_s _ _ _ d sm (rHiL d sm sp) W (hp.decl (n := 3) (d := d) hnm hl hc1 hc2 rfl) hI (hp.rowsIn (R := rC) (n := 5) (c := cap) rfl (by decide) hc3 hc4 4) (hp.rowsIn (R := rI) (n := 8) (c := k2) rfl (by decide) b1 b2 1) (hist_bd5 hvc hH)
      rw [agB_t.2 ⟨hvc, by omega, hH⟩] at this
      exact this) ?_
    ((conv=>whnf);repeat(refine And.intro (by omega) ?_;(conv=>whnf)))
    refine EvCallC.plain Try.call38 (.v (.bool true)) rfl (fun _ ρ W hp => lives13_s W) ?_
    ((conv=>whnf);repeat(refine And.intro (by omega) ?_;(conv=>whnf)))
    exact EvRet.ret (fun ρ => rfl)
  · refine EvCall.rowsE (R := rI) (ty := 3) (xs := []) (z := 13) Try.call46 (fun ρ W hp => by
      have := hleast_s _ _ d sm W (hp.decl (n := 3) (d := d) hnm hl hc1 hc2 rfl) hI (hp.rowsIn (R := rC) (n := 5) (c := cap) rfl (by decide) hc3 hc4 4)
      rw [hN] at this
      exact this) (fun k1 a1 a2 => ?_)
    ((conv=>whnf);repeat(refine And.intro (by omega) ?_;(conv=>whnf)))
    (refine EvDraw.one (.q 0 (.q 1 (.n 2 false (.n 3 true (.q 4 (.q 5 (.q 6 (.q 7 (.q 8 (.z)))))) (.e)) (.e)))) (by kernel_rfl) ?_)
    ((conv=>whnf);repeat(refine And.intro (by omega) ?_;(conv=>whnf)))
    refine EvCall.rows (R := rC) (ty := 52) (xs := sortC sm) Try.call54 (fun ρ W hp => sort_s _ sm W (hp.rowsIn (R := rC) (n := 5) rfl (by decide) hc3 hc4 4) (by omega)) (fun caps hs1 hs2 => ?_)
    ((conv=>whnf);repeat(refine And.intro (by omega) ?_;(conv=>whnf)))
    refine EvCall.rowsE (R := rI) (ty := 3) (xs := []) (z := 13) Try.call47 (fun ρ W hp => by
      have := hgreat_s _ _ d (sortC sm) W (hp.decl (n := 3) (d := d) hnm hl hc1 hc2 rfl) hI (hp.rowsIn (R := rC) (n := 7) (c := caps) rfl (by decide) hs1 hs2 4)
      rw [hset, hN] at this
      exact this) (fun k2 b1 b2 => ?_)
    ((conv=>whnf);repeat(refine And.intro (by omega) ?_;(conv=>whnf)))
    refine EvCall.two (ty := 3) (xs := []) (ys := []) (envES 0 13) (envES_den _ _) (envES_lt _ _) Try.call17 (fun ρ W hp => by
      have := new_s _ _ d sm W (hp.decl (n := 3) (d := d) hnm hl hc1 hc2 rfl) hI (hp.rowsIn (R := rC) (n := 5) (c := cap) rfl (by decide) hc3 hc4 4)
      rw [hN] at this
      exact this) (fun p1 p2 q1 q2 q3 q4 => ?_)
    ((conv=>whnf);repeat(refine And.intro (by omega) ?_;(conv=>whnf)))
    refine EvCallC.plain Try.call37 (.v (.bool true)) rfl (fun _ ρ W hp => by
      have := sameints_s _ _ [] [] W (hp.rowsIn (R := rI) (n := 6) (c := k1) rfl (by decide) a1 a2 1) (hp.rowsIn (R := rI) (n := 9) (c := p1) rfl (by decide) q1 q2 1)
      rw [decide_eq_true rfl] at this
      exact this) ?_
    ((conv=>whnf);repeat(refine And.intro (by omega) ?_;(conv=>whnf)))
    refine EvCallC.plain Try.call37 (.v (.bool true)) rfl (fun _ ρ W hp => by
      have := sameints_s _ _ [] [] W (hp.rowsIn (R := rI) (n := 8) (c := k2) rfl (by decide) b1 b2 1) (hp.rowsIn (R := rI) (n := 10) (c := p2) rfl (by decide) q3 q4 1)
      rw [decide_eq_true rfl] at this
      exact this) ?_
    ((conv=>whnf);repeat(refine And.intro (by omega) ?_;(conv=>whnf)))
    refine EvIf.neg rfl ?_
    ((conv=>whnf);repeat(refine And.intro (by omega) ?_;(conv=>whnf)))
    refine EvCallC.plain Try.call38 (.v (.bool true)) rfl (fun _ ρ W hp => lives13_s W) ?_
    ((conv=>whnf);repeat(refine And.intro (by omega) ?_;(conv=>whnf)))
    refine EvCallC.off Try.call41 (by simp) (.v (.bool false)) rfl ?_
    ((conv=>whnf);repeat(refine And.intro (by omega) ?_;(conv=>whnf)))
    refine EvCallC.off Try.call41 (by simp) (.v (.bool false)) rfl ?_
    ((conv=>whnf);repeat(refine And.intro (by omega) ?_;(conv=>whnf)))
    refine EvCallC.off Try.call38 (by simp) (.v (.bool false)) rfl ?_
    ((conv=>whnf);repeat(refine And.intro (by omega) ?_;(conv=>whnf)))
    exact EvRet.ret (fun ρ => rfl)
theorem walk_HistoryExtremes (w : World) (V0 : Value) (zs : List Int) (h : Ints w V0 zs) (V1 : Value) (ms : List Int) (h2 : Ints w V1 ms) (V2 : Value) (ks : List Int) (h3 : Ints w V2 ks) (b : Bool) :
    Calls Try.prog 14 #[V0, V1, V2, .bool b] w fun e w' => e = .returned (.bool true) ∧ Below w.heap.size w w' :=
  (historyextremes_s V0 V1 V2 zs ms ks b w h h2 h3).out
end Go.Proofs.Ytnoenmacakbhdaa
