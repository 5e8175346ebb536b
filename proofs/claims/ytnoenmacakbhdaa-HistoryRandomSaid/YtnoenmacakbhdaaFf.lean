
/- The law EnvelopeWhy, walked. -/
import Derived.Test.YtnoenmacakbhdaaFe
namespace Go.Proofs.Ytnoenmacakbhdaa
open Go.RowKit
set_option linter.unusedVariables false
set_option linter.unusedSimpArgs false

theorem rowsNil {α : Type} (R : RowS α) (w : World) : RowsIn R w (.slice none 0 0) ([] : List α) := ⟨none, 0, rfl, Nat.le_refl _, by simp [maxLen], by simp [rowC], fun h => absurd h (by simp)⟩
theorem at_in {d : Dc} {l : List Cl} {n : Nat} {t : Int} (hn : (n : Int) = d.last - d.first + 1) (ht : d.first ≤ t ∧ t ≤ d.last) : atR ⟨d.first, rLoL d l n, rHiL d l n⟩ t = (rLo d l t, rHi d l t, 0) := by
  have hl1 := rLoL_len d l n
  have hl2 := rHiL_len d l n
  rw [atR, if_pos (by simp only; omega)]
  simp only
  rw [(rL_get d l n (t - d.first).toNat (by omega)).1, (rL_get d l n (t - d.first).toNat (by omega)).2, show d.first + ((t - d.first).toNat : Int) = t by omega]
theorem at_out {d : Dc} {l : List Cl} {n : Nat} {t : Int} (hn : (n : Int) = d.last - d.first + 1) (ht : t < d.first ∨ d.last < t) : atR ⟨d.first, rLoL d l n, rHiL d l n⟩ t = (0, 0, 9) := by
  have hl1 := rLoL_len d l n
  have hl2 := rHiL_len d l n
  rw [atR, if_neg (by simp only; omega)]
set_option maxRecDepth 20000 in
theorem envelopewhy_s (v1 v2 v3 : Value) (zs ms ks : List Int) (b : Bool) (t : Int) (up : Bool) (w : World) (h1 : Ints w v1 zs) (h2 : Ints w v2 ms) (h3 : Ints w v3 ks) (ht : I64 t) :
    Con Try.prog 4 #[v1, v2, v3, .bool b, .int .i64 t, .bool up] w (Ret w (.bool true)) := by
  obtain ⟨A1, c1, rfl, e1, e2⟩ := h1.form
  obtain ⟨A2, c2, rfl, e3, e4⟩ := h2.form
  obtain ⟨A3, c3, rfl, e5, e6⟩ := h3.form
  have hT := declOf_T zs
  have hI := declOf_I' zs
  have hvc := declOf_vc zs
  refine enter tabOk mixed Try.func4 rfl Try.ntmps4 Try.results4 [.s 0 1 zs.length c1, .s 1 1 ms.length c2, .s 2 1 ks.length c3, .v (.bool b), .v (.int .i64 t), .v (.bool up)] (fun n => if n = 0 then A1 else if n = 1 then A2 else A3) [⟨2, false, 3, 1, c3, .rows Int rI (ks)⟩, ⟨1, false, 3, 1, c2, .rows Int rI (ms)⟩, ⟨0, false, 3, 1, c1, .rows Int rI (zs)⟩] 3 rfl rfl (.ro (.ro (.ro (hp0 _ _ _) _ rfl rfl rfl (ro_ints h1 rfl _)) _ rfl rfl rfl (ro_ints h2 rfl _)) _ rfl rfl rfl (ro_ints h3 rfl _)) ?_
  ((conv=>whnf);repeat(refine And.intro (by omega) ?_;(conv=>whnf)))
  refine EvCall.decl Try.call15 (fun ρ W hp => decl_s _ zs W (hp.ints (n := 0) rfl e1 e2 h1.2)) (fun nm l c5 hnm hl hc1 hc2 => ?_)
  generalize declOf zs = d at hT hI hvc ⊢
  have hbd := valid_bounds hvc
  have hlv := some_valid d ms ks b hT
  have hsl := someL_len5 d ms ks b
  ((conv=>whnf);repeat(refine And.intro (by omega) ?_;(conv=>whnf)))
  refine EvCall.rows (R := rC) (ty := 52) (xs := someL d ms ks b) Try.call16 (fun ρ W hp => some_s nm _ _ _ d _ _ ms ks b W hT (hp.ints (n := 1) rfl e3 e4 h2.2) (hp.ints (n := 2) rfl e5 e6 h3.2)) (fun cap hc3 hc4 => ?_)
  generalize someL d ms ks b = sm at hc3 hlv hsl ⊢
  obtain ⟨sp, hsp⟩ : ∃ sp : Nat, (sp : Int) = d.last - d.first + 1 := ⟨(d.last - d.first + 1).toNat, by omega⟩
  have a1 := arnd_nn t (d.last - d.first + 3) (by omega)
  have a2 := arnd_lt t (d.last - d.first + 3) (by omega)
  ((conv=>whnf);repeat(refine And.intro (by omega) ?_;(conv=>whnf)))
  (refine EvDraw.one (.q 0 (.q 1 (.q 2 (.q 3 (.q 4 (.q 5 (.q 6 (.q 7 (.q 8 (.n 9 false (.q 10 (.q 11 (.q 12 (.z)))) (.e))))))))))) (by kernel_rfl) ?_)
  ((conv=>whnf);repeat(refine And.intro (by omega) ?_;(conv=>whnf)))
  refine EvCall.plain Try.call19 (.v (.int .i64 (arnd t (d.last - d.first + 3)))) rfl (fun ρ W hp => around_s _ _ W ht (by omega) (by omega)) ?_
  generalize arnd t (d.last - d.first + 3) = x0 at a1 a2 ⊢
  obtain ⟨x, hx⟩ : ∃ x, x = d.first + x0 - 1 := ⟨_, rfl⟩
  ((conv=>whnf);repeat(refine And.intro (by omega) ?_;(conv=>whnf)))
  rw [← hx]
  refine EvCall.plain Try.call25 (.t [.v (.int .i64 (whyR d sm x up).1), .v (.int .i64 (whyR d sm x up).2)]) rfl (fun ρ W hp => why_s _ _ d sm x up W (hp.decl (n := 3) (d := d) hnm hl hc1 hc2 rfl) hI hvc (by omega) hlv (hp.rowsIn (R := rC) (n := 5) (c := cap) rfl (by decide) hc3 hc4 4) (by omega)) ?_
  ((conv=>whnf);repeat(refine And.intro (by omega) ?_;(conv=>whnf)))
  rcases newR_cases hvc (by omega) hlv hsp with ⟨hok, hN⟩ | ⟨hno, hN⟩
  · refine EvCall.two (ty := 3) (xs := rLoL d sm sp) (ys := rHiL d sm sp) (envES d.first 0) (envES_den _ _) (envES_lt _ _) Try.call17 (fun ρ W hp => by
      have := new_s _ _ d sm W (hp.decl (n := 3) (d := d) hnm hl hc1 hc2 rfl) hI (hp.rowsIn (R := rC) (n := 5) (c := cap) rfl (by decide) hc3 hc4 4)
      rw [hN] at this
      exact this) (fun p1 p2 q1 q2 q3 q4 => ?_)
    by_cases hin : x < d.first ∨ d.last < x
    · have hr : whyR d sm x up = (0, 9) := by rw [whyR, hN, if_neg (by simp), if_pos hin]
      rw [hr]
      ((conv=>whnf);repeat(refine And.intro (by omega) ?_;(conv=>whnf)))
      refine EvIf.pos (by simp only [Bool.or_eq_true, decide_eq_true_eq]; simp; omega) ?_
      ((conv=>whnf);repeat(refine And.intro (by omega) ?_;(conv=>whnf)))
      refine EvIf.pos rfl ?_
      ((conv=>whnf);repeat(refine And.intro (by omega) ?_;(conv=>whnf)))
      refine EvCallC.plain Try.call18 (.v (.bool true)) rfl (fun _ ρ W hp => lives12_s W) ?_
      ((conv=>whnf);repeat(refine And.intro (by omega) ?_;(conv=>whnf)))
      exact EvRet.ret (fun ρ => rfl)
    have hr : whyR d sm x up = ((whyI d sm x up : Int) - 1, 0) := by rw [whyR, hN, if_neg (by simp), if_neg hin]
    rw [hr]
    ((conv=>whnf);repeat(refine And.intro (by omega) ?_;(conv=>whnf)))
    refine EvIf.neg (by simp; omega) ?_
    ((conv=>whnf);repeat(refine And.intro (by omega) ?_;(conv=>whnf)))
    refine EvCallC.plain Try.call26 (.v (.int .i64 ((whyI d sm x up : Int) - 1))) rfl (fun _ ρ W hp => ref_why_s nm _ _ _ _ d sm x up W hvc hlv (hp.rowsIn (R := rC) (n := 5) (c := cap) rfl (by decide) hc3 hc4 4) (by omega)) ?_
    ((conv=>whnf);repeat(refine And.intro (by omega) ?_;(conv=>whnf)))
    refine EvIf.neg (by simp) ?_
    obtain ⟨ho0, ho1, ho2⟩ := one_law (t := x) (up := up) hvc hlv hsp hok
    have hkl := (whyI_is d sm x up).1
    generalize whyI d sm x up = k at ho0 ho1 ho2 hkl ⊢
    ((conv=>whnf);repeat(refine And.intro (by omega) ?_;(conv=>whnf)))
    by_cases hk0 : k = 0
    · subst hk0
      have hone : oneL d sm 0 = [] := rfl
      rw [hone] at ho0 ho1 ho2
      refine EvIf.neg rfl ?_
      ((conv=>whnf);repeat(refine And.intro (by omega) ?_;(conv=>whnf)))
      refine EvCall.two (ty := 3) (xs := rLoL d [] sp) (ys := rHiL d [] sp) (envES d.first 0) (envES_den _ _) (envES_lt _ _) Try.call17 (fun ρ W hp => by
        have := new_s _ _ d [] W (hp.decl (n := 3) (d := d) hnm hl hc1 hc2 rfl) hI (rowsNil rC W)
        rw [ho0] at this
        exact this) (fun p3 p4 q5 q6 q7 q8 => ?_)
      ((conv=>whnf);repeat(refine And.intro (by omega) ?_;(conv=>whnf)))
      refine EvCall.plain Try.call27 (.t [.v (.int .i64 (rLo d sm x)), .v (.int .i64 (rHi d sm x)), .v (.int .i64 0)]) rfl (fun ρ W hp => by
        have := at_s ⟨d.first, rLoL d sm sp, rHiL d sm sp⟩ _ _ _ _ _ _ x W (hp.rowsIn (R := rI) (n := 6) (c := p1) rfl (by decide) q1 q2 1) (hp.rowsIn (R := rI) (n := 7) (c := p2) rfl (by decide) q3 q4 1) (by omega) (by show -1000000000 ≤ d.first ∧ d.first ≤ 1000000000; omega)
        rw [at_in hsp (by omega)] at this
        exact this) ?_
      ((conv=>whnf);repeat(refine And.intro (by omega) ?_;(conv=>whnf)))
      refine EvCall.plain Try.call27 (.t [.v (.int .i64 (rLo d [] x)), .v (.int .i64 (rHi d [] x)), .v (.int .i64 0)]) rfl (fun ρ W hp => by
        have := at_s ⟨d.first, rLoL d [] sp, rHiL d [] sp⟩ _ _ _ _ _ _ x W (hp.rowsIn (R := rI) (n := 9) (c := p3) rfl (by decide) q5 q6 1) (hp.rowsIn (R := rI) (n := 10) (c := p4) rfl (by decide) q7 q8 1) (by omega) (by show -1000000000 ≤ d.first ∧ d.first ≤ 1000000000; omega)
        rw [at_in hsp (by omega)] at this
        exact this) ?_
      ((conv=>whnf);repeat(refine And.intro (by omega) ?_;(conv=>whnf)))
      cases up with
      | true =>
        refine EvCallC.plain Try.call18 (.v (.bool true)) rfl (fun _ ρ W hp => lives12_s W) ?_
        ((conv=>whnf);repeat(refine And.intro (by omega) ?_;(conv=>whnf)))
        refine EvRet.ret (fun ρ => ?_)
        have hz := ho1 rfl
        simp only [den, hz]
        simp
      | false =>
        refine EvCallC.plain Try.call18 (.v (.bool true)) rfl (fun _ ρ W hp => lives12_s W) ?_
        ((conv=>whnf);repeat(refine And.intro (by omega) ?_;(conv=>whnf)))
        refine EvRet.ret (fun ρ => ?_)
        have hz := ho2 rfl
        simp only [den, hz]
        simp
    · obtain ⟨j, rfl⟩ : ∃ j, k = j + 1 := ⟨k - 1, by omega⟩
      have hone : oneL d sm (j + 1) = [sm.getD j cl0] := rfl
      rw [hone] at ho0 ho1 ho2
      have hji : ((j + 1 : Nat) : Int) - 1 = (j : Int) := by omega
      rw [hji]
      refine EvIf.pos (by simp) ?_
      ((conv=>whnf);(repeat(refine And.intro ?_ ?_;(focus((first|omega|exact⟨rfl,True.intro⟩|exact⟨rfl,rfl,True.intro⟩|rfl|(simp only[List.length_set];first|omega|(refine⟨?_,?_⟩<;>omega)|(refine⟨?_,?_,?_⟩<;>omega))|(intro hg;(try simp only[bB]at hg);first|omega|(refine⟨?_,?_⟩<;>omega)|(refine⟨?_,?_,?_⟩<;>first|omega|(show _<_;(try simp only[List.length_set]);omega)|exact leT rfl))|(refine⟨?_,?_⟩<;>omega)|(refine⟨?_,?_,?_⟩<;>first|omega|(show _<_;(try simp only[List.length_set]);omega)|exact leT rfl)|(simp only[show rI.d=(0:Int)from rfl];omega));done));(conv=>whnf))))
      refine EvBi.append_nil (R := rC) tyok29 rfl tyok52 rfl (by decide) rfl [sm.getD j cl0] (fun ρ W hp => hp.lit (R := rC) (ys := [sm.getD j cl0]) (n := 9) (sz := 4) (c := 1) rfl (by decide) (by simp) (by omega) rfl) (by show 1 * 32 ≤ _; omega) (by show 1 ≤ _; omega) (fun ca hq1 hq2 => ?_)
      ((conv=>whnf);repeat(refine And.intro (by omega) ?_;(conv=>whnf)))
      refine EvCall.two (ty := 3) (xs := rLoL d [sm.getD j cl0] sp) (ys := rHiL d [sm.getD j cl0] sp) (envES d.first 0) (envES_den _ _) (envES_lt _ _) Try.call17 (fun ρ W hp => by
        have := new_s _ _ d [sm.getD j cl0] W (hp.decl (n := 3) (d := d) hnm hl hc1 hc2 rfl) hI (hp.rowsIn (R := rC) (n := 10) (c := ca) rfl (by decide) hq1 hq2 4)
        rw [ho0] at this
        exact this) (fun p3 p4 q5 q6 q7 q8 => ?_)
      ((conv=>whnf);repeat(refine And.intro (by omega) ?_;(conv=>whnf)))
      refine EvCall.plain Try.call27 (.t [.v (.int .i64 (rLo d sm x)), .v (.int .i64 (rHi d sm x)), .v (.int .i64 0)]) rfl (fun ρ W hp => by
        have := at_s ⟨d.first, rLoL d sm sp, rHiL d sm sp⟩ _ _ _ _ _ _ x W (hp.rowsIn (R := rI) (n := 6) (c := p1) rfl (by decide) q1 q2 1) (hp.rowsIn (R := rI) (n := 7) (c := p2) rfl (by decide) q3 q4 1) (by omega) (by show -1000000000 ≤ d.first ∧ d.first ≤ 1000000000; omega)
        rw [at_in hsp (by omega)] at this
        exact this) ?_
      ((conv=>whnf);repeat(refine And.intro (by omega) ?_;(conv=>whnf)))
      refine EvCall.plain Try.call27 (.t [.v (.int .i64 (rLo d [sm.getD j cl0] x)), .v (.int .i64 (rHi d [sm.getD j cl0] x)), .v (.int .i64 0)]) rfl (fun ρ W hp => by
        have := at_s ⟨d.first, rLoL d [sm.getD j cl0] sp, rHiL d [sm.getD j cl0] sp⟩ _ _ _ _ _ _ x W (hp.rowsIn (R := rI) (n := 11) (c := p3) rfl (by decide) q5 q6 1) (hp.rowsIn (R := rI) (n := 12) (c := p4) rfl (by decide) q7 q8 1) (by omega) (by show -1000000000 ≤ d.first ∧ d.first ≤ 1000000000; omega)
        rw [at_in hsp (by omega)] at this
        exact this) ?_
      ((conv=>whnf);repeat(refine And.intro (by omega) ?_;(conv=>whnf)))
      cases up with
      | true =>
        refine EvCallC.plain Try.call18 (.v (.bool true)) rfl (fun _ ρ W hp => lives12_s W) ?_
        ((conv=>whnf);repeat(refine And.intro (by omega) ?_;(conv=>whnf)))
        refine EvRet.ret (fun ρ => ?_)
        have hz := ho1 rfl
        simp only [den, hz]
        simp
      | false =>
        refine EvCallC.plain Try.call18 (.v (.bool true)) rfl (fun _ ρ W hp => lives12_s W) ?_
        ((conv=>whnf);repeat(refine And.intro (by omega) ?_;(conv=>whnf)))
        refine EvRet.ret (fun ρ => ?_)
        have hz := ho2 rfl
        simp only [den, hz]
        simp
  · have hr : whyR d sm x up = (0, 13) := by rw [whyR, hN, if_pos (by simp)]
    rw [hr]
    refine EvCall.two (ty := 3) (xs := []) (ys := []) (envES 0 13) (envES_den _ _) (envES_lt _ _) Try.call17 (fun ρ W hp => by
      have := new_s _ _ d sm W (hp.decl (n := 3) (d := d) hnm hl hc1 hc2 rfl) hI (hp.rowsIn (R := rC) (n := 5) (c := cap) rfl (by decide) hc3 hc4 4)
      rw [hN] at this
      exact this) (fun p1 p2 q1 q2 q3 q4 => ?_)
    ((conv=>whnf);repeat(refine And.intro (by omega) ?_;(conv=>whnf)))
    refine EvIf.pos rfl ?_
    ((conv=>whnf);repeat(refine And.intro (by omega) ?_;(conv=>whnf)))
    refine EvIf.neg rfl ?_
    ((conv=>whnf);repeat(refine And.intro (by omega) ?_;(conv=>whnf)))
    refine EvCallC.plain Try.call18 (.v (.bool true)) rfl (fun _ ρ W hp => lives12_s W) ?_
    ((conv=>whnf);repeat(refine And.intro (by omega) ?_;(conv=>whnf)))
    exact EvRet.ret (fun ρ => rfl)
theorem walk_EnvelopeWhy (w : World) (V0 : Value) (zs : List Int) (h : Ints w V0 zs) (V1 : Value) (ms : List Int) (h2 : Ints w V1 ms) (V2 : Value) (ks : List Int) (h3 : Ints w V2 ks) (b : Bool) (t : Int) (ht : I64 t) (up : Bool) :
    Calls Try.prog 4 #[V0, V1, V2, .bool b, .int .i64 t, .bool up] w fun e w' => e = .returned (.bool true) ∧ Below w.heap.size w w' :=
  (envelopewhy_s V0 V1 V2 zs ms ks b t up w h h2 h3 ht).out
end Go.Proofs.Ytnoenmacakbhdaa
