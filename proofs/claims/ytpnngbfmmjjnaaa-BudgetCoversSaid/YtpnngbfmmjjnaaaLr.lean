
/- Lossy steps: one step by its number; the law LossyWeaker, walked. -/
import Derived.Test.YtpnngbfmmjjnaaaLq
import Derived.Test.YtpnngbfmmjjnaaaLh
namespace Go.Proofs.Ytpnngbfmmjjnaaa
open Go.RowKit
set_option linter.unusedVariables false
set_option linter.unusedSimpArgs false

noncomputable def rawL (k : Nat) (d : Dc) (l : List Cl) (n : Int) : List Cl := match k with
  | 0 => l.map (wid n)
  | 1 => thnL d (newR d l).1 l n
  | 2 => rolL (newR d l).1.f n (newR d l).1.lo (newR d l).1.hi (newR d l).1.lo.length
  | _ => keptL (newR d l).1 l n
noncomputable def stpR (k : Nat) (d : Dc) (l : List Cl) (n : Int) : List Cl × Int × Int := match k with
  | 0 => quR d l n
  | 1 => thnR d l n
  | 2 => rolR d l n
  | _ => retR d l n
theorem stp_fin {k : Nat} {d : Dc} {l : List Cl} {n : Int} (hk : k < 4) (h : (newR d l).2 = 0) (hn : (k = 1 ∧ 0 ≤ n) ∨ (1 ≤ n ∧ n ≤ 16)) : stpR k d l n = finR d l (rawL k d l n) := by
  have h0 : ¬ (newR d l).2 ≠ 0 := by rw [h]; simp
  match k, hk with
  | 0, _ => simp only [stpR, rawL]; unfold quR; rw [if_neg h0, if_neg (by omega)]
  | 1, _ => simp only [stpR, rawL]; unfold thnR; rw [if_neg h0, if_neg (by omega)]
  | 2, _ => simp only [stpR, rawL]; unfold rolR; rw [if_neg h0, if_neg (by omega)]
  | 3, _ => simp only [stpR, rawL]; unfold retR; rw [if_neg h0, if_neg (by omega)]
theorem raw_weak {k : Nat} {d : Dc} {l : List Cl} {n : Int} (hk : k < 4) (h : (newR d l).2 = 0) (hl : l.length ≤ 4000) (hn : (k = 1 ∧ 0 ≤ n) ∨ (1 ≤ n ∧ n ≤ 16)) : WkC d l (rawL k d l n) := by
  match k, hk with
  | 0, _ => exact wid_weak h (by omega)
  | 1, _ => exact sub_weak h (thn_mem h).1 (by have := (thn_mem (most := n) h).2.1; simp only [rawL]; omega)
  | 2, _ => exact rol_weak h
  | 3, _ => exact ret_weak h hl
/-- What a step gives. -/
theorem stp_spec {k : Nat} {d : Dc} {l : List Cl} {n : Int} (hk : k < 4) (h : (newR d l).2 = 0) (hl : l.length ≤ 4000) (hn : (k = 1 ∧ 0 ≤ n) ∨ (1 ≤ n ∧ n ≤ 16)) :
    ∃ cost E, stpR k d l n = (sortC (rawL k d l n), cost, 0) ∧ newR d (sortC (rawL k d l n)) = (E, 0) ∧ newR d (rawL k d l n) = (E, 0) ∧ growthR (newR d l).1 E = (cost, 0) ∧ 0 ≤ cost ∧ (k = 1 → cost ≤ n) ∧ withinB (newR d l).1 E = true := by
  have hw := raw_weak hk h hl hn
  obtain ⟨a1, a2, a3, a4, a5⟩ := hw.new h
  have hE : newR d (rawL k d l n) = ((newR d (rawL k d l n)).1, 0) := Prod.ext rfl a1
  refine ⟨mxM (gW (newR d l).1 (newR d (rawL k d l n)).1) (spanN d), (newR d (rawL k d l n)).1, (stp_fin hk h hn).trans a3, a2.trans hE, hE, a5, a4, fun h1 => ?_, ?_⟩
  · subst h1
    exact thn_cost h (by omega)
  · obtain ⟨hv, f1, f2, f3, f4, f5, f6⟩ := newR_facts h
    obtain ⟨_, g1, g2, g3, g4, g5, g6⟩ := newR_facts a1
    obtain ⟨_, _, _, _, e1⟩ := newR_ok h
    obtain ⟨_, _, _, _, e2⟩ := newR_ok a1
    unfold withinB
    simp only [alikeB, f1, f2, f3, g1, g2, g3, decide_true, Bool.and_self, Bool.true_and, List.all_eq_true, List.mem_range, Bool.and_eq_true, decide_eq_true_eq]
    intro i hi
    have := hw.w i hi
    rw [e1, e2]
    simp only [(rL_get d _ _ i hi).1, (rL_get d _ _ i hi).2]
    exact this
theorem rol_ok14 {d : Dc} {l : List Cl} {n : Int} (h : spanN d < 102) : SortOk (rolL (newR d l).1.f n (newR d l).1.lo (newR d l).1.hi (newR d l).1.lo.length) := by
  refine rolL_ok _ _ _ _ _ ?_
  by_cases h0 : (newR d l).2 = 0
  · rw [(newR_facts h0).2.2.1]; exact h
  · unfold newR at *
    split
    · simp [env0']
    · split
      · simp [env0']
      · rename_i h1 h2
        rw [if_neg h1, if_neg h2] at h0
        exact absurd rfl h0
set_option maxRecDepth 20000 in
theorem step_s (k : Nat) (hk : k < 4) (V v : Value) (d : Dc) (l : List Cl) (n : Int) (w : World) (h : DeclIs w V d) (hI : DcI d) (hv : RowsIn rC w v l) (hl : l.length ≤ 11 ∨ (k = 2 ∨ k = 1) ∧ SortOk l) (hsp : spanN d < 102) :
    Con Try.prog 28 #[.int .i64 (k : Int), V, v, .int .i64 n] w (RetR3 rC 62 w (stpR k d l n).1 (stpR k d l n).2.1 (stpR k d l n).2.2) := by
  have hD := h
  obtain ⟨nm, A, c, lb, rfl, hnm, hlab, hSh⟩ := h
  obtain ⟨A1, c1, rfl, e1, e2⟩ := hv.form
  have hrl := rol_ok14 (l := l) (n := n) hsp
  have hso : SortOk l := by
    rcases hl with h | h
    · exact .inl (by omega)
    · exact h.2
  have hsp2 : d.last - d.first ≤ 999999 := by unfold spanN at hsp; omega
  refine enter tabOk mixed Try.func28 rfl Try.ntmps28 Try.results28 [.v (.int .i64 (k : Int)), .a (dcS nm (.v (.slice A lb.length c)) d), .s 0 4 l.length c1, .v (.int .i64 n)] (fun _ => A1) [⟨0, false, 62, 4, c1, .rows Cl rC (l)⟩] 1 rfl rfl (.ro (hp0 _ _ _) _ rfl rfl rfl (ro_rows hv rfl _)) ?_
  ((conv=>whnf);repeat(refine And.intro (by omega) ?_;(conv=>whnf)))
  match k, hk with
  | 0, _ =>
    refine EvIf.pos rfl ?_
    simp only [stpR]
    ((conv=>whnf);repeat(refine And.intro (by omega) ?_;(conv=>whnf)))
    refine EvCall.rows3 (R := rC) (ty := 62) (xs := (quR d l n).1) (c := (quR d l n).2.1) (z := (quR d l n).2.2) Try.call18 (fun ρ W hp => quantise_s _ _ d l n W (hD.below hp.bel) hI (hp.rowsIn (R := rC) (n := 0) (c := c1) rfl (by decide) e1 e2 4) (by omega)) (fun kk z1 z2 => ?_)
    ((conv=>whnf);repeat(refine And.intro (by omega) ?_;(conv=>whnf)))
    exact EvRet.rows3 (R := rC) rfl z1 rfl rfl rfl rfl
  | 1, _ =>
    refine EvIf.neg rfl ?_
    ((conv=>whnf);repeat(refine And.intro (by omega) ?_;(conv=>whnf)))
    refine EvIf.pos rfl ?_
    simp only [stpR]
    ((conv=>whnf);repeat(refine And.intro (by omega) ?_;(conv=>whnf)))
    refine EvCall.rows3 (R := rC) (ty := 62) (xs := (thnR d l n).1) (c := (thnR d l n).2.1) (z := (thnR d l n).2.2) Try.call19 (fun ρ W hp => thin_s _ _ d l n W (hD.below hp.bel) hI (hp.rowsIn (R := rC) (n := 0) (c := c1) rfl (by decide) e1 e2 4) hso hsp2) (fun kk z1 z2 => ?_)
    ((conv=>whnf);repeat(refine And.intro (by omega) ?_;(conv=>whnf)))
    exact EvRet.rows3 (R := rC) rfl z1 rfl rfl rfl rfl
  | 2, _ =>
    refine EvIf.neg rfl ?_
    ((conv=>whnf);repeat(refine And.intro (by omega) ?_;(conv=>whnf)))
    refine EvIf.neg rfl ?_
    ((conv=>whnf);repeat(refine And.intro (by omega) ?_;(conv=>whnf)))
    refine EvIf.pos rfl ?_
    simp only [stpR]
    ((conv=>whnf);repeat(refine And.intro (by omega) ?_;(conv=>whnf)))
    refine EvCall.rows3 (R := rC) (ty := 62) (xs := (rolR d l n).1) (c := (rolR d l n).2.1) (z := (rolR d l n).2.2) Try.call20 (fun ρ W hp => rollup_s _ _ d l n W (hD.below hp.bel) hI (hp.rowsIn (R := rC) (n := 0) (c := c1) rfl (by decide) e1 e2 4) hrl) (fun kk z1 z2 => ?_)
    ((conv=>whnf);repeat(refine And.intro (by omega) ?_;(conv=>whnf)))
    exact EvRet.rows3 (R := rC) rfl z1 rfl rfl rfl rfl
  | 3, _ =>
    refine EvIf.neg rfl ?_
    ((conv=>whnf);repeat(refine And.intro (by omega) ?_;(conv=>whnf)))
    refine EvIf.neg rfl ?_
    ((conv=>whnf);repeat(refine And.intro (by omega) ?_;(conv=>whnf)))
    refine EvIf.neg rfl ?_
    simp only [stpR]
    ((conv=>whnf);repeat(refine And.intro (by omega) ?_;(conv=>whnf)))
    refine EvCall.rows3 (R := rC) (ty := 62) (xs := (retR d l n).1) (c := (retR d l n).2.1) (z := (retR d l n).2.2) Try.call21 (fun ρ W hp => retain_s _ _ d l n W (hD.below hp.bel) hI (hp.rowsIn (R := rC) (n := 0) (c := c1) rfl (by decide) e1 e2 4) (by omega)) (fun kk z1 z2 => ?_)
    ((conv=>whnf);repeat(refine And.intro (by omega) ?_;(conv=>whnf)))
    exact EvRet.rows3 (R := rC) rfl z1 rfl rfl rfl rfl
set_option maxHeartbeats 1000000 in
set_option maxRecDepth 20000 in
theorem lossyweaker_s (v1 v2 v3 : Value) (zs ms ks : List Int) (n : Int) (w : World) (h1 : Ints w v1 zs) (h2 : Ints w v2 ms) (h3 : Ints w v3 ks) (hn : I64 n) :
    Con Try.prog 10 #[v1, v2, v3, .int .i64 n] w (Ret w (.bool true)) := by
  obtain ⟨A1, c1, rfl, e1, e2⟩ := h1.form
  obtain ⟨A2, c2, rfl, e3, e4⟩ := h2.form
  obtain ⟨A3, c3, rfl, e5, e6⟩ := h3.form
  have hT := declOf_T zs
  have hI := declOf_I' zs
  refine enter tabOk mixed Try.func10 rfl Try.ntmps10 Try.results10 [.s 0 1 zs.length c1, .s 1 1 ms.length c2, .s 2 1 ks.length c3, .v (.int .i64 n)] (fun n => if n = 0 then A1 else if n = 1 then A2 else A3) [⟨2, false, 3, 1, c3, .rows Int rI (ks)⟩, ⟨1, false, 3, 1, c2, .rows Int rI (ms)⟩, ⟨0, false, 3, 1, c1, .rows Int rI (zs)⟩] 3 rfl rfl (.ro (.ro (.ro (hp0 _ _ _) _ rfl rfl rfl (ro_ints h1 rfl _)) _ rfl rfl rfl (ro_ints h2 rfl _)) _ rfl rfl rfl (ro_ints h3 rfl _)) ?_
  ((conv=>whnf);repeat(refine And.intro (by omega) ?_;(conv=>whnf)))
  refine EvCall.inline tabOk mixed Try.func25 rfl Try.ntmps25 Try.results25 Try.call25 rfl (fun ρ0 => ?_)
  ((conv=>whnf);repeat(refine And.intro (by omega) ?_;(conv=>whnf)))
  refine EvCall.decl Try.call11 (fun ρ W hp => decl_s _ zs W (hp.ints (n := 0) rfl e1 e2 h1.2)) (fun nm l c5 hnm hl hc1 hc2 => ?_)
  generalize declOf zs = d at hT hI ⊢
  have hil := insL_span d ms hT
  have hTT := hT
  obtain ⟨t1, t2, t3⟩ := hTT
  ((conv=>whnf);repeat(refine And.intro (by omega) ?_;(conv=>whnf)))
  (refine EvDraw.one (.q 0 (.q 1 (.q 2 (.q 4 (.n 3 false (.n 5 true (.q 6 (.z)) (.e)) (.e)))))) (by kernel_rfl) ?_)
  ((conv=>whnf);repeat(refine And.intro (by omega) ?_;(conv=>whnf)))
  refine EvCall.rows (R := rI) (ty := 3) (xs := insL d ms (spanN d)) Try.call13 (fun ρ W hp => inside_s nm _ _ _ d _ ms W hT (hp.ints (n := 1) rfl e3 e4 h2.2)) (fun ca a1 a2 => ?_)
  ((conv=>whnf);repeat(refine And.intro (by omega) ?_;(conv=>whnf)))
  refine EvCall.rows (R := rC) (ty := 62) (xs := arL d (insL d ms (spanN d)) ks (arN ks 5)) Try.call12 (fun ρ W hp => ref_around_s nm _ _ _ d _ _ _ ks 5 W hT (hp.ints (n := 7) rfl a1 a2 (insL_i64 d ms hT)) (hp.ints (n := 2) rfl e5 e6 h3.2) (by omega) (by omega) (by omega) (insL_small d ms hT)) (fun cap hc3 hc4 => ?_)
  have hsl : (arL d (insL d ms (spanN d)) ks (arN ks 5)).length ≤ 5 := by rw [arL_len]; unfold arN; omega
  generalize arL d (insL d ms (spanN d)) ks (arN ks 5) = sm at hc3 hsl ⊢
  ((conv=>whnf);repeat(refine And.intro (by omega) ?_;(conv=>whnf)))
  refine EvCall.two (ty := 3) (xs := (newR d sm).1.lo) (ys := (newR d sm).1.hi) (envES (newR d sm).1.f (newR d sm).2) (envES_den _ _) (envES_lt _ _) Try.call14 (fun ρ W hp => new_s _ _ d sm W (hp.decl (n := 5) (d := d) hnm hl hc1 hc2 rfl) hI (hp.rowsIn (R := rC) (n := 8) (c := cap) rfl (by decide) hc3 hc4 4)) (fun p1 p2 q1 q2 q3 q4 => ?_)
  ((conv=>whnf);repeat(refine And.intro (by omega) ?_;(conv=>whnf)))
  (refine EvDraw.oneR (.q 0 (.q 1 (.q 2 (.q 3 (.q 4 (.n 5 true (.q 6 (.n 7 true (.q 8 (.z)) (.e))) (.e))))))) [2] [11] (by kernel_rfl) ?_)
  ((conv=>whnf);(repeat(refine And.intro ?_ ?_;(focus((first|omega|exact⟨rfl,True.intro⟩|exact⟨rfl,rfl,True.intro⟩|rfl|(simp only[List.length_set];first|omega|(refine⟨?_,?_⟩<;>omega)|(refine⟨?_,?_,?_⟩<;>omega))|(intro hg;(try simp only[bB]at hg);first|omega|(refine⟨?_,?_⟩<;>omega)|(refine⟨?_,?_,?_⟩<;>first|omega|(show _<_;(try simp only[List.length_set]);omega)|exact leT rfl))|(refine⟨?_,?_⟩<;>omega)|(refine⟨?_,?_,?_⟩<;>first|omega|(show _<_;(try simp only[List.length_set]);omega)|exact leT rfl)|(simp only[show rI.d=(0:Int)from rfl];omega));done));(conv=>whnf))))
  refine EvRet.back ?_
  ((conv=>whnf);repeat(refine And.intro (by omega) ?_;(conv=>whnf)))
  refine EvIf.split (fun g => ?_) (fun g => ?_)
  · skip
    ((conv=>whnf);repeat(refine And.intro (by omega) ?_;(conv=>whnf)))
    refine EvCall.plain Try.call26 (.v (.bool true)) rfl (fun ρ W hp => lives16_s W) ?_
    ((conv=>whnf);repeat(refine And.intro (by omega) ?_;(conv=>whnf)))
    exact EvRet.ret (fun ρ => rfl)
  have g0 : (newR d sm).2 = 0 := by simpa using g
  obtain ⟨hvc, hll, hlv, hok, hN⟩ := newR_ok g0
  have hbd := valid_bounds hvc
  have hsp : (spanN d : Int) = d.last - d.first + 1 := by unfold spanN; omega
  have hl1 := rLoL_len d sm (spanN d)
  have hl2 := rHiL_len d sm (spanN d)
  rw [hN] at q1 q3 ⊢
  simp only at q1 q3
  dsimp only
  have har := arnd_nn n 16 (by omega)
  have har2 := arnd_lt n 16 (by omega)
  have hars := fun W => around_s n 16 W hn (by omega) (by omega)
  generalize arnd n 16 = P at *
  ((conv=>whnf);repeat(refine And.intro (by omega) ?_;(conv=>whnf)))
  refine EvCall.plain Try.call17 (.v (.int .i64 P)) rfl (fun ρ W hp => hars W) ?_
  ((conv=>whnf);repeat(refine And.intro (by omega) ?_;(conv=>whnf)))
  have hspec := fun (k : Nat) (hk : k < 4) => stp_spec (k := k) (d := d) (l := sm) (n := 1 + P) hk g0 (by omega) (.inr (by omega))
  rw [hN] at hspec
  have hst := fun (k : Nat) (hk : k < 4) V v W hd hv => step_s k hk V v d sm (1 + P) W hd hI hv (.inl (by omega)) (by omega)
  simp only at hspec
  obtain ⟨raw, hraw⟩ : ∃ raw : Nat → List Cl, raw = fun k => sortC (rawL k d sm (1 + P)) := ⟨_, rfl⟩
  have hspec : ∀ k, k < 4 → ∃ cost E, stpR k d sm (1 + P) = (raw k, cost, 0) ∧ newR d (raw k) = (E, 0) ∧ growthR ⟨d.first, rLoL d sm (spanN d), rHiL d sm (spanN d)⟩ E = (cost, 0) ∧ 0 ≤ cost ∧ (k = 1 → cost ≤ 1 + P) ∧ withinB ⟨d.first, rLoL d sm (spanN d), rHiL d sm (spanN d)⟩ E = true := fun k hk => by
    obtain ⟨cost, E, b1, b2, b3, b4, b5, b6, b7⟩ := hspec k hk
    exact ⟨cost, E, by rw [hraw]; exact b1, by rw [hraw]; exact b2, b4, b5, b6, b7⟩
  clear hraw
  generalize hLw : rLoL d sm (spanN d) = lo at *
  generalize hHw : rHiL d sm (spanN d) = hi at *
  refine EvLoop.inv (α := Nat) (fun i => i ≤ 4) (fun i => 4 - i) (fun i => [(14, [], .v (.int .i64 ((i : Int)))), (13, [], .v (.int .i64 ((1 + P)))), (8, [], .v (.bool (false))), (9, [], .p 12 0), (10, [], .s 8 4 sm.length cap), (11, [], .p 13 0)])
    (fun i => [⟨13, true, 33, 3, 1, .cs [.v (.int .i64 d.first), .s 9 1 lo.length p1, .s 10 1 hi.length p2]⟩, ⟨12, true, 27, 12, 1, .cs (dcS nm (.s 5 2 l.length c5) d)⟩, ⟨10, true, 3, 1, p2, .rows Int rI hi⟩, ⟨9, true, 3, 1, p1, .rows Int rI lo⟩, ⟨8, true, 62, 4, cap, .rows Cl rC sm⟩, ⟨5, true, 101, 2, c5, .rows (ByteArray × ByteArray) rL l⟩]) 14 0 (by omega) (Sub.of [] [] rfl ?_) ?_
  · ((repeat' (refine And.intro ?_ ?_)) <;> first | rfl | exact True.intro | omega)
  intro i hi4
  ((conv=>whnf);repeat(refine And.intro (by omega) ?_;(conv=>whnf)))
  refine EvIf.split (fun g1 => ?_) (fun g1 => ?_)
  · have hi5 : i < 4 := by have := of_decide_eq_true g1; omega
    obtain ⟨cost, E, b1, b2, b3, b4, b5, b6⟩ := hspec i hi5
    have hs := hst i hi5
    rw [b1] at hs
    generalize raw i = x at *
    ((conv=>whnf);repeat(refine And.intro (by omega) ?_;(conv=>whnf)))
    refine EvCall.rows3 (R := rC) (ty := 62) (xs := x) (c := cost) (z := 0) Try.call28 (fun ρ W hp => hs _ _ W (hp.decl (n := 5) (d := d) hnm hl hc1 hc2 rfl) (hp.rowsIn (R := rC) (n := 8) (c := cap) rfl (by decide) hc3 hc4 4)) (fun cx x1 x2 => ?_)
    ((conv=>whnf);repeat(refine And.intro (by omega) ?_;(conv=>whnf)))
    refine EvCall.two (ty := 3) (xs := E.lo) (ys := E.hi) (envES E.f 0) (envES_den _ _) (envES_lt _ _) Try.call14 (fun ρ W hp => by
      have := new_s _ _ d x W (hp.decl (n := 5) (d := d) hnm hl hc1 hc2 rfl) hI (hp.rowsIn (R := rC) (n := 14) (c := cx) rfl (by decide) x1 x2 4)
      rw [b2] at this
      exact this) (fun r1 r2 s1 s2 s3 s4 => ?_)
    ((conv=>whnf);repeat(refine And.intro (by omega) ?_;(conv=>whnf)))
    refine EvCall.plain Try.call23 (.t [.v (.int .i64 cost), .v (.int .i64 0)]) rfl (fun ρ W hp => by
      have := growth_s ⟨d.first, lo, hi⟩ E _ _ _ _ _ _ _ _ _ _ _ _ W (hp.rowsIn (R := rI) (n := 9) (c := p1) rfl (by decide) q1 q2 1) (hp.rowsIn (R := rI) (n := 10) (c := p2) rfl (by decide) q3 q4 1) (hp.rowsIn (R := rI) (n := 15) (c := r1) rfl (by decide) s1 s2 1) (hp.rowsIn (R := rI) (n := 16) (c := r2) rfl (by decide) s3 s4 1) (by show lo.length ≤ _; omega)
      rw [b3] at this
      exact this) ?_
    ((conv=>whnf);repeat(refine And.intro (by omega) ?_;(conv=>whnf)))
    refine EvCallC.plain Try.call37 (.v (.bool true)) rfl (fun _ ρ W hp => by
      have := within_s ⟨d.first, lo, hi⟩ E _ _ _ _ _ _ _ _ _ _ _ _ W (hp.rowsIn (R := rI) (n := 9) (c := p1) rfl (by decide) q1 q2 1) (hp.rowsIn (R := rI) (n := 10) (c := p2) rfl (by decide) q3 q4 1) (hp.rowsIn (R := rI) (n := 15) (c := r1) rfl (by decide) s1 s2 1) (hp.rowsIn (R := rI) (n := 16) (c := r2) rfl (by decide) s3 s4 1)
      rw [b6] at this
      exact this) ?_
    ((conv=>whnf);repeat(refine And.intro (by omega) ?_;(conv=>whnf)))
    refine EvIf.neg (by simp; omega) ?_
    ((conv=>whnf);repeat(refine And.intro (by omega) ?_;(conv=>whnf)))
    refine LoopI.back (i + 1) (by show i + 1 ≤ 4; omega) (by show 4 - (i + 1) < 4 - i; omega) (Sub.of [] [] rfl ?_)
    ((repeat' (refine And.intro ?_ ?_)) <;> first | rfl | exact True.intro | omega)
  · ((conv=>whnf);repeat(refine And.intro (by omega) ?_;(conv=>whnf)))
    refine EvCall.plain Try.call26 (.v (.bool true)) rfl (fun ρ W hp => lives16_s W) ?_
    ((conv=>whnf);repeat(refine And.intro (by omega) ?_;(conv=>whnf)))
    exact EvRet.ret (fun ρ => rfl)
theorem walk_LossyWeaker (w : World) (V0 : Value) (zs : List Int) (h : Ints w V0 zs) (V1 : Value) (ms : List Int) (h2 : Ints w V1 ms) (V2 : Value) (ks : List Int) (h3 : Ints w V2 ks) (n : Int) (hn : I64 n) :
    Calls Try.prog 10 #[V0, V1, V2, .int .i64 n] w fun e w' => e = .returned (.bool true) ∧ Below w.heap.size w w' :=
  (lossyweaker_s V0 V1 V2 zs ms ks n w h h2 h3 hn).out
end Go.Proofs.Ytpnngbfmmjjnaaa
