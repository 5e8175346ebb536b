
/- The reference's Random; the law HistoryRandom, walked. -/
import Derived.Test.YtnoenmacakbhdaaHi
namespace Go.Proofs.Ytnoenmacakbhdaa
open Go.RowKit
set_option linter.unusedVariables false
set_option linter.unusedSimpArgs false

set_option maxRecDepth 20000 in
theorem rrandom_s (V v : Value) (d : Dc) (l : List Cl) (seed : Int) (w : World) (h : DeclIs w V d) (hI : DcI d) (hvc : validCode d = 0) (hll : l.length ≤ 4096) (hlv : ∀ c ∈ l, validB d c = true) (hv : RowsIn rC w v l) :
    Con Try.prog 45 #[V, v, .int .i64 seed] w (RetRowsE rI 3 w (rdR d l seed).1 (rdR d l seed).2) := by
  have hD := h
  obtain ⟨nm, A, c, lb, rfl, hnm, hlab, hS⟩ := h
  obtain ⟨A1, c1, rfl, e1, e2⟩ := hv.form
  have hbd := valid_bounds hvc
  have hsp : (spanN d : Int) = d.last - d.first + 1 := by unfold spanN; omega
  refine enter tabOk mixed Try.func45 rfl Try.ntmps45 Try.results45 [.a (dcS nm (.v (.slice A lb.length c)) d), .s 0 4 l.length c1, .v (.int .i64 seed)] (fun _ => A1) [⟨0, false, 52, 4, c1, .rows Cl rC (l)⟩] 1 rfl rfl (.ro (hp0 _ _ _) _ rfl rfl rfl (ro_rows hv rfl _)) ?_
  ((conv=>whnf);repeat(refine And.intro (by omega) ?_;(conv=>whnf)))
  rcases two_ok hvc hll hlv with ⟨hok, hN⟩ | ⟨hno, hN⟩
  case inr =>
    have hr : rdR d l seed = ([], 13) := by rw [rdR, hN, if_pos (by simp)]
    rw [hr]
    refine EvCall.two (ty := 3) (xs := []) (ys := []) (envES 0 13) (envES_den _ _) (envES_lt _ _) Try.call21 (fun ρ W hp => by
      have := ref_new_s _ _ d l W (hD.below hp.bel) hI (hp.rowsIn (R := rC) (n := 0) (c := c1) rfl (by decide) e1 e2 4)
      rw [hN] at this
      exact this) (fun p1 p2 q1 q2 q3 q4 => ?_)
    ((conv=>whnf);repeat(refine And.intro (by omega) ?_;(conv=>whnf)))
    refine EvIf.pos rfl ?_
    ((conv=>whnf);repeat(refine And.intro (by omega) ?_;(conv=>whnf)))
    exact EvRet.rowsE_nil rfl rfl
  have hr : rdR d l seed = (rndL d (fun i => (rLoL d l (spanN d)).getD i 0) (fun i => (rHiL d l (spanN d)).getD i 0) (rdG d seed) (spanN d), 0) := by rw [rdR, hN, if_neg (by simp)]
  rw [hr]
  have hl1 := rLoL_len d l (spanN d)
  have hl2 := rHiL_len d l (spanN d)
  obtain ⟨hL, hH⟩ := rL_hist hvc hlv hsp hok
  have hcb : ∀ i, (-1099511627776 ≤ (rLoL d l (spanN d)).getD i 0 ∧ (rLoL d l (spanN d)).getD i 0 ≤ 1099511627776) ∧ -1099511627776 ≤ (rHiL d l (spanN d)).getD i 0 ∧ (rHiL d l (spanN d)).getD i 0 ≤ 1099511627776 := fun i => ⟨hist_bd5 hvc hL i, hist_bd5 hvc hH i⟩
  obtain ⟨hRH, hXY⟩ := rnd_hist (rdG d seed) hvc hlv hsp hok
  have hRb := hist_bd5 hvc hRH
  refine EvCall.two (ty := 3) (xs := rLoL d l (spanN d)) (ys := rHiL d l (spanN d)) (envES d.first 0) (envES_den _ _) (envES_lt _ _) Try.call21 (fun ρ W hp => by
    have := ref_new_s _ _ d l W (hD.below hp.bel) hI (hp.rowsIn (R := rC) (n := 0) (c := c1) rfl (by decide) e1 e2 4)
    rw [hN] at this
    exact this) (fun p1 p2 q1 q2 q3 q4 => ?_)
  clear hRH hL hH hr hN hok
  generalize rLoL d l (spanN d) = lo at *
  generalize rHiL d l (spanN d) = hi at *
  generalize spanN d = n at *
  ((conv=>whnf);repeat(refine And.intro (by omega) ?_;(conv=>whnf)))
  refine EvIf.neg rfl ?_
  ((conv=>whnf);repeat(refine And.intro (by omega) ?_;(conv=>whnf)))
  obtain ⟨F, hF⟩ : ∃ F, F = rndV d (fun i => lo.getD i 0) (fun i => hi.getD i 0) (rdG d seed) := ⟨_, rfl⟩
  have hFb : ∀ j, j < n → -1099511627776 ≤ F j ∧ F j ≤ 1099511627776 := fun j hj => by
    have h5 := hRb j
    have e : (rndL d (fun i => lo.getD i 0) (fun i => hi.getD i 0) (rdG d seed) n).getD j 0 = F j := by rw [hF]; exact map_get _ n j hj
    rwa [e] at h5
  ((conv=>whnf);repeat(refine And.intro (by omega) ?_;(conv=>whnf)))
  refine EvLoop.inv (α := Nat × List Int × Nat) (fun p => p.1 ≤ n ∧ (List.range p.1).map F = p.2.1 ∧ p.2.1.length ≤ p.2.2 ∧ p.2.2 ≤ 9223372036854775807) (fun p => n - p.1) (fun p => [(11, [], .v (.int .i64 ((p.1 : Int)))), (10, [], .s 5 1 p.2.1.length p.2.2), (8, [], .p 4 0), (3, [], .p 1 0), (2, [], .v (.int .i64 (seed)))])
    (fun p => [⟨5, true, 3, 1, p.2.2, .rows Int rI p.2.1⟩, ⟨4, true, 40, 3, 1, .cs [.v (.int .i64 d.first), .s 2 1 lo.length p1, .s 3 1 hi.length p2]⟩, ⟨3, true, 3, 1, p2, .rows Int rI hi⟩, ⟨2, true, 3, 1, p1, .rows Int rI lo⟩, ⟨1, true, 27, 12, 1, .cs (dcS nm (.v (.slice A lb.length c)) d)⟩]) 6 (0, [], 0) ⟨by simp, rfl, by simp, by decide⟩ (Sub.of [] [5] rfl ?_) ?_
  · (repeat' (refine And.intro ?_ ?_)) <;> first | rfl | exact True.intro | omega | (show _ = _ ; simp)
  intro p ⟨hi0, hi3, hi4, hi5⟩
  generalize hpi : p.1 = i at *
  generalize hpo : p.2.1 = os at *
  generalize hpc : p.2.2 = oc at *
  have hol : os.length = i := by rw [← hi3]; simp
  have hlj := hol
  ((conv=>whnf);repeat(refine And.intro (by omega) ?_;(conv=>whnf)))
  refine EvIf.split (fun g => ?_) (fun g => ?_)
  · simp only [decide_eq_true_eq] at g
    have bi : (-1099511627776 ≤ lo.getD (i : Int).toNat rI.d ∧ lo.getD (i : Int).toNat rI.d ≤ 1099511627776) ∧ -1099511627776 ≤ hi.getD (i : Int).toNat rI.d ∧ hi.getD (i : Int).toNat rI.d ≤ 1099511627776 := hcb i
    have hxy := hXY i (by omega)
    obtain ⟨X, hX⟩ : ∃ X, X = rndX d (fun i => lo.getD i 0) i (prevV d (fun i => lo.getD i 0) (fun i => hi.getD i 0) (rdG d seed) i) := ⟨_, rfl⟩
    obtain ⟨Y, hY⟩ : ∃ Y, Y = rndY d (fun i => hi.getD i 0) i (prevV d (fun i => lo.getD i 0) (fun i => hi.getD i 0) (rdG d seed) i) := ⟨_, rfl⟩
    have hFi : F i = X + rdG d seed i % (Y - X + 1) := by rw [hF, rndV_prev, hX, hY]; rfl
    rw [← hX, ← hY] at hxy
    have hlo : lo.getD (i : Int).toNat rI.d = lo.getD i 0 := rfl
    have hhi : hi.getD (i : Int).toNat rI.d = hi.getD i 0 := rfl
    have hpz : 0 < i → (os.getD ((i : Int) - 1).toNat rI.d = F (i - 1) ∧ prevV d (fun i => lo.getD i 0) (fun i => hi.getD i 0) (rdG d seed) i = F (i - 1)) := fun h0 => by
      constructor
      · rw [show ((i : Int) - 1).toNat = i - 1 by omega, ← hi3]
        exact map_get F i (i - 1) (by omega)
      · unfold prevV
        rw [if_neg (by omega), hF]
    have hXb : -1099512676352 ≤ X ∧ X ≤ 1099512676352 ∧ -1099512676352 ≤ Y ∧ Y ≤ 1099512676352 := by
      by_cases h0 : i = 0
      · rw [hX, hY]
        unfold rndX rndY
        rw [if_pos h0, if_pos h0]
        dsimp only
        omega
      · have h1 := hFb (i - 1) (by omega)
        rw [hX, hY, (hpz (by omega)).2]
        unfold rndX rndY
        rw [if_neg h0, if_neg h0]
        dsimp only
        omega
    have bp : 0 < i → -1099511627776 ≤ os.getD ((i : Int) - 1).toNat rI.d ∧ os.getD ((i : Int) - 1).toNat rI.d ≤ 1099511627776 := fun h0 => by rw [(hpz h0).1]; exact hFb _ (by omega)
    ((conv=>whnf);(repeat(refine And.intro ?_ ?_;(focus((first|omega|exact⟨rfl,True.intro⟩|exact⟨rfl,rfl,True.intro⟩|rfl|(simp only[List.length_set];first|omega|(refine⟨?_,?_⟩<;>omega)|(refine⟨?_,?_,?_⟩<;>omega))|(intro hg;(try simp only[bB]at hg);first|omega|(refine⟨?_,?_⟩<;>omega)|(refine⟨?_,?_,?_⟩<;>first|omega|(show _<_;(try simp only[List.length_set]);omega)|exact leT rfl))|(refine⟨?_,?_⟩<;>omega)|(refine⟨?_,?_,?_⟩<;>first|omega|(show _<_;(try simp only[List.length_set]);omega)|exact leT rfl)|(simp only[show rI.d=(0:Int)from rfl];omega));done));(conv=>whnf))))
    refine EvIf.meet (α := Unit) (fun _ => True) (fun _ => [(11, [], .v (.int .i64 ((i : Int)))), (10, [], .s 5 1 os.length oc), (8, [], .p 4 0), (3, [], .p 1 0), (2, [], .v (.int .i64 (seed))), (12, [], .v (.int .i64 (X))), (13, [], .v (.int .i64 (Y)))])
      (fun _ => [⟨5, true, 3, 1, oc, .rows Int rI os⟩, ⟨4, true, 40, 3, 1, .cs [.v (.int .i64 d.first), .s 2 1 lo.length p1, .s 3 1 hi.length p2]⟩, ⟨3, true, 3, 1, p2, .rows Int rI hi⟩, ⟨2, true, 3, 1, p1, .rows Int rI lo⟩, ⟨1, true, 27, 12, 1, .cs (dcS nm (.v (.slice A lb.length c)) d)⟩]) 6 (fun g2 => ?_) (fun g2 => ?_) ?_
    · simp only [decide_eq_true_eq] at g2
      have h0 : 0 < i := by omega
      have b2 := bp h0
      have hX2 : X = max (lo.getD (i : Int).toNat rI.d) (os.getD ((i : Int) - 1).toNat rI.d + d.down) := by
        rw [hX, (hpz h0).2, (hpz h0).1]; unfold rndX; rw [if_neg (by omega)]; rfl
      have hY2 : Y = min (hi.getD (i : Int).toNat rI.d) (os.getD ((i : Int) - 1).toNat rI.d + d.up) := by
        rw [hY, (hpz h0).2, (hpz h0).1]; unfold rndY; rw [if_neg (by omega)]; rfl
      ((conv=>whnf);repeat(refine And.intro (by omega) ?_;(conv=>whnf)))
      (refine EvDraw.one (.q 0 (.q 1 (.q 2 (.q 3 (.q 4 (.q 5 (.q 6 (.q 7 (.q 8 (.q 9 (.q 10 (.z)))))))))))) (by kernel_rfl) ?_)
      ((conv=>whnf);(repeat(refine And.intro ?_ ?_;(focus((first|omega|exact⟨rfl,True.intro⟩|exact⟨rfl,rfl,True.intro⟩|rfl|(simp only[List.length_set];first|omega|(refine⟨?_,?_⟩<;>omega)|(refine⟨?_,?_,?_⟩<;>omega))|(intro hg;(try simp only[bB]at hg);first|omega|(refine⟨?_,?_⟩<;>omega)|(refine⟨?_,?_,?_⟩<;>first|omega|(show _<_;(try simp only[List.length_set]);omega)|exact leT rfl))|(refine⟨?_,?_⟩<;>omega)|(refine⟨?_,?_,?_⟩<;>first|omega|(show _<_;(try simp only[List.length_set]);omega)|exact leT rfl)|(simp only[show rI.d=(0:Int)from rfl];omega));done));(conv=>whnf))))
      (refine EvDraw.one (.q 0 (.q 1 (.q 2 (.q 3 (.q 4 (.q 5 (.q 6 (.q 7 (.q 8 (.q 9 (.q 10 (.z)))))))))))) (by kernel_rfl) ?_)
      ((conv=>whnf);(repeat(refine And.intro ?_ ?_;(focus((first|omega|exact⟨rfl,True.intro⟩|exact⟨rfl,rfl,True.intro⟩|rfl|(simp only[List.length_set];first|omega|(refine⟨?_,?_⟩<;>omega)|(refine⟨?_,?_,?_⟩<;>omega))|(intro hg;(try simp only[bB]at hg);first|omega|(refine⟨?_,?_⟩<;>omega)|(refine⟨?_,?_,?_⟩<;>first|omega|(show _<_;(try simp only[List.length_set]);omega)|exact leT rfl))|(refine⟨?_,?_⟩<;>omega)|(refine⟨?_,?_,?_⟩<;>first|omega|(show _<_;(try simp only[List.length_set]);omega)|exact leT rfl)|(simp only[show rI.d=(0:Int)from rfl];omega));done));(conv=>whnf))))
      refine Exists.intro () (And.intro trivial (Sub.of [] [] rfl ?_))
      (repeat' (refine And.intro ?_ ?_)) <;> first | rfl | exact True.intro | exact hX2 | exact hY2 | omega
    · simp only [decide_eq_false_iff_not] at g2
      have h0 : i = 0 := by omega
      have hX2 : X = lo.getD (i : Int).toNat rI.d := by rw [hX]; unfold rndX; rw [if_pos h0]; rfl
      have hY2 : Y = hi.getD (i : Int).toNat rI.d := by rw [hY]; unfold rndY; rw [if_pos h0]; rfl
      ((conv=>whnf);repeat(refine And.intro (by omega) ?_;(conv=>whnf)))
      refine Exists.intro () (And.intro trivial (Sub.of [] [] rfl ?_))
      (repeat' (refine And.intro ?_ ?_)) <;> first | rfl | exact True.intro | exact hX2 | exact hY2 | omega
    intro _ _
    have hg0 := sumV_rng sHist [seed, d.first + (i : Int)]
    have hwr : IntKind.u64.wrap (Y - X + 1) = Y - X + 1 := u64_in _ (by omega)
    have hmod : (sumV sHist [seed, d.first + (i : Int)]).tmod (Y - X + 1) = rdG d seed i % (Y - X + 1) := Int.tmod_eq_emod_of_nonneg hg0.1
    have hm := mod_in (rdG d seed i) (Y - X) (by omega)
    rw [← hmod] at hm
    ((conv=>whnf);repeat(refine And.intro (by omega) ?_;(conv=>whnf)))
    refine EvCall.plain Try.call88 (.v (.int .u64 (sumV sHist [seed, d.first + (i : Int)]))) rfl (fun ρ W hp => rsum_s _ [seed, d.first + (i : Int)] W (hp.lit (R := rI) (ys := [seed, d.first + (i : Int)]) (n := 6) (sz := 1) (c := 2) rfl (by decide) (by simp) (by omega) rfl) (by simp) (by simp)) ?_
    ((conv=>whnf);repeat(refine And.intro (by omega) ?_;(conv=>whnf)))
    rw [hwr]
    refine And.intro (by omega) ?_
    ((conv=>whnf);repeat(refine And.intro (by omega) ?_;(conv=>whnf)))
    have hs1 : (List.range (i + 1)).map F = os ++ [(X + (sumV sHist [seed, d.first + (i : Int)]).tmod (Y - X + 1))] := by
      rw [List.range_succ, List.map_append, hi3, List.map_cons, List.map_nil, hFi, hmod]
    refine EvBi.append (R := rI) tyok22 rfl tyok3 rfl (by decide) rfl rfl rfl hi4 [(X + (sumV sHist [seed, d.first + (i : Int)]).tmod (Y - X + 1))] (fun ρ W hp => hp.lit (R := rI) (ys := [(X + (sumV sHist [seed, d.first + (i : Int)]).tmod (Y - X + 1))]) (n := 7) (sz := 1) (c := 1) rfl (by decide) (by simp) (by omega) rfl) (by show (_ + 1) * 8 ≤ _; omega) (by show _ + 1 ≤ _; omega) (fun cap' hq1 hq2 => ?_)
    ((conv=>whnf);repeat(refine And.intro (by omega) ?_;(conv=>whnf)))
    refine LoopI.back (i + 1, _, cap') ⟨by show i + 1 ≤ n; omega, hs1, by simpa using hq1, hq2⟩ (by show n - (i + 1) < n - i; omega) (Sub.of [(5, 8)] [] rfl ?_)
    (repeat' (refine And.intro ?_ ?_)) <;> first | rfl | trivial | exact List.length_append .. | exact (List.length_append ..).symm | omega
  · simp only [decide_eq_false_iff_not] at g
    obtain rfl : i = n := by omega
    have hfin : os = rndL d (fun i => lo.getD i 0) (fun i => hi.getD i 0) (rdG d seed) i := by rw [← hi3, hF]; rfl
    ((conv=>whnf);repeat(refine And.intro (by omega) ?_;(conv=>whnf)))
    rw [← hfin]
    exact EvRet.rowsE (R := rI) rfl hi4 rfl rfl rfl
set_option maxHeartbeats 1000000 in
set_option maxRecDepth 20000 in
theorem historyrandom_s (v1 v2 v3 : Value) (zs ms ks : List Int) (b : Bool) (seed : Int) (w : World) (h1 : Ints w v1 zs) (h2 : Ints w v2 ms) (h3 : Ints w v3 ks) :
    Con Try.prog 9 #[v1, v2, v3, .bool b, .int .i64 seed] w (Ret w (.bool true)) := by
  obtain ⟨A1, c1, rfl, e1, e2⟩ := h1.form
  obtain ⟨A2, c2, rfl, e3, e4⟩ := h2.form
  obtain ⟨A3, c3, rfl, e5, e6⟩ := h3.form
  have hT := declOf_T zs
  have hI := declOf_I' zs
  have hvc := declOf_vc zs
  refine enter tabOk mixed Try.func9 rfl Try.ntmps9 Try.results9 [.s 0 1 zs.length c1, .s 1 1 ms.length c2, .s 2 1 ks.length c3, .v (.bool b), .v (.int .i64 seed)] (fun n => if n = 0 then A1 else if n = 1 then A2 else A3) [⟨2, false, 3, 1, c3, .rows Int rI (ks)⟩, ⟨1, false, 3, 1, c2, .rows Int rI (ms)⟩, ⟨0, false, 3, 1, c1, .rows Int rI (zs)⟩] 3 rfl rfl (.ro (.ro (.ro (hp0 _ _ _) _ rfl rfl rfl (ro_ints h1 rfl _)) _ rfl rfl rfl (ro_ints h2 rfl _)) _ rfl rfl rfl (ro_ints h3 rfl _)) ?_
  ((conv=>whnf);repeat(refine And.intro (by omega) ?_;(conv=>whnf)))
  refine EvCall.decl Try.call15 (fun ρ W hp => decl_s _ zs W (hp.ints (n := 0) rfl e1 e2 h1.2)) (fun nm l c5 hnm hl hc1 hc2 => ?_)
  generalize declOf zs = d at hT hI hvc ⊢
  have hbd := valid_bounds hvc
  have hTT := hT
  obtain ⟨t1, t2, t3⟩ := hTT
  have hlv := some_valid d ms ks b hT
  have hsl := someL_len5 d ms ks b
  ((conv=>whnf);repeat(refine And.intro (by omega) ?_;(conv=>whnf)))
  refine EvCall.rows (R := rC) (ty := 52) (xs := someL d ms ks b) Try.call16 (fun ρ W hp => some_s nm _ _ _ d _ _ ms ks b W hT (hp.ints (n := 1) rfl e3 e4 h2.2) (hp.ints (n := 2) rfl e5 e6 h3.2)) (fun cap hc3 hc4 => ?_)
  generalize someL d ms ks b = sm at hc3 hlv hsl ⊢
  have hsp : (spanN d : Int) = d.last - d.first + 1 := by unfold spanN; omega
  have hl1 := rLoL_len d sm (spanN d)
  have hl2 := rHiL_len d sm (spanN d)
  ((conv=>whnf);repeat(refine And.intro (by omega) ?_;(conv=>whnf)))
  rcases two_ok hvc (show sm.length ≤ 4096 by omega) hlv with ⟨hok, hN⟩ | ⟨hno, hN⟩
  · have hra : rdR d sm seed = (rndL d (fun i => (rLoL d sm (spanN d)).getD i 0) (fun i => (rHiL d sm (spanN d)).getD i 0) (rdG d seed) (spanN d), 0) := by rw [rdR, hN, if_neg (by simp)]
    have hRa := (rnd_hist (rdG d seed) hvc hlv hsp hok).1
    have hla := rndL_len d (fun i => (rLoL d sm (spanN d)).getD i 0) (fun i => (rHiL d sm (spanN d)).getD i 0) (rdG d seed) (spanN d)
    generalize rndL d (fun i => (rLoL d sm (spanN d)).getD i 0) (fun i => (rHiL d sm (spanN d)).getD i 0) (rdG d seed) (spanN d) = ra at hra hRa hla
    refine EvCall.rowsE (R := rI) (ty := 3) (xs := ra) (z := 0) Try.call44 (fun ρ W hp => by
      have := hrandom_s _ _ d sm seed W (hp.decl (n := 3) (d := d) hnm hl hc1 hc2 rfl) hI hvc (by omega) hlv (hp.rowsIn (R := rC) (n := 5) (c := cap) rfl (by decide) hc3 hc4 4)
      rw [hra] at this
      exact this) (fun ka a1 a2 => ?_)
    ((conv=>whnf);repeat(refine And.intro (by omega) ?_;(conv=>whnf)))
    refine EvCall.rowsE (R := rI) (ty := 3) (xs := ra) (z := 0) Try.call45 (fun ρ W hp => by
      have := rrandom_s _ _ d sm seed W (hp.decl (n := 3) (d := d) hnm hl hc1 hc2 rfl) hI hvc (by omega) hlv (hp.rowsIn (R := rC) (n := 5) (c := cap) rfl (by decide) hc3 hc4 4)
      rw [hra] at this
      exact this) (fun kb b1 b2 => ?_)
    ((conv=>whnf);repeat(refine And.intro (by omega) ?_;(conv=>whnf)))
    refine EvCallC.plain Try.call37 (.v (.bool true)) rfl (fun _ ρ W hp => by
      have := sameints_s _ _ (ra) (ra) W (hp.rowsIn (R := rI) (n := 6) (c := ka) rfl (by decide) a1 a2 1) (hp.rowsIn (R := rI) (n := 7) (c := kb) rfl (by decide) b1 b2 1)
      rw [decide_eq_true (show ra = ra by first | rfl | assumption)] at this
      exact this) ?_
    ((conv=>whnf);repeat(refine And.intro (by omega) ?_;(conv=>whnf)))
    refine EvCallC.plain Try.call41 (.v (.bool true)) rfl (fun _ ρ W hp => by
      have := hagrees_s _ _ _ d sm ra W (hp.decl (n := 3) (d := d) hnm hl hc1 hc2 rfl) hI (hp.rowsIn (R := rC) (n := 5) (c := cap) rfl (by decide) hc3 hc4 4) (hp.rowsIn (R := rI) (n := 6) (c := ka) rfl (by decide) a1 a2 1) (hist_bd5 hvc hRa)
      rw [agB_t.2 ⟨hvc, by omega, hRa⟩] at this
      exact this) ?_
    ((conv=>whnf);repeat(refine And.intro (by omega) ?_;(conv=>whnf)))
    refine EvCallC.plain Try.call38 (.v (.bool true)) rfl (fun _ ρ W hp => lives13_s W) ?_
    ((conv=>whnf);repeat(refine And.intro (by omega) ?_;(conv=>whnf)))
    exact EvRet.ret (fun ρ => rfl)
  · have hra : rdR d sm seed = ([], 13) := by rw [rdR, hN, if_pos (by simp)]
    refine EvCall.rowsE (R := rI) (ty := 3) (xs := []) (z := 13) Try.call44 (fun ρ W hp => by
      have := hrandom_s _ _ d sm seed W (hp.decl (n := 3) (d := d) hnm hl hc1 hc2 rfl) hI hvc (by omega) hlv (hp.rowsIn (R := rC) (n := 5) (c := cap) rfl (by decide) hc3 hc4 4)
      rw [hra] at this
      exact this) (fun ka a1 a2 => ?_)
    ((conv=>whnf);repeat(refine And.intro (by omega) ?_;(conv=>whnf)))
    refine EvCall.rowsE (R := rI) (ty := 3) (xs := []) (z := 13) Try.call45 (fun ρ W hp => by
      have := rrandom_s _ _ d sm seed W (hp.decl (n := 3) (d := d) hnm hl hc1 hc2 rfl) hI hvc (by omega) hlv (hp.rowsIn (R := rC) (n := 5) (c := cap) rfl (by decide) hc3 hc4 4)
      rw [hra] at this
      exact this) (fun kb b1 b2 => ?_)
    ((conv=>whnf);repeat(refine And.intro (by omega) ?_;(conv=>whnf)))
    refine EvCallC.plain Try.call37 (.v (.bool true)) rfl (fun _ ρ W hp => by
      have := sameints_s _ _ (([] : List Int)) (([] : List Int)) W (hp.rowsIn (R := rI) (n := 6) (c := ka) rfl (by decide) a1 a2 1) (hp.rowsIn (R := rI) (n := 7) (c := kb) rfl (by decide) b1 b2 1)
      rw [decide_eq_true (show ([] : List Int) = ([] : List Int) by first | rfl | assumption)] at this
      exact this) ?_
    ((conv=>whnf);repeat(refine And.intro (by omega) ?_;(conv=>whnf)))
    refine EvCallC.off Try.call41 (by simp) (.v (.bool true)) rfl ?_
    ((conv=>whnf);repeat(refine And.intro (by omega) ?_;(conv=>whnf)))
    refine EvCallC.plain Try.call38 (.v (.bool true)) rfl (fun _ ρ W hp => lives13_s W) ?_
    ((conv=>whnf);repeat(refine And.intro (by omega) ?_;(conv=>whnf)))
    exact EvRet.ret (fun ρ => rfl)
theorem walk_HistoryRandom (w : World) (V0 : Value) (zs : List Int) (h : Ints w V0 zs) (V1 : Value) (ms : List Int) (h2 : Ints w V1 ms) (V2 : Value) (ks : List Int) (h3 : Ints w V2 ks) (b : Bool) (seed : Int) (hsd : I64 seed) :
    Calls Try.prog 9 #[V0, V1, V2, .bool b, .int .i64 seed] w fun e w' => e = .returned (.bool true) ∧ Below w.heap.size w w' :=
  (historyrandom_s V0 V1 V2 zs ms ks b seed w h h2 h3).out
end Go.Proofs.Ytnoenmacakbhdaa
