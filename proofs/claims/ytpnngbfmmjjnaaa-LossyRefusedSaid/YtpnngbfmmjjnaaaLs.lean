
/- Lossy steps: a step taken twice; the law LossyTwice, walked. -/
import Derived.Test.YtpnngbfmmjjnaaaLr
namespace Go.Proofs.Ytpnngbfmmjjnaaa
open Go.RowKit
set_option linter.unusedVariables false
set_option linter.unusedSimpArgs false

theorem new_eq {d : Dc} {a b : List Cl} (ha : (newR d a).2 = 0) (hb : (newR d b).2 = 0) (h : ∀ i : Nat, i < spanN d → rLo d a (d.first + i) = rLo d b (d.first + i) ∧ rHi d a (d.first + i) = rHi d b (d.first + i)) : newR d a = newR d b := by
  obtain ⟨_, _, _, _, e1⟩ := newR_ok ha
  obtain ⟨_, _, _, _, e2⟩ := newR_ok hb
  have e3 : rLoL d a (spanN d) = rLoL d b (spanN d) := List.map_congr_left fun i hi => (h i (List.mem_range.1 hi)).1
  have e4 : rHiL d a (spanN d) = rHiL d b (spanN d) := List.map_congr_left fun i hi => (h i (List.mem_range.1 hi)).2
  rw [e1, e2, e3, e4]
theorem sort_sort (l : List Cl) : sortC (sortC l) = sortC l := sortC_srt (srt_of (sortC_sorted l))
theorem twice_0 {d : Dc} {l : List Cl} {n : Int} (hn : 1 ≤ n) : sortC (rawL 0 d (sortC (rawL 0 d l n)) n) = sortC (rawL 0 d l n) := by
  simp only [rawL]
  have e : (sortC (l.map (wid n))).map (wid n) = sortC (l.map (wid n)) := by
    conv => { rhs; rw [← List.map_id (sortC (l.map (wid n)))] }
    refine List.map_congr_left (fun c hc => ?_)
    obtain ⟨c', _, rfl⟩ := List.mem_map.1 ((mem_sortC c _).1 hc)
    exact wid_idem hn c'
  rw [e, sort_sort]
theorem twice_1 {d : Dc} {l : List Cl} (h : (newR d l).2 = 0) : sortC (rawL 1 d (sortC (rawL 1 d l 0)) 0) = sortC (rawL 1 d l 0) := by
  simp only [rawL]
  obtain ⟨m1, m2, m3⟩ := thn_mem (most := 0) h
  have hgr := thn_grd (most := 0) h
  have hc := thn_cost (most := 0) h (Int.le_refl _)
  rw [m3]
  obtain ⟨_, hn, _, _, _⟩ := newR_ok h
  have hw := sub_weak h m1 (by omega)
  obtain ⟨a1, _, _, _, _⟩ := hw.new h
  obtain ⟨K, hK⟩ : ∃ K, thnL d (newR d l).1 l 0 = K := ⟨_, rfl⟩
  rw [hK] at m1 m2 m3 hgr hc hw a1 ⊢
  have heq : newR d K = newR d l := new_eq a1 h (fun i hi => by
    have h1 := ((mxM_le _ _ _).1 hc).2 i hi
    rw [gW_at h a1 hi] at h1
    have h2 := hw.w i hi
    omega)
  have hg2 := thn_grd (most := 0) a1
  rw [hg2, m3]
  have hT : cstB d K 0 = cstB d l 0 := by
    funext S
    unfold cstB
    rw [heq]
  have hfin : grd (cstB d K 0) K = K := by
    rw [hT, hgr]
    refine grd_again _ _ (fun S S' h1 h2 h3 => ?_)
    have l2 := h2.length_le
    have l1 := h1.length_le
    rw [sortC_len] at l2
    exact decide_eq_true (cost_mono h (fun c hc => h1.subset hc) (fun c hc => (mem_sortC c l).1 (h2.subset hc)) (by omega) (by omega) (of_decide_eq_true h3))
  rw [hfin, m3]
theorem ext_cl {a b : List Cl} (hl : a.length = b.length) (h : ∀ i, i < a.length → a.getD i cl0 = b.getD i cl0) : a = b := by
  apply List.ext_getElem hl
  intro i h1 h2
  have := h i h1
  simpa [List.getD_eq_getElem?_getD, h1, h2] using this
theorem getD_mem_cl {l : List Cl} {i : Nat} (h : i < l.length) : l.getD i cl0 ∈ l := by
  rw [List.getD_eq_getElem?_getD, List.getElem?_eq_getElem h]
  exact List.getElem_mem h
theorem rL_src {d : Dc} {l : List Cl} {c : Cl} {k : Nat} (hv : validCode d = 0) (hl : ∀ c ∈ l, validB d c = true) (hc : c ∈ l) (h1 : c.f ≤ d.first + k) (h2 : d.first + k ≤ c.t) : c.lo ≤ rLo d l (d.first + k) ∧ rHi d l (d.first + k) ≤ c.hi := by
  have s := src_le hv hl
  have a := (rLo_band s).1 (Int.le_refl (rLo d l (d.first + k))) c (List.mem_cons_of_mem _ hc) (d.first + k) h1 h2
  have b := (rHi_band s).1 (Int.le_refl (rHi d l (d.first + k))) c (List.mem_cons_of_mem _ hc) (d.first + k) h1 h2
  rw [lowV_self] at a
  rw [highV_self] at b
  exact ⟨a, b⟩
theorem twice_2 {d : Dc} {l : List Cl} {n : Int} (h : (newR d l).2 = 0) : sortC (rawL 2 d (sortC (rawL 2 d l n)) n) = sortC (rawL 2 d l n) := by
  simp only [rawL]
  have hw := rol_weak (q := n) h
  obtain ⟨a1, a2, _, _, _⟩ := hw.new h
  obtain ⟨hv, _, hl, hok, he⟩ := newR_ok h
  have hbd := valid_bounds hv
  have hsp : (spanN d : Int) = d.last - d.first + 1 := by unfold spanN; omega
  rw [he] at hw a1 a2 ⊢
  simp only [rLoL_len] at hw a1 a2 ⊢
  obtain ⟨R, hR⟩ : ∃ R, rolL d.first n (rLoL d l (spanN d)) (rHiL d l (spanN d)) (spanN d) = R := ⟨_, rfl⟩
  have hr := (rolL_each d.first n (rLoL d l (spanN d)) (rHiL d l (spanN d)) (spanN d)).1
  have hsh := fun lo' hi' => rolL_shape d.first n (rLoL d l (spanN d)) (rHiL d l (spanN d)) lo' hi' (spanN d)
  have hsR : sortC R = R := by rw [← hR]; exact sortC_srt (rolL_srt _ _ _ _ _)
  rw [hR] at hw a1 hr hsh ⊢
  rw [hsR]
  obtain ⟨_, _, hl2, hok2, he2⟩ := newR_ok a1
  rw [he2]
  simp only [rLoL_len]
  rw [sortC_srt (rolL_srt _ _ _ _ _)]
  have hr2 := (rolL_each d.first n (rLoL d R (spanN d)) (rHiL d R (spanN d)) (spanN d)).1
  have hsh := hsh (rLoL d R (spanN d)) (rHiL d R (spanN d))
  generalize rolL d.first n (rLoL d R (spanN d)) (rHiL d R (spanN d)) (spanN d) = R2 at *
  refine (ext_cl hsh.1 (fun i hi => ?_)).symm
  have c1 := hr _ (getD_mem_cl hi)
  have c2 := hr2 _ (getD_mem_cl (show i < R2.length by omega))
  have hm := getD_mem_cl hi
  obtain ⟨sf, st⟩ := hsh.2 i
  have hg := fun k hk => rL_get d l (spanN d) k hk
  have hg2 := fun k hk => rL_get d R (spanN d) k hk
  generalize R.getD i cl0 = x at *
  generalize R2.getD i cl0 = y at *
  have x1 := c1.a
  have x2 := c1.e
  have elo : x.lo = y.lo := by
    obtain ⟨k, k1, k2, k3⟩ := c1.lo_
    obtain ⟨j, j1, j2, j3⟩ := c2.lo_
    have e1 := (rL_src hv hl2 hm (k := j) (by omega) (by omega)).1
    have e2 := (c2.in_ k (by omega) (by omega)).1
    have e3 := (hw.w k (by omega)).1
    rw [(hg k (by omega)).1] at k3
    rw [(hg2 j (by omega)).1] at j3
    rw [(hg2 k (by omega)).1] at e2
    omega
  have ehi : x.hi = y.hi := by
    obtain ⟨k, k1, k2, k3⟩ := c1.hi_
    obtain ⟨j, j1, j2, j3⟩ := c2.hi_
    have e1 := (rL_src hv hl2 hm (k := j) (by omega) (by omega)).2
    have e2 := (c2.in_ k (by omega) (by omega)).2
    have e3 := (hw.w k (by omega)).2
    rw [(hg k (by omega)).2] at k3
    rw [(hg2 j (by omega)).2] at j3
    rw [(hg2 k (by omega)).2] at e2
    omega
  obtain ⟨xf, xt, xl, xh⟩ := x
  obtain ⟨yf, yt, yl, yh⟩ := y
  simp only at sf st elo ehi
  rw [sf, st, elo, ehi]
theorem twice_3 {d : Dc} {l : List Cl} {n : Int} (h : (newR d l).2 = 0) (hn : l.length ≤ 3000) : newR d (rawL 3 d (sortC (rawL 3 d l n)) n) = newR d (sortC (rawL 3 d l n)) := by
  simp only [rawL]
  have hw := ret_weak (b := n) h (by omega)
  obtain ⟨a1, a2, _, _, _⟩ := hw.new h
  obtain ⟨hv, _, hl, hok, he⟩ := newR_ok h
  have hbd := valid_bounds hv
  have hsp : (spanN d : Int) = d.last - d.first + 1 := by unfold spanN; omega
  have hkl := keptL_len (newR d l).1 l n
  have hal : ∀ c ∈ sortC (keptL (newR d l).1 l n), n ≤ c.t := fun c hc => by
    rw [mem_sortC] at hc
    unfold keptL at hc
    rcases List.mem_append.1 hc with hc | hc
    · exact of_decide_eq_true (List.mem_filter.1 hc).2
    · split at hc
      · obtain rfl := List.mem_singleton.1 hc
        exact Int.le_refl _
      · cases hc
  have hxn : (newR d (sortC (keptL (newR d l).1 l n))).2 = 0 := by rw [a2]; exact a1
  have hxl : (sortC (keptL (newR d l).1 l n)).length ≤ 3001 := by rw [sortC_len]; omega
  generalize sortC (keptL (newR d l).1 l n) = x at *
  obtain ⟨_, _, hlx, hokx, hex⟩ := newR_ok hxn
  have hfil : x.filter (fun c => decide (n ≤ c.t)) = x := List.filter_eq_self.2 (fun c hc => decide_eq_true (hal c hc))
  have hw2 := ret_weak (b := n) hxn (by omega)
  obtain ⟨b1, _, _, _, _⟩ := hw2.new hxn
  refine new_eq b1 hxn (fun i hi => ?_)
  have h1 := hw2.w i hi
  have hsub : ∀ c ∈ x, c ∈ keptL (newR d x).1 x n := fun c hc => by
    unfold keptL
    rw [hfil]
    exact List.mem_append_left _ hc
  have h2 := rLo_mono hsub (d := d) (d.first + i)
  have h3 := rHi_mono hsub (d := d) (d.first + i)
  omega
/-- A step taken again. -/
theorem stp_twice {k : Nat} {d : Dc} {l : List Cl} {n : Int} (hk : k < 4) (h : (newR d l).2 = 0) (hl : l.length ≤ 3000) (hsp : spanN d ≤ 3000) (hn : (k = 1 ∧ n = 0) ∨ (k ≠ 1 ∧ 1 ≤ n ∧ n ≤ 16)) :
    ∃ x y c, stpR k d l n = (x, c, 0) ∧ stpR k d x n = (y, 0, 0) ∧ (k < 3 → x = y) ∧ (k = 3 → y.length ≤ x.length + 1) ∧ x = sortC (rawL k d l n) := by
  have hn' : (k = 1 ∧ 0 ≤ n) ∨ (1 ≤ n ∧ n ≤ 16) := by omega
  obtain ⟨c, E, e1, e2, e3, e4, e5, e6, e7⟩ := stp_spec hk h (by omega) hn'
  have hxl : (sortC (rawL k d l n)).length ≤ 3001 := by
    rw [sortC_len]
    match k, hk with
    | 0, _ => simp only [rawL, List.length_map]; omega
    | 1, _ => have := (thn_mem (most := n) h).2.1; simp only [rawL]; omega
    | 2, _ =>
      have := (rolL_len (newR d l).1.f n (newR d l).1.lo (newR d l).1.hi (newR d l).1.lo.length).1
      have h2 := (newR_facts h).2.2.1
      simp only [rawL]
      omega
    | 3, _ => have := keptL_len (newR d l).1 l n; simp only [rawL]; omega
  have hx : (newR d (sortC (rawL k d l n))).2 = 0 := by rw [e2]
  obtain ⟨c2, E2, f1, f2, f3, f4, f5, f6, f7⟩ := stp_spec hk hx (by omega) hn'
  have same : newR d (sortC (rawL k d (sortC (rawL k d l n)) n)) = newR d (sortC (rawL k d l n)) → c2 = 0 := fun hs => by
    have h1 := growth_ok hx (b := sortC (rawL k d (sortC (rawL k d l n)) n)) (by rw [f2])
    rw [self_cost hx hs] at h1
    rw [f2, f4] at h1
    exact congrArg Prod.fst h1
  refine ⟨_, sortC (rawL k d (sortC (rawL k d l n)) n), c, e1, ?_, ?_, ?_, rfl⟩
  · rw [f1]
    have hc0 : c2 = 0 := same (by
      match k, hk with
      | 0, _ => rw [twice_0 (by omega)]
      | 1, _ =>
        obtain rfl : n = 0 := by omega
        rw [twice_1 h]
      | 2, _ => rw [twice_2 h]
      | 3, _ => rw [f2, ← f3, twice_3 h hl])
    rw [hc0]
  · intro h3
    match k, hk, h3 with
    | 0, _, _ => rw [twice_0 (by omega)]
    | 1, _, _ =>
      obtain rfl : n = 0 := by omega
      rw [twice_1 h]
    | 2, _, _ => rw [twice_2 h]
  · intro h3
    subst h3
    have := keptL_len (newR d (sortC (rawL 3 d l n))).1 (sortC (rawL 3 d l n)) n
    rw [sortC_len]
    exact this
theorem raw_ok {k : Nat} {d : Dc} {l : List Cl} {n : Int} (hk : k < 4) (h : (newR d l).2 = 0) (hl : l.length ≤ 10) (hsp : spanN d < 50) : (sortC (rawL k d l n)).length ≤ 11 ∨ (k = 2 ∨ k = 1) ∧ SortOk (sortC (rawL k d l n)) := by
  match k, hk with
  | 0, _ => left; rw [sortC_len]; simp only [rawL, List.length_map]; omega
  | 1, _ => left; rw [sortC_len]; have := (thn_mem (most := n) h).2.1; simp only [rawL]; omega
  | 2, _ =>
    refine .inr ⟨.inl rfl, ?_⟩
    simp only [rawL]
    rw [sortC_srt (rolL_srt _ _ _ _ _)]
    exact rol_ok14 (by omega)
  | 3, _ => left; rw [sortC_len]; have := keptL_len (newR d l).1 l n; simp only [rawL]; omega
set_option maxHeartbeats 1000000 in
set_option maxRecDepth 20000 in
theorem lossytwice_s (v1 v2 v3 : Value) (zs ms ks : List Int) (n : Int) (w : World) (h1 : Ints w v1 zs) (h2 : Ints w v2 ms) (h3 : Ints w v3 ks) (hn : I64 n) :
    Con Try.prog 9 #[v1, v2, v3, .int .i64 n] w (Ret w (.bool true)) := by
  obtain ⟨A1, c1, rfl, e1, e2⟩ := h1.form
  obtain ⟨A2, c2, rfl, e3, e4⟩ := h2.form
  obtain ⟨A3, c3, rfl, e5, e6⟩ := h3.form
  have hT := declOf_T zs
  have hI := declOf_I' zs
  refine enter tabOk mixed Try.func9 rfl Try.ntmps9 Try.results9 [.s 0 1 zs.length c1, .s 1 1 ms.length c2, .s 2 1 ks.length c3, .v (.int .i64 n)] (fun n => if n = 0 then A1 else if n = 1 then A2 else A3) [⟨2, false, 3, 1, c3, .rows Int rI (ks)⟩, ⟨1, false, 3, 1, c2, .rows Int rI (ms)⟩, ⟨0, false, 3, 1, c1, .rows Int rI (zs)⟩] 3 rfl rfl (.ro (.ro (.ro (hp0 _ _ _) _ rfl rfl rfl (ro_ints h1 rfl _)) _ rfl rfl rfl (ro_ints h2 rfl _)) _ rfl rfl rfl (ro_ints h3 rfl _)) ?_
  ((conv=>whnf);repeat(refine And.intro (by omega) ?_;(conv=>whnf)))
  refine EvCall.inline tabOk mixed Try.func25 rfl Try.ntmps25 Try.results25 Try.call25 rfl (fun ρ0 => ?_)
  ((conv=>whnf);repeat(refine And.intro (by omega) ?_;(conv=>whnf)))
  refine EvCall.decl Try.call11 (fun ρ W hp => decl_s _ zs W (hp.ints (n := 0) rfl e1 e2 h1.2)) (fun nm l c5 hnm hl hc1 hc2 => ?_)
  generalize declOf zs = d at hT hI ⊢
  have hil := insL_span d ms hT
  have hTT := hT
  obtain ⟨t1, t2, t3⟩ := hTT
  ((conv=>whnf);repeat(refine And.intro (by omega) ?_;(conv=>whnf)))
  (refine EvDraw.one (.q 0 (.q 1 (.q 2 (.q 4 (.n 3 false (.n 5 true (.q 6 (.z)) (.e)) (.e)))))) (by kernel_rfl) ?_)
  ((conv=>whnf);repeat(refine And.intro (by omega) ?_;(conv=>whnf)))
  refine EvCall.rows (R := rI) (ty := 3) (xs := insL d ms (spanN d)) Try.call13 (fun ρ W hp => inside_s nm _ _ _ d _ ms W hT (hp.ints (n := 1) rfl e3 e4 h2.2)) (fun ca a1 a2 => ?_)
  ((conv=>whnf);repeat(refine And.intro (by omega) ?_;(conv=>whnf)))
  refine EvCall.rows (R := rC) (ty := 62) (xs := arL d (insL d ms (spanN d)) ks (arN ks 5)) Try.call12 (fun ρ W hp => ref_around_s nm _ _ _ d _ _ _ ks 5 W hT (hp.ints (n := 7) rfl a1 a2 (insL_i64 d ms hT)) (hp.ints (n := 2) rfl e5 e6 h3.2) (by omega) (by omega) (by omega) (insL_small d ms hT)) (fun cap hc3 hc4 => ?_)
  have hsl : (arL d (insL d ms (spanN d)) ks (arN ks 5)).length ≤ 5 := by rw [arL_len]; unfold arN; omega
  generalize arL d (insL d ms (spanN d)) ks (arN ks 5) = sm at hc3 hsl ⊢
  ((conv=>whnf);repeat(refine And.intro (by omega) ?_;(conv=>whnf)))
  refine EvCall.two (ty := 3) (xs := (newR d sm).1.lo) (ys := (newR d sm).1.hi) (envES (newR d sm).1.f (newR d sm).2) (envES_den _ _) (envES_lt _ _) Try.call14 (fun ρ W hp => new_s _ _ d sm W (hp.decl (n := 5) (d := d) hnm hl hc1 hc2 rfl) hI (hp.rowsIn (R := rC) (n := 8) (c := cap) rfl (by decide) hc3 hc4 4)) (fun p1 p2 q1 q2 q3 q4 => ?_)
  ((conv=>whnf);repeat(refine And.intro (by omega) ?_;(conv=>whnf)))
  (refine EvDraw.oneR (.q 0 (.q 1 (.q 2 (.q 3 (.q 4 (.n 5 true (.q 6 (.n 7 true (.q 8 (.z)) (.e))) (.e))))))) [2] [11] (by kernel_rfl) ?_)
  ((conv=>whnf);(repeat(refine And.intro ?_ ?_;(focus((first|omega|exact⟨rfl,True.intro⟩|exact⟨rfl,rfl,True.intro⟩|rfl|(simp only[List.length_set];first|omega|(refine⟨?_,?_⟩<;>omega)|(refine⟨?_,?_,?_⟩<;>omega))|(intro hg;(try simp only[bB]at hg);first|omega|(refine⟨?_,?_⟩<;>omega)|(refine⟨?_,?_,?_⟩<;>first|omega|(show _<_;(try simp only[List.length_set]);omega)|exact leT rfl))|(refine⟨?_,?_⟩<;>omega)|(refine⟨?_,?_,?_⟩<;>first|omega|(show _<_;(try simp only[List.length_set]);omega)|exact leT rfl)|(simp only[show rI.d=(0:Int)from rfl];omega));done));(conv=>whnf))))
  refine EvRet.back ?_
  ((conv=>whnf);repeat(refine And.intro (by omega) ?_;(conv=>whnf)))
  refine EvIf.split (fun g => ?_) (fun g => ?_)
  · skip
    ((conv=>whnf);repeat(refine And.intro (by omega) ?_;(conv=>whnf)))
    refine EvCall.plain Try.call26 (.v (.bool true)) rfl (fun ρ W hp => lives16_s W) ?_
    ((conv=>whnf);repeat(refine And.intro (by omega) ?_;(conv=>whnf)))
    exact EvRet.ret (fun ρ => rfl)
  have g0 : (newR d sm).2 = 0 := by simpa using g
  obtain ⟨hvc, hll, hlv, hok, hN⟩ := newR_ok g0
  have hbd := valid_bounds hvc
  have hsp : (spanN d : Int) = d.last - d.first + 1 := by unfold spanN; omega
  have hl1 := rLoL_len d sm (spanN d)
  have hl2 := rHiL_len d sm (spanN d)
  rw [hN] at q1 q3 ⊢
  simp only at q1 q3
  dsimp only
  have har := arnd_nn n 16 (by omega)
  have har2 := arnd_lt n 16 (by omega)
  have hars := fun W => around_s n 16 W hn (by omega) (by omega)
  generalize arnd n 16 = P at *
  ((conv=>whnf);repeat(refine And.intro (by omega) ?_;(conv=>whnf)))
  refine EvLoop.inv (α := Nat) (fun i => i ≤ 4) (fun i => 4 - i) (fun i => [(13, [], .v (.int .i64 ((i : Int)))), (3, [], .v (.int .i64 (n))), (8, [], .v (.bool (false))), (9, [], .p 12 0), (10, [], .s 8 4 sm.length cap)])
    (fun i => [⟨12, true, 27, 12, 1, .cs (dcS nm (.s 5 2 l.length c5) d)⟩, ⟨8, true, 62, 4, cap, .rows Cl rC sm⟩, ⟨5, true, 101, 2, c5, .rows (ByteArray × ByteArray) rL l⟩]) 14 0 (by omega) (Sub.of [] [] rfl ?_) ?_
  · ((repeat' (refine And.intro ?_ ?_)) <;> first | rfl | exact True.intro | omega)
  intro i hi4
  ((conv=>whnf);repeat(refine And.intro (by omega) ?_;(conv=>whnf)))
  refine EvIf.split (fun g1 => ?_) (fun g1 => ?_)
  · have hi5 : i < 4 := by have := of_decide_eq_true g1; omega
    ((conv=>whnf);repeat(refine And.intro (by omega) ?_;(conv=>whnf)))
    refine EvCall.plain Try.call17 (.v (.int .i64 P)) rfl (fun ρ W hp => hars W) ?_
    ((conv=>whnf);repeat(refine And.intro (by omega) ?_;(conv=>whnf)))
    refine EvIf.split (fun g2 => ?_) (fun g2 => ?_)
    · have g3 : i = 1 := by have := of_decide_eq_true g2; omega
      obtain ⟨x, y, cst, b1, b2, b3, b4, b5⟩ := stp_twice (k := i) (d := d) (l := sm) (n := 0) hi5 g0 (by omega) (by omega) (.inl ⟨g3, rfl⟩)
      have hs := fun V v W hd hv => step_s i hi5 V v d sm (0) W hd hI hv (.inl (by omega)) (by omega)
      have hs2 := fun V v W hd hv => step_s i hi5 V v d x (0) W hd hI hv (by rw [b5]; exact raw_ok hi5 g0 (by omega) (by omega)) (by omega)
      have hxl : x.length ≤ 101 := by
        rw [b5]
        rcases raw_ok (k := i) (d := d) (l := sm) (n := 0) hi5 g0 (by omega) (by omega) with h | h
        · omega
        · have := sortOk_len h.2; omega
      rw [b1] at hs
      rw [b2] at hs2
      clear b5 b1 b2
      ((conv=>whnf);repeat(refine And.intro (by omega) ?_;(conv=>whnf)))
      refine EvCall.rows3 (R := rC) (ty := 62) (xs := x) (c := cst) (z := 0) Try.call28 (fun ρ W hp => hs _ _ W (hp.decl (n := 5) (d := d) hnm hl hc1 hc2 rfl) (hp.rowsIn (R := rC) (n := 8) (c := cap) rfl (by decide) hc3 hc4 4)) (fun cx x1 x2 => ?_)
      ((conv=>whnf);repeat(refine And.intro (by omega) ?_;(conv=>whnf)))
      refine EvCall.rows3 (R := rC) (ty := 62) (xs := y) (c := 0) (z := 0) Try.call28 (fun ρ W hp => hs2 _ _ W (hp.decl (n := 5) (d := d) hnm hl hc1 hc2 rfl) (hp.rowsIn (R := rC) (n := 14) (c := cx) rfl (by decide) x1 x2 4)) (fun cy y1 y2 => ?_)
      obtain ⟨q, hq⟩ : ∃ q, decide (x = y) = q := ⟨_, rfl⟩
      ((conv=>whnf);repeat(refine And.intro (by omega) ?_;(conv=>whnf)))
      refine EvCallC.plain Try.call35 (.v (.bool q)) rfl (fun _ ρ W hp => by rw [← hq]; exact same_s _ _ x y W (hp.rowsIn (R := rC) (n := 14) (c := cx) rfl (by decide) x1 x2 4) (hp.rowsIn (R := rC) (n := 15) (c := cy) rfl (by decide) y1 y2 4)) ?_
      ((conv=>whnf);repeat(refine And.intro (by omega) ?_;(conv=>whnf)))
      refine EvIf.neg ?_ ?_
      · by_cases h3 : i = 3
        · have := b4 h3
          subst h3
          simp
          omega
        · have hq1 : q = true := by rw [← hq]; exact decide_eq_true (b3 (by omega))
          have h3' : ¬ (i : Int) = 3 := by omega
          simp [hq1, h3']
      ((conv=>whnf);repeat(refine And.intro (by omega) ?_;(conv=>whnf)))
      refine LoopI.back (i + 1) (by show i + 1 ≤ 4; omega) (by show 4 - (i + 1) < 4 - i; omega) (Sub.of [] [] rfl ?_)
      ((repeat' (refine And.intro ?_ ?_)) <;> first | rfl | exact True.intro | omega)
    · have g3 : i ≠ 1 := by have := of_decide_eq_false g2; omega
      obtain ⟨x, y, cst, b1, b2, b3, b4, b5⟩ := stp_twice (k := i) (d := d) (l := sm) (n := 1 + P) hi5 g0 (by omega) (by omega) (.inr ⟨g3, by omega, by omega⟩)
      have hs := fun V v W hd hv => step_s i hi5 V v d sm (1 + P) W hd hI hv (.inl (by omega)) (by omega)
      have hs2 := fun V v W hd hv => step_s i hi5 V v d x (1 + P) W hd hI hv (by rw [b5]; exact raw_ok hi5 g0 (by omega) (by omega)) (by omega)
      have hxl : x.length ≤ 101 := by
        rw [b5]
        rcases raw_ok (k := i) (d := d) (l := sm) (n := 1 + P) hi5 g0 (by omega) (by omega) with h | h
        · omega
        · have := sortOk_len h.2; omega
      rw [b1] at hs
      rw [b2] at hs2
      clear b5 b1 b2
      ((conv=>whnf);repeat(refine And.intro (by omega) ?_;(conv=>whnf)))
      refine EvCall.rows3 (R := rC) (ty := 62) (xs := x) (c := cst) (z := 0) Try.call28 (fun ρ W hp => hs _ _ W (hp.decl (n := 5) (d := d) hnm hl hc1 hc2 rfl) (hp.rowsIn (R := rC) (n := 8) (c := cap) rfl (by decide) hc3 hc4 4)) (fun cx x1 x2 => ?_)
      ((conv=>whnf);repeat(refine And.intro (by omega) ?_;(conv=>whnf)))
      refine EvCall.rows3 (R := rC) (ty := 62) (xs := y) (c := 0) (z := 0) Try.call28 (fun ρ W hp => hs2 _ _ W (hp.decl (n := 5) (d := d) hnm hl hc1 hc2 rfl) (hp.rowsIn (R := rC) (n := 14) (c := cx) rfl (by decide) x1 x2 4)) (fun cy y1 y2 => ?_)
      obtain ⟨q, hq⟩ : ∃ q, decide (x = y) = q := ⟨_, rfl⟩
      ((conv=>whnf);repeat(refine And.intro (by omega) ?_;(conv=>whnf)))
      refine EvCallC.plain Try.call35 (.v (.bool q)) rfl (fun _ ρ W hp => by rw [← hq]; exact same_s _ _ x y W (hp.rowsIn (R := rC) (n := 14) (c := cx) rfl (by decide) x1 x2 4) (hp.rowsIn (R := rC) (n := 15) (c := cy) rfl (by decide) y1 y2 4)) ?_
      ((conv=>whnf);repeat(refine And.intro (by omega) ?_;(conv=>whnf)))
      refine EvIf.neg ?_ ?_
      · by_cases h3 : i = 3
        · have := b4 h3
          subst h3
          simp
          omega
        · have hq1 : q = true := by rw [← hq]; exact decide_eq_true (b3 (by omega))
          have h3' : ¬ (i : Int) = 3 := by omega
          simp [hq1, h3']
      ((conv=>whnf);repeat(refine And.intro (by omega) ?_;(conv=>whnf)))
      refine LoopI.back (i + 1) (by show i + 1 ≤ 4; omega) (by show 4 - (i + 1) < 4 - i; omega) (Sub.of [] [] rfl ?_)
      ((repeat' (refine And.intro ?_ ?_)) <;> first | rfl | exact True.intro | omega)
  · ((conv=>whnf);repeat(refine And.intro (by omega) ?_;(conv=>whnf)))
    refine EvCall.plain Try.call26 (.v (.bool true)) rfl (fun ρ W hp => lives16_s W) ?_
    ((conv=>whnf);repeat(refine And.intro (by omega) ?_;(conv=>whnf)))
    exact EvRet.ret (fun ρ => rfl)
theorem walk_LossyTwice (w : World) (V0 : Value) (zs : List Int) (h : Ints w V0 zs) (V1 : Value) (ms : List Int) (h2 : Ints w V1 ms) (V2 : Value) (ks : List Int) (h3 : Ints w V2 ks) (n : Int) (hn : I64 n) :
    Calls Try.prog 9 #[V0, V1, V2, .int .i64 n] w fun e w' => e = .returned (.bool true) ∧ Below w.heap.size w w' :=
  (lossytwice_s V0 V1 V2 zs ms ks n w h h2 h3 hn).out
end Go.Proofs.Ytpnngbfmmjjnaaa
