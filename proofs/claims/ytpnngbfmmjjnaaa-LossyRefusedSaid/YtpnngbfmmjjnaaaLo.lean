
/- Lossy steps: Thin, walked. -/
import Derived.Test.YtpnngbfmmjjnaaaLn
namespace Go.Proofs.Ytpnngbfmmjjnaaa
open Go.RowKit
set_option linter.unusedVariables false
set_option linter.unusedSimpArgs false

theorem srt_of {l : List Cl} (h : SortedC l) : SrtC l := by
  intro i j hij hj hlt
  by_cases he : i = j
  · subst he
    unfold cmpC at hlt
    simp at hlt
  · have h1 : cmpC (l.getD i cl0) (l.getD j cl0) ≤ 0 := by
      have := List.pairwise_iff_getElem.1 h i j (by omega) hj (by omega)
      simpa [List.getD_eq_getElem?_getD, hj, show i < l.length by omega] using this
    exact (cmpC_lt _ _).1 hlt h1
theorem keepW_sub (T : List Int → List Int → Bool) (f : Int) : ∀ (n : Nat) (lo hi : List Int) (l : List Cl), (keepW T f n lo hi l).Sublist l
  | 0, _, _, l => by simp [keepW]
  | n + 1, lo, hi, l => by
    unfold keepW
    split
    · simp
    · split
      · split
        · simp
        · exact List.Sublist.refl _
      · have h1 := keepW_sub T f n (wAll f lo hi (l.drop (l.length / 2))).1 (wAll f lo hi (l.drop (l.length / 2))).2 (l.take (l.length / 2))
        generalize keepW T f n (wAll f lo hi (l.drop (l.length / 2))).1 (wAll f lo hi (l.drop (l.length / 2))).2 (l.take (l.length / 2)) = K at *
        have h2 := keepW_sub T f n (wAll f lo hi K).1 (wAll f lo hi K).2 (l.drop (l.length / 2))
        have h3 := h1.append h2
        rw [List.take_append_drop] at h3
        exact h3
theorem sub_ok {l K : List Cl} (h : K.Sublist (sortC l)) (hl : l.length < 102) : SortOk K := by
  have h1 := h.length_le
  rw [sortC_len] at h1
  exact .inr ⟨by omega, srt_of ((sortC_sorted l).sublist h)⟩
noncomputable def thnL (d : Dc) (x : Env12) (l : List Cl) (most : Int) : List Cl := keepW (tstB d x most d.first) d.first l.length (List.replicate (spanN d) d.lo) (List.replicate (spanN d) d.hi) (sortC l)
noncomputable def thnR (d : Dc) (l : List Cl) (most : Int) : List Cl × Int × Int := if (newR d l).2 ≠ 0 then ([], 0, (newR d l).2) else if most < 0 then ([], 0, 1) else finR d l (thnL d (newR d l).1 l most)
set_option maxHeartbeats 1000000 in
set_option maxRecDepth 20000 in
theorem thin_s (V v : Value) (d : Dc) (l : List Cl) (most : Int) (w : World) (h : DeclIs w V d) (hI : DcI d) (hv : RowsIn rC w v l) (hl : SortOk l) (hsp : d.last - d.first ≤ 999999) :
    Con Try.prog 19 #[V, v, .int .i64 most] w (RetR3 rC 62 w (thnR d l most).1 (thnR d l most).2.1 (thnR d l most).2.2) := by
  have hD := h
  obtain ⟨nm, A, c, lb, rfl, hnm, hlab, hSh⟩ := h
  obtain ⟨A1, c1, rfl, e1, e2⟩ := hv.form
  have hok := newR_ok (d := d) (l := l)
  have hll := sortOk_len hl
  unfold thnR
  refine enter tabOk mixed Try.func19 rfl Try.ntmps19 Try.results19 [.a (dcS nm (.v (.slice A lb.length c)) d), .s 0 4 l.length c1, .v (.int .i64 most)] (fun _ => A1) [⟨0, false, 62, 4, c1, .rows Cl rC (l)⟩] 1 rfl rfl (.ro (hp0 _ _ _) _ rfl rfl rfl (ro_rows hv rfl _)) ?_
  ((conv=>whnf);repeat(refine And.intro (by omega) ?_;(conv=>whnf)))
  refine EvCall.two (ty := 3) (xs := (newR d l).1.lo) (ys := (newR d l).1.hi) (envES (newR d l).1.f (newR d l).2) (envES_den _ _) (envES_lt _ _) Try.call14 (fun ρ W hp => new_s _ _ d l W (hD.below hp.bel) hI (hp.rowsIn (R := rC) (n := 0) (c := c1) rfl (by decide) e1 e2 4)) (fun p1 p2 q1 q2 q3 q4 => ?_)
  generalize newR d l = x at *
  ((conv=>whnf);repeat(refine And.intro (by omega) ?_;(conv=>whnf)))
  refine EvIf.split (fun g => ?_) (fun g => ?_)
  · rw [if_pos (by simpa using g)]
    ((conv=>whnf);repeat(refine And.intro (by omega) ?_;(conv=>whnf)))
    exact EvRet.rows3_nil rfl rfl rfl
  have g0 : x.2 = 0 := by simpa using g
  rw [if_neg (by simpa using g)]
  obtain ⟨hvc, _, hlv, hoo, hxe⟩ := hok g0
  have hbd := valid_bounds hvc
  have hxl : x.1.lo.length = spanN d := by rw [hxe]; exact rLoL_len d l (spanN d)
  ((conv=>whnf);repeat(refine And.intro (by omega) ?_;(conv=>whnf)))
  refine EvIf.split (fun g1 => ?_) (fun g1 => ?_)
  · rw [if_pos (by simpa using g1)]
    ((conv=>whnf);repeat(refine And.intro (by omega) ?_;(conv=>whnf)))
    exact EvRet.rows3_nil rfl rfl rfl
  rw [if_neg (by simpa using g1)]
  obtain ⟨sp, hspn⟩ : ∃ sp, spanN d = sp := ⟨_, rfl⟩
  have hsp1 : d.last - d.first + 1 = (sp : Int) := by unfold spanN at hspn; omega
  have hsp2 : sp ≤ 1000000 := by omega
  obtain ⟨K, hK⟩ : ∃ K, thnL d x.1 l most = K := ⟨_, rfl⟩
  rw [hK]
  have hK2 : keepW (tstB d x.1 most d.first) d.first l.length (List.replicate sp d.lo) (List.replicate sp d.hi) (sortC l) = K := by rw [← hK]; unfold thnL; rw [hspn]
  have hKo : SortOk K := sub_ok (by rw [← hK2]; exact keepW_sub _ _ _ _ _ _) hll
  have hKl : K.length ≤ l.length := by
    rw [← hK2]
    have := (keepW_sub (tstB d x.1 most d.first) d.first l.length (List.replicate sp d.lo) (List.replicate sp d.hi) (sortC l)).length_le
    rwa [sortC_len] at this
  have hsl := sortC_len l
  have hcl : ∀ c ∈ sortC l, d.first ≤ c.f ∧ c.f ≤ c.t ∧ c.t < d.first + sp := fun c hc => by
    have := (valid_iff d c).1 (hlv c ((mem_sortC c l).1 hc))
    omega
  have hrl : (List.replicate sp d.lo).length = sp := List.length_replicate
  have hrh : (List.replicate sp d.hi).length = sp := List.length_replicate
  rw [hspn] at hxl
  ((conv=>whnf);repeat(refine And.intro (by omega) ?_;(conv=>whnf)))
  have hrep : ∀ (n : Nat) (L : List Ob) (nx : Nat) (ρ : Rho) (W : World) (y : Int), fnd L n = some ⟨n, true, 3, 1, 1, .cs [.v (.int .i64 y)]⟩ → Hp (refOf w) ρ L nx W → Con Try.prog 50 (denL ρ [.s n 1 1 1, .v (.int .i64 (x.1.lo.length : Int))]).toArray W (RetRows rI 3 W (List.replicate sp y)) := by
    intro n L nx ρ W y hf hp
    rw [hxl]
    exact repeat_s _ y sp W (hp.lit (R := rI) (ys := [y]) (sz := 1) (c := 1) hf (by decide) (by simp) (by omega) rfl) hsp2
  refine EvDraw.meet (.q 0 (.q 1 (.q 2 (.q 3 (.q 5 (.q 7 (.q 8 (.q 10 (.n 4 false (.n 6 false (.n 9 false (.n 11 false (.q 12 (.n 13 false (.n 14 true (.z) (.e)) (.e))) (.n 13 false (.n 11 false (.q 12 (.n 14 true (.z) (.e))) (.e)) (.e))) (.n 13 false (.n 9 false (.n 11 false (.q 12 (.n 14 true (.z) (.e))) (.e)) (.e)) (.e))) (.n 9 false (.n 6 false (.n 11 false (.q 12 (.n 13 false (.n 14 true (.z) (.e)) (.e))) (.n 13 false (.n 11 false (.q 12 (.n 14 true (.z) (.e))) (.e)) (.e))) (.n 13 false (.n 6 false (.n 11 false (.q 12 (.n 14 true (.z) (.e))) (.e)) (.e)) (.e))) (.n 13 false (.n 6 false (.n 9 false (.n 11 false (.q 12 (.n 14 true (.z) (.e))) (.e)) (.e)) (.n 9 false (.n 6 false (.n 11 false (.q 12 (.n 14 true (.z) (.e))) (.e)) (.e)) (.e))) (.e)))) (.n 9 false (.n 4 false (.n 6 false (.n 11 false (.q 12 (.n 13 false (.n 14 true (.z) (.e)) (.e))) (.n 13 false (.n 11 false (.q 12 (.n 14 true (.z) (.e))) (.e)) (.e))) (.n 13 false (.n 6 false (.n 11 false (.q 12 (.n 14 true (.z) (.e))) (.e)) (.e)) (.e))) (.n 13 false (.n 4 false (.n 6 false (.n 11 false (.q 12 (.n 14 true (.z) (.e))) (.e)) (.e)) (.e)) (.e))) (.n 13 false (.n 4 false (.n 6 false (.n 9 false (.n 11 false (.q 12 (.n 14 true (.z) (.e))) (.e)) (.e)) (.n 9 false (.n 6 false (.n 11 false (.q 12 (.n 14 true (.z) (.e))) (.e)) (.e)) (.e))) (.n 9 false (.n 4 false (.n 6 false (.n 11 false (.q 12 (.n 14 true (.z) (.e))) (.e)) (.e)) (.e)) (.e))) (.e)))))))))))) (by kernel_rfl) (α := Nat × Nat) (fun q => (sp ≤ q.1 ∧ q.1 ≤ 9223372036854775807) ∧ (sp ≤ q.2 ∧ q.2 ≤ 9223372036854775807)) (fun q => [(3, [], .p 1 0), (1, [], .s 0 4 l.length c1), (12, [], .p 5 0), (13, [], .p 8 0)])
    (fun q => [⟨6, true, 3, 1, q.1, .rows Int rI (List.replicate sp d.lo)⟩, ⟨7, true, 3, 1, q.2, .rows Int rI (List.replicate sp d.hi)⟩, ⟨8, true, 86, 3, 1, .cs [.v (.int .i64 d.first), .s 6 1 sp q.1, .s 7 1 sp q.2]⟩, ⟨5, true, 83, 16, 1, .cs (thS nm A lb.length c d x.1.f (.s 2 1 x.1.lo.length p1) (.s 3 1 x.1.hi.length p2) most)⟩, ⟨3, true, 3, 1, p2, .rows Int rI x.1.hi⟩, ⟨2, true, 3, 1, p1, .rows Int rI x.1.lo⟩, ⟨1, true, 27, 12, 1, .cs (dcS nm (.v (.slice A lb.length c)) d)⟩, ⟨0, false, 62, 4, c1, .rows Cl rC l⟩]) 9 ?_ ?_
  · ((conv=>whnf);repeat(refine And.intro (by omega) ?_;(conv=>whnf)))
    refine And.intro ?_ ?_
    · ((conv=>whnf);repeat(refine And.intro (by omega) ?_;(conv=>whnf)))
      refine And.intro ?_ ?_
      · ((conv=>whnf);repeat(refine And.intro (by omega) ?_;(conv=>whnf)))
        refine EvCall.rows (R := rI) (ty := 3) (xs := List.replicate sp d.lo) Try.call50 (fun ρ W hp => hrep 6 _ _ ρ W d.lo rfl hp) (fun cl hc1 hc2 => ?_)
        rw [hrl] at hc1 ⊢
        ((conv=>whnf);repeat(refine And.intro (by omega) ?_;(conv=>whnf)))
        refine And.intro ?_ ?_
        · ((conv=>whnf);repeat(refine And.intro (by omega) ?_;(conv=>whnf)))
          refine And.intro ?_ ?_
          · ((conv=>whnf);repeat(refine And.intro (by omega) ?_;(conv=>whnf)))
            refine EvCall.rows (R := rI) (ty := 3) (xs := List.replicate sp d.hi) Try.call50 (fun ρ W hp => hrep 8 _ _ ρ W d.hi rfl hp) (fun ch hc3 hc4 => ?_)
            rw [hrh] at hc3 ⊢
            ((conv=>whnf);repeat(refine And.intro (by omega) ?_;(conv=>whnf)))
            refine Exists.intro (cl, ch) (And.intro ⟨⟨hc1, hc2⟩, hc3, hc4⟩ (Sub.of [(6, 7), (7, 9), (8, 10)] [] rfl ?_))
            ((repeat' (refine And.intro ?_ ?_)) <;> first | rfl | exact True.intro | omega)
          ((conv=>whnf);repeat(refine And.intro (by omega) ?_;(conv=>whnf)))
          refine EvCall.rows (R := rI) (ty := 3) (xs := List.replicate sp d.hi) Try.call50 (fun ρ W hp => hrep 8 _ _ ρ W d.hi rfl hp) (fun ch hc3 hc4 => ?_)
          rw [hrh] at hc3 ⊢
          ((conv=>whnf);repeat(refine And.intro (by omega) ?_;(conv=>whnf)))
          refine Exists.intro (cl, ch) (And.intro ⟨⟨hc1, hc2⟩, hc3, hc4⟩ (Sub.of [(6, 7), (7, 10), (8, 9)] [] rfl ?_))
          ((repeat' (refine And.intro ?_ ?_)) <;> first | rfl | exact True.intro | omega)
        ((conv=>whnf);repeat(refine And.intro (by omega) ?_;(conv=>whnf)))
        refine EvCall.rows (R := rI) (ty := 3) (xs := List.replicate sp d.hi) Try.call50 (fun ρ W hp => hrep 9 _ _ ρ W d.hi rfl hp) (fun ch hc3 hc4 => ?_)
        rw [hrh] at hc3 ⊢
        ((conv=>whnf);repeat(refine And.intro (by omega) ?_;(conv=>whnf)))
        refine Exists.intro (cl, ch) (And.intro ⟨⟨hc1, hc2⟩, hc3, hc4⟩ (Sub.of [(6, 7), (7, 10)] [] rfl ?_))
        ((repeat' (refine And.intro ?_ ?_)) <;> first | rfl | exact True.intro | omega)
      ((conv=>whnf);repeat(refine And.intro (by omega) ?_;(conv=>whnf)))
      refine And.intro ?_ ?_
      · ((conv=>whnf);repeat(refine And.intro (by omega) ?_;(conv=>whnf)))
        refine And.intro ?_ ?_
        · ((conv=>whnf);repeat(refine And.intro (by omega) ?_;(conv=>whnf)))
          refine EvCall.rows (R := rI) (ty := 3) (xs := List.replicate sp d.lo) Try.call50 (fun ρ W hp => hrep 6 _ _ ρ W d.lo rfl hp) (fun cl hc1 hc2 => ?_)
          rw [hrl] at hc1 ⊢
          ((conv=>whnf);repeat(refine And.intro (by omega) ?_;(conv=>whnf)))
          refine And.intro ?_ ?_
          · ((conv=>whnf);repeat(refine And.intro (by omega) ?_;(conv=>whnf)))
            refine EvCall.rows (R := rI) (ty := 3) (xs := List.replicate sp d.hi) Try.call50 (fun ρ W hp => hrep 7 _ _ ρ W d.hi rfl hp) (fun ch hc3 hc4 => ?_)
            rw [hrh] at hc3 ⊢
            ((conv=>whnf);repeat(refine And.intro (by omega) ?_;(conv=>whnf)))
            refine Exists.intro (cl, ch) (And.intro ⟨⟨hc1, hc2⟩, hc3, hc4⟩ (Sub.of [(6, 8), (7, 9), (8, 10)] [] rfl ?_))
            ((repeat' (refine And.intro ?_ ?_)) <;> first | rfl | exact True.intro | omega)
          ((conv=>whnf);repeat(refine And.intro (by omega) ?_;(conv=>whnf)))
          refine EvCall.rows (R := rI) (ty := 3) (xs := List.replicate sp d.hi) Try.call50 (fun ρ W hp => hrep 7 _ _ ρ W d.hi rfl hp) (fun ch hc3 hc4 => ?_)
          rw [hrh] at hc3 ⊢
          ((conv=>whnf);repeat(refine And.intro (by omega) ?_;(conv=>whnf)))
          refine Exists.intro (cl, ch) (And.intro ⟨⟨hc1, hc2⟩, hc3, hc4⟩ (Sub.of [(6, 8), (7, 10), (8, 9)] [] rfl ?_))
          ((repeat' (refine And.intro ?_ ?_)) <;> first | rfl | exact True.intro | omega)
        ((conv=>whnf);repeat(refine And.intro (by omega) ?_;(conv=>whnf)))
        refine EvCall.rows (R := rI) (ty := 3) (xs := List.replicate sp d.lo) Try.call50 (fun ρ W hp => hrep 6 _ _ ρ W d.lo rfl hp) (fun cl hc1 hc2 => ?_)
        rw [hrl] at hc1 ⊢
        ((conv=>whnf);repeat(refine And.intro (by omega) ?_;(conv=>whnf)))
        refine EvCall.rows (R := rI) (ty := 3) (xs := List.replicate sp d.hi) Try.call50 (fun ρ W hp => hrep 7 _ _ ρ W d.hi rfl hp) (fun ch hc3 hc4 => ?_)
        rw [hrh] at hc3 ⊢
        ((conv=>whnf);repeat(refine And.intro (by omega) ?_;(conv=>whnf)))
        refine Exists.intro (cl, ch) (And.intro ⟨⟨hc1, hc2⟩, hc3, hc4⟩ (Sub.of [(6, 9), (7, 10)] [] rfl ?_))
        ((repeat' (refine And.intro ?_ ?_)) <;> first | rfl | exact True.intro | omega)
      ((conv=>whnf);repeat(refine And.intro (by omega) ?_;(conv=>whnf)))
      refine And.intro ?_ ?_
      · ((conv=>whnf);repeat(refine And.intro (by omega) ?_;(conv=>whnf)))
        refine EvCall.rows (R := rI) (ty := 3) (xs := List.replicate sp d.lo) Try.call50 (fun ρ W hp => hrep 6 _ _ ρ W d.lo rfl hp) (fun cl hc1 hc2 => ?_)
        rw [hrl] at hc1 ⊢
        ((conv=>whnf);repeat(refine And.intro (by omega) ?_;(conv=>whnf)))
        refine EvCall.rows (R := rI) (ty := 3) (xs := List.replicate sp d.hi) Try.call50 (fun ρ W hp => hrep 9 _ _ ρ W d.hi rfl hp) (fun ch hc3 hc4 => ?_)
        rw [hrh] at hc3 ⊢
        ((conv=>whnf);repeat(refine And.intro (by omega) ?_;(conv=>whnf)))
        refine Exists.intro (cl, ch) (And.intro ⟨⟨hc1, hc2⟩, hc3, hc4⟩ (Sub.of [(6, 8), (7, 10), (8, 7)] [] rfl ?_))
        ((repeat' (refine And.intro ?_ ?_)) <;> first | rfl | exact True.intro | omega)
      ((conv=>whnf);repeat(refine And.intro (by omega) ?_;(conv=>whnf)))
      refine EvCall.rows (R := rI) (ty := 3) (xs := List.replicate sp d.lo) Try.call50 (fun ρ W hp => hrep 6 _ _ ρ W d.lo rfl hp) (fun cl hc1 hc2 => ?_)
      rw [hrl] at hc1 ⊢
      ((conv=>whnf);repeat(refine And.intro (by omega) ?_;(conv=>whnf)))
      refine EvCall.rows (R := rI) (ty := 3) (xs := List.replicate sp d.hi) Try.call50 (fun ρ W hp => hrep 8 _ _ ρ W d.hi rfl hp) (fun ch hc3 hc4 => ?_)
      rw [hrh] at hc3 ⊢
      ((conv=>whnf);repeat(refine And.intro (by omega) ?_;(conv=>whnf)))
      refine Exists.intro (cl, ch) (And.intro ⟨⟨hc1, hc2⟩, hc3, hc4⟩ (Sub.of [(6, 9), (7, 10), (8, 7)] [] rfl ?_))
      ((repeat' (refine And.intro ?_ ?_)) <;> first | rfl | exact True.intro | omega)
    ((conv=>whnf);repeat(refine And.intro (by omega) ?_;(conv=>whnf)))
    refine And.intro ?_ ?_
    · ((conv=>whnf);repeat(refine And.intro (by omega) ?_;(conv=>whnf)))
      refine And.intro ?_ ?_
      · ((conv=>whnf);repeat(refine And.intro (by omega) ?_;(conv=>whnf)))
        refine And.intro ?_ ?_
        · ((conv=>whnf);repeat(refine And.intro (by omega) ?_;(conv=>whnf)))
          refine EvCall.rows (R := rI) (ty := 3) (xs := List.replicate sp d.lo) Try.call50 (fun ρ W hp => hrep 7 _ _ ρ W d.lo rfl hp) (fun cl hc1 hc2 => ?_)
          rw [hrl] at hc1 ⊢
          ((conv=>whnf);repeat(refine And.intro (by omega) ?_;(conv=>whnf)))
          refine And.intro ?_ ?_
          · ((conv=>whnf);repeat(refine And.intro (by omega) ?_;(conv=>whnf)))
            refine EvCall.rows (R := rI) (ty := 3) (xs := List.replicate sp d.hi) Try.call50 (fun ρ W hp => hrep 6 _ _ ρ W d.hi rfl hp) (fun ch hc3 hc4 => ?_)
            rw [hrh] at hc3 ⊢
            ((conv=>whnf);repeat(refine And.intro (by omega) ?_;(conv=>whnf)))
            refine Exists.intro (cl, ch) (And.intro ⟨⟨hc1, hc2⟩, hc3, hc4⟩ (Sub.of [(6, 8), (7, 9), (8, 10)] [] rfl ?_))
            ((repeat' (refine And.intro ?_ ?_)) <;> first | rfl | exact True.intro | omega)
          ((conv=>whnf);repeat(refine And.intro (by omega) ?_;(conv=>whnf)))
          refine EvCall.rows (R := rI) (ty := 3) (xs := List.replicate sp d.hi) Try.call50 (fun ρ W hp => hrep 6 _ _ ρ W d.hi rfl hp) (fun ch hc3 hc4 => ?_)
          rw [hrh] at hc3 ⊢
          ((conv=>whnf);repeat(refine And.intro (by omega) ?_;(conv=>whnf)))
          refine Exists.intro (cl, ch) (And.intro ⟨⟨hc1, hc2⟩, hc3, hc4⟩ (Sub.of [(6, 8), (7, 10), (8, 9)] [] rfl ?_))
          ((repeat' (refine And.intro ?_ ?_)) <;> first | rfl | exact True.intro | omega)
        ((conv=>whnf);repeat(refine And.intro (by omega) ?_;(conv=>whnf)))
        refine EvCall.rows (R := rI) (ty := 3) (xs := List.replicate sp d.lo) Try.call50 (fun ρ W hp => hrep 7 _ _ ρ W d.lo rfl hp) (fun cl hc1 hc2 => ?_)
        rw [hrl] at hc1 ⊢
        ((conv=>whnf);repeat(refine And.intro (by omega) ?_;(conv=>whnf)))
        refine EvCall.rows (R := rI) (ty := 3) (xs := List.replicate sp d.hi) Try.call50 (fun ρ W hp => hrep 6 _ _ ρ W d.hi rfl hp) (fun ch hc3 hc4 => ?_)
        rw [hrh] at hc3 ⊢
        ((conv=>whnf);repeat(refine And.intro (by omega) ?_;(conv=>whnf)))
        refine Exists.intro (cl, ch) (And.intro ⟨⟨hc1, hc2⟩, hc3, hc4⟩ (Sub.of [(6, 9), (7, 10)] [] rfl ?_))
        ((repeat' (refine And.intro ?_ ?_)) <;> first | rfl | exact True.intro | omega)
      ((conv=>whnf);repeat(refine And.intro (by omega) ?_;(conv=>whnf)))
      refine EvCall.rows (R := rI) (ty := 3) (xs := List.replicate sp d.lo) Try.call50 (fun ρ W hp => hrep 8 _ _ ρ W d.lo rfl hp) (fun cl hc1 hc2 => ?_)
      rw [hrl] at hc1 ⊢
      ((conv=>whnf);repeat(refine And.intro (by omega) ?_;(conv=>whnf)))
      refine EvCall.rows (R := rI) (ty := 3) (xs := List.replicate sp d.hi) Try.call50 (fun ρ W hp => hrep 6 _ _ ρ W d.hi rfl hp) (fun ch hc3 hc4 => ?_)
      rw [hrh] at hc3 ⊢
      ((conv=>whnf);repeat(refine And.intro (by omega) ?_;(conv=>whnf)))
      refine Exists.intro (cl, ch) (And.intro ⟨⟨hc1, hc2⟩, hc3, hc4⟩ (Sub.of [(6, 9), (7, 10), (8, 7)] [] rfl ?_))
      ((repeat' (refine And.intro ?_ ?_)) <;> first | rfl | exact True.intro | omega)
    ((conv=>whnf);repeat(refine And.intro (by omega) ?_;(conv=>whnf)))
    refine And.intro ?_ ?_
    · ((conv=>whnf);repeat(refine And.intro (by omega) ?_;(conv=>whnf)))
      refine And.intro ?_ ?_
      · ((conv=>whnf);repeat(refine And.intro (by omega) ?_;(conv=>whnf)))
        refine EvCall.rows (R := rI) (ty := 3) (xs := List.replicate sp d.lo) Try.call50 (fun ρ W hp => hrep 7 _ _ ρ W d.lo rfl hp) (fun cl hc1 hc2 => ?_)
        rw [hrl] at hc1 ⊢
        ((conv=>whnf);repeat(refine And.intro (by omega) ?_;(conv=>whnf)))
        refine EvCall.rows (R := rI) (ty := 3) (xs := List.replicate sp d.hi) Try.call50 (fun ρ W hp => hrep 9 _ _ ρ W d.hi rfl hp) (fun ch hc3 hc4 => ?_)
        rw [hrh] at hc3 ⊢
        ((conv=>whnf);repeat(refine And.intro (by omega) ?_;(conv=>whnf)))
        refine Exists.intro (cl, ch) (And.intro ⟨⟨hc1, hc2⟩, hc3, hc4⟩ (Sub.of [(6, 8), (7, 10), (8, 6)] [] rfl ?_))
        ((repeat' (refine And.intro ?_ ?_)) <;> first | rfl | exact True.intro | omega)
      ((conv=>whnf);repeat(refine And.intro (by omega) ?_;(conv=>whnf)))
      refine EvCall.rows (R := rI) (ty := 3) (xs := List.replicate sp d.lo) Try.call50 (fun ρ W hp => hrep 7 _ _ ρ W d.lo rfl hp) (fun cl hc1 hc2 => ?_)
      rw [hrl] at hc1 ⊢
      ((conv=>whnf);repeat(refine And.intro (by omega) ?_;(conv=>whnf)))
      refine EvCall.rows (R := rI) (ty := 3) (xs := List.replicate sp d.hi) Try.call50 (fun ρ W hp => hrep 8 _ _ ρ W d.hi rfl hp) (fun ch hc3 hc4 => ?_)
      rw [hrh] at hc3 ⊢
      ((conv=>whnf);repeat(refine And.intro (by omega) ?_;(conv=>whnf)))
      refine Exists.intro (cl, ch) (And.intro ⟨⟨hc1, hc2⟩, hc3, hc4⟩ (Sub.of [(6, 9), (7, 10), (8, 6)] [] rfl ?_))
      ((repeat' (refine And.intro ?_ ?_)) <;> first | rfl | exact True.intro | omega)
    ((conv=>whnf);repeat(refine And.intro (by omega) ?_;(conv=>whnf)))
    refine EvCall.rows (R := rI) (ty := 3) (xs := List.replicate sp d.lo) Try.call50 (fun ρ W hp => hrep 8 _ _ ρ W d.lo rfl hp) (fun cl hc1 hc2 => ?_)
    rw [hrl] at hc1 ⊢
    ((conv=>whnf);repeat(refine And.intro (by omega) ?_;(conv=>whnf)))
    refine EvCall.rows (R := rI) (ty := 3) (xs := List.replicate sp d.hi) Try.call50 (fun ρ W hp => hrep 7 _ _ ρ W d.hi rfl hp) (fun ch hc3 hc4 => ?_)
    rw [hrh] at hc3 ⊢
    ((conv=>whnf);repeat(refine And.intro (by omega) ?_;(conv=>whnf)))
    refine Exists.intro (cl, ch) (And.intro ⟨⟨hc1, hc2⟩, hc3, hc4⟩ (Sub.of [(6, 9), (7, 10), (8, 6)] [] rfl ?_))
    ((repeat' (refine And.intro ?_ ?_)) <;> first | rfl | exact True.intro | omega)
  intro q ⟨⟨r1, r2⟩, r3, r4⟩
  ((conv=>whnf);repeat(refine And.intro (by omega) ?_;(conv=>whnf)))
  (refine EvDraw.one (.q 0 (.q 1 (.q 2 (.q 3 (.q 4 (.n 5 false (.n 6 false (.n 7 true (.q 8 (.q 9 (.q 10 (.q 11 (.q 12 (.q 13 (.z))))))) (.e)) (.e)) (.e))))))) (by kernel_rfl) ?_)
  ((conv=>whnf);repeat(refine And.intro (by omega) ?_;(conv=>whnf)))
  refine EvCall.rows (R := rC) (ty := 62) (xs := sortC l) Try.call52 (fun ρ W hp => sortk_s _ l W (hp.rowsIn (R := rC) (n := 0) (c := c1) rfl (by decide) e1 e2 4) hl) (fun sc s1 s2 => ?_)
  ((conv=>whnf);repeat(refine And.intro (by omega) ?_;(conv=>whnf)))
  refine EvCall.sub (R := rC) (ty := 62) (l := sortC l) (xs := K) 9 0 rfl Try.call51 (fun ρ W hp => ⟨ρ 9, (map_add0 _ _).symm, by
    rw [← hK2]
    exact keep_s d x.1 most d.first hI (by omega) (by omega) sp hsp2 l.length (sortC l) (List.replicate sp d.lo) (List.replicate sp d.hi) nm A lb c _ (ρ 2) (ρ 3) _ _ _ _ _ _ _ p1 p2 _ _ _ W (by omega) (by omega) hrl hrh hcl (hD.below hp.bel)
      (hp.rowsIn (R := rI) (n := 2) (c := p1) rfl (by decide) q1 q2 1) (hp.rowsIn (R := rI) (n := 3) (c := p2) rfl (by decide) q3 q4 1)
      (by have := hp.rowsIn (R := rI) (n := 6) (xs := List.replicate sp d.lo) (c := q.1) rfl (by decide) (by omega) r2 1; rw [hrl] at this; exact this)
      (by have := hp.rowsIn (R := rI) (n := 7) (xs := List.replicate sp d.hi) (c := q.2) rfl (by decide) (by omega) r4 1; rw [hrh] at this; exact this)
      (hp.rowsIn (R := rC) (n := 9) (xs := sortC l) (c := sc) rfl (by decide) s1 s2 4) (hp.ptr (n := 5) rfl (by simp [thS]))⟩) (fun ca oa u1 u2 u3 => ?_) (fun j ca u1 u2 u3 u4 => ?_)
  · ((conv=>whnf);repeat(refine And.intro (by omega) ?_;(conv=>whnf)))
    refine EvCall.rows3 (R := rC) (ty := 62) (xs := (finR d l K).1) (c := (finR d l K).2.1) (z := (finR d l K).2.2) Try.call49 (fun ρ W hp => by
      have hk := hp.rowsIn (R := rC) (n := 10) (xs := K) (c := ca) rfl (by decide) u1 (by omega) 4
      exact finish_s _ _ _ d l K W (hD.below hp.bel) hI (hp.rowsIn (R := rC) (n := 0) (c := c1) rfl (by decide) e1 e2 4) hk hKo) (fun kk z1 z2 => ?_)
    ((conv=>whnf);repeat(refine And.intro (by omega) ?_;(conv=>whnf)))
    exact EvRet.rows3 (R := rC) rfl z1 rfl rfl rfl rfl
  · have hK1 : K = [(sortC l).getD (0 + j) rC.d] := by rw [u2]; simp
    have hj : 0 + j < (sortC l).length := by omega
    ((conv=>whnf);repeat(refine And.intro (by omega) ?_;(conv=>whnf)))
    refine EvCall.rows3 (R := rC) (ty := 62) (xs := (finR d l K).1) (c := (finR d l K).2.1) (z := (finR d l K).2.2) Try.call49 (fun ρ W hp => by
      have hk := hK1 ▸ (hp.one (R := rC) (n := 9) (xs := sortC l) (eo := 0 + j) (c := ca) rfl (by decide) rfl hj u3 u4).2
      exact finish_s _ _ _ d l K W (hD.below hp.bel) hI (hp.rowsIn (R := rC) (n := 0) (c := c1) rfl (by decide) e1 e2 4) hk hKo) (fun kk z1 z2 => ?_)
    ((conv=>whnf);repeat(refine And.intro (by omega) ?_;(conv=>whnf)))
    exact EvRet.rows3 (R := rC) rfl z1 rfl rfl rfl rfl
end Go.Proofs.Ytpnngbfmmjjnaaa
