
/- The law LossyRefused, walked. -/
import Derived.Test.YtpnngbfmmjjnaaaLv
namespace Go.Proofs.Ytpnngbfmmjjnaaa
open Go.RowKit
set_option linter.unusedVariables false
set_option linter.unusedSimpArgs false

set_option maxRecDepth 20000 in
theorem ref_step_s (k : Nat) (hk : k < 4) (V v : Value) (d : Dc) (l : List Cl) (n : Int) (w : World) (h : DeclIs w V d) (hI : DcI d) (hv : RowsIn rC w v l) (hl : l.length ≤ 900) (hsp : spanN d ≤ 900) :
    Con Try.prog 34 #[.int .i64 (k : Int), V, v, .int .i64 n] w (RetR3 rC 62 w (stpR k d l n).1 (stpR k d l n).2.1 (stpR k d l n).2.2) := by
  have hD := h
  obtain ⟨nm, A, c, lb, rfl, hnm, hlab, hSh⟩ := h
  obtain ⟨A1, c1, rfl, e1, e2⟩ := hv.form
  refine enter tabOk mixed Try.func34 rfl Try.ntmps34 Try.results34 [.v (.int .i64 (k : Int)), .a (dcS nm (.v (.slice A lb.length c)) d), .s 0 4 l.length c1, .v (.int .i64 n)] (fun _ => A1) [⟨0, false, 62, 4, c1, .rows Cl rC (l)⟩] 1 rfl rfl (.ro (hp0 _ _ _) _ rfl rfl rfl (ro_rows hv rfl _)) ?_
  ((conv=>whnf);repeat(refine And.intro (by omega) ?_;(conv=>whnf)))
  match k, hk with
  | 0, _ =>
    refine EvIf.pos rfl ?_
    simp only [stpR]
    ((conv=>whnf);repeat(refine And.intro (by omega) ?_;(conv=>whnf)))
    refine EvCall.rows3 (R := rC) (ty := 62) (xs := (quR d l n).1) (c := (quR d l n).2.1) (z := (quR d l n).2.2) Try.call61 (fun ρ W hp => ref_quantise_s _ _ d l n W (hD.below hp.bel) hI (hp.rowsIn (R := rC) (n := 0) (c := c1) rfl (by decide) e1 e2 4) hl) (fun kk z1 z2 => ?_)
    ((conv=>whnf);repeat(refine And.intro (by omega) ?_;(conv=>whnf)))
    exact EvRet.rows3 (R := rC) rfl z1 rfl rfl rfl rfl
  | 1, _ =>
    refine EvIf.neg rfl ?_
    ((conv=>whnf);repeat(refine And.intro (by omega) ?_;(conv=>whnf)))
    refine EvIf.pos rfl ?_
    simp only [stpR]
    ((conv=>whnf);repeat(refine And.intro (by omega) ?_;(conv=>whnf)))
    refine EvCall.rows3 (R := rC) (ty := 62) (xs := (thnR d l n).1) (c := (thnR d l n).2.1) (z := (thnR d l n).2.2) Try.call62 (fun ρ W hp => ref_thin_s _ _ d l n W (hD.below hp.bel) hI (hp.rowsIn (R := rC) (n := 0) (c := c1) rfl (by decide) e1 e2 4) hl) (fun kk z1 z2 => ?_)
    ((conv=>whnf);repeat(refine And.intro (by omega) ?_;(conv=>whnf)))
    exact EvRet.rows3 (R := rC) rfl z1 rfl rfl rfl rfl
  | 2, _ =>
    refine EvIf.neg rfl ?_
    ((conv=>whnf);repeat(refine And.intro (by omega) ?_;(conv=>whnf)))
    refine EvIf.neg rfl ?_
    ((conv=>whnf);repeat(refine And.intro (by omega) ?_;(conv=>whnf)))
    refine EvIf.pos rfl ?_
    simp only [stpR]
    ((conv=>whnf);repeat(refine And.intro (by omega) ?_;(conv=>whnf)))
    refine EvCall.rows3 (R := rC) (ty := 62) (xs := (rolR d l n).1) (c := (rolR d l n).2.1) (z := (rolR d l n).2.2) Try.call63 (fun ρ W hp => ref_rollup_s _ _ d l n W (hD.below hp.bel) hI (hp.rowsIn (R := rC) (n := 0) (c := c1) rfl (by decide) e1 e2 4) hl hsp) (fun kk z1 z2 => ?_)
    ((conv=>whnf);repeat(refine And.intro (by omega) ?_;(conv=>whnf)))
    exact EvRet.rows3 (R := rC) rfl z1 rfl rfl rfl rfl
  | 3, _ =>
    refine EvIf.neg rfl ?_
    ((conv=>whnf);repeat(refine And.intro (by omega) ?_;(conv=>whnf)))
    refine EvIf.neg rfl ?_
    ((conv=>whnf);repeat(refine And.intro (by omega) ?_;(conv=>whnf)))
    refine EvIf.neg rfl ?_
    simp only [stpR]
    ((conv=>whnf);repeat(refine And.intro (by omega) ?_;(conv=>whnf)))
    refine EvCall.rows3 (R := rC) (ty := 62) (xs := (retR d l n).1) (c := (retR d l n).2.1) (z := (retR d l n).2.2) Try.call64 (fun ρ W hp => ref_retain_s _ _ d l n W (hD.below hp.bel) hI (hp.rowsIn (R := rC) (n := 0) (c := c1) rfl (by decide) e1 e2 4) hl) (fun kk z1 z2 => ?_)
    ((conv=>whnf);repeat(refine And.intro (by omega) ?_;(conv=>whnf)))
    exact EvRet.rows3 (R := rC) rfl z1 rfl rfl rfl rfl
theorem rowsNil16 {α : Type} (R : RowS α) (w : World) : RowsIn R w (.slice none 0 0) ([] : List α) := ⟨none, 0, rfl, Nat.le_refl _, by simp [maxLen], by simp [rowC], fun h => absurd h (by simp)⟩
theorem bent_I (d : Dc) (k n : Int) (h : DcI d) (hn : I64 n) : DcI (bent d k n) := by
  obtain ⟨h0, h1, h2, h3, h4, h5, h6, h7, h8, h9⟩ := h
  unfold bent
  (repeat' split) <;> exact ⟨by assumption, by assumption, by assumption, by assumption, by assumption, by assumption, by assumption, by assumption, by assumption, by assumption⟩
theorem finR_err (d : Dc) (l r : List Cl) (h : (finR d l r).2.2 ≠ 0) : (finR d l r).1.length = 0 ∧ (finR d l r).2.1 = 0 := by
  unfold finR at *
  split
  · exact ⟨rfl, rfl⟩
  · split
    · exact ⟨rfl, rfl⟩
    · rename_i h1 h2
      rw [if_neg h1, if_neg h2] at h
      exact absurd rfl h
theorem stpR_err (k : Nat) (d : Dc) (l : List Cl) (n : Int) (h : (stpR k d l n).2.2 ≠ 0) : (stpR k d l n).1.length = 0 ∧ (stpR k d l n).2.1 = 0 := by
  unfold stpR at *
  split
  · simp only [quR] at *
    split
    · exact ⟨rfl, rfl⟩
    · rename_i h1
      rw [if_neg h1] at h
      split
      · exact ⟨rfl, rfl⟩
      · rename_i h2
        rw [if_neg h2] at h
        exact finR_err _ _ _ h
  · simp only [thnR] at *
    split
    · exact ⟨rfl, rfl⟩
    · rename_i h1
      rw [if_neg h1] at h
      split
      · exact ⟨rfl, rfl⟩
      · rename_i h2
        rw [if_neg h2] at h
        exact finR_err _ _ _ h
  · simp only [rolR] at *
    split
    · exact ⟨rfl, rfl⟩
    · rename_i h1
      rw [if_neg h1] at h
      split
      · exact ⟨rfl, rfl⟩
      · rename_i h2
        rw [if_neg h2] at h
        exact finR_err _ _ _ h
  · simp only [retR] at *
    split
    · exact ⟨rfl, rfl⟩
    · rename_i h1
      rw [if_neg h1] at h
      split
      · exact ⟨rfl, rfl⟩
      · rename_i h2
        rw [if_neg h2] at h
        exact finR_err _ _ _ h
set_option maxHeartbeats 1000000 in
set_option maxRecDepth 20000 in
theorem lossyrefused_s (v1 v2 : Value) (zs : List Int) (raw : List Cl) (h r n : Int) (w : World) (h1 : Ints w v1 zs) (hh : I64 h) (hr : I64 r) (h2 : RowsIn rC w v2 raw) (hn : I64 n) :
    Con Try.prog 8 #[v1, .int .i64 h, .int .i64 r, v2, .int .i64 n] w (Ret w (.bool true)) := by
  obtain ⟨A1, c1, rfl, e1, e2⟩ := h1.form
  obtain ⟨A2, c2, rfl, e3, e4⟩ := h2.form
  have hT := declOf_T zs
  have hI := declOf_I' zs
  refine enter tabOkW mixed Try.func8 rfl Try.ntmps8 Try.results8 [.s 0 1 zs.length c1, .v (.int .i64 h), .v (.int .i64 r), .s 1 4 raw.length c2, .v (.int .i64 n)] (fun n => if n = 0 then A1 else A2) [⟨1, false, 62, 4, c2, .rows Cl rC (raw)⟩, ⟨0, false, 3, 1, c1, .rows Int rI (zs)⟩] 2 rfl rfl (.ro (.ro (hp0 _ _ _) _ rfl rfl rfl (ro_ints h1 rfl _)) _ rfl rfl rfl (ro_rows h2 rfl _)) ?_
  ((conv=>whnf);repeat(refine And.intro (by omega) ?_;(conv=>whnf)))
  refine EvCall.decl Try.call11 (fun ρ W hp => decl_s _ zs W (hp.ints (n := 0) rfl e1 e2 h1.2)) (fun nm l c5 hnm hl hc1 hc2 => ?_)
  generalize declOf zs = d at hT hI ⊢
  have hTT := hT
  obtain ⟨t1, t2, t3⟩ := hTT
  have hsn : spanN d ≤ 101 := by unfold spanN; omega
  clear hT t1 t2 t3
  have hk : (min (raw.length : Int) 4).toNat ≤ raw.length := by omega
  have hlt : (raw.take (min (raw.length : Int) 4).toNat).length ≤ 4 := by simp; omega
  ((conv=>whnf);repeat(refine And.intro (by omega) ?_;(conv=>whnf)))
  refine EvBi.append_nil (R := rC) tyok29 rfl tyok62 rfl (by decide) rfl (raw.take (min (raw.length : Int) 4).toNat) (fun ρ W hp => hp.cut (R := rC) (n := 1) (xs := raw) rfl (by decide) e3 e4 _ hk 4) (by show _ * 32 ≤ _; omega) (by omega) (fun ca a1 a2 => ?_)
  generalize raw.take (min (raw.length : Int) 4).toNat = few at a1 hlt ⊢
  ((conv=>whnf);repeat(refine And.intro (by omega) ?_;(conv=>whnf)))
  refine EvLoop.inv (α := Nat × Dc) (fun p => p.1 ≤ 2 ∧ DcI p.2 ∧ spanN p.2 ≤ 101) (fun p => 2 - p.1) (fun p => [(13, [], .v (.int .i64 ((p.1 : Int)))), (4, [], .v (.int .i64 (n))), (1, [], .v (.int .i64 (h))), (2, [], .v (.int .i64 (r))), (10, [], .v (.bool (false))), (11, [], .p 3 0), (12, [], .s 4 4 few.length ca)])
    (fun p => [⟨4, true, 62, 4, ca, .rows Cl rC few⟩, ⟨3, true, 27, 12, 1, .cs (dcS nm (.s 2 2 l.length c5) p.2)⟩, ⟨2, true, 101, 2, c5, .rows (ByteArray × ByteArray) rL l⟩]) 5 (0, d) ⟨by omega, hI, hsn⟩ (Sub.of [] [] rfl ?_) ?_
  · ((repeat' (refine And.intro ?_ ?_)) <;> first | rfl | exact True.intro | omega)
  clear hI hsn d
  intro p ⟨hi2, hI, hsn⟩
  obtain ⟨i, d⟩ := p
  simp only at hi2 hI hsn
  ((conv=>whnf);repeat(refine And.intro (by omega) ?_;(conv=>whnf)))
  refine EvIf.split (fun g1 => ?_) (fun g1 => ?_)
  · have hi3 : i < 2 := by have := of_decide_eq_true g1; omega
    ((conv=>whnf);repeat(refine And.intro (by omega) ?_;(conv=>whnf)))
    refine EvLoop.inv (α := Nat) (fun j => j ≤ 4) (fun j => 4 - j) (fun j => [(14, [], .v (.int .i64 ((j : Int)))), (13, [], .v (.int .i64 ((i : Int)))), (4, [], .v (.int .i64 (n))), (1, [], .v (.int .i64 (h))), (2, [], .v (.int .i64 (r))), (10, [], .v (.bool (false))), (11, [], .p 3 0), (12, [], .s 4 4 few.length ca)])
      (fun j => [⟨4, true, 62, 4, ca, .rows Cl rC few⟩, ⟨3, true, 27, 12, 1, .cs (dcS nm (.s 2 2 l.length c5) d)⟩, ⟨2, true, 101, 2, c5, .rows (ByteArray × ByteArray) rL l⟩]) 5 0 (by omega) (Sub.of [] [] rfl ?_) ?_
    · ((repeat' (refine And.intro ?_ ?_)) <;> first | rfl | exact True.intro | omega)
    intro j hj4
    ((conv=>whnf);repeat(refine And.intro (by omega) ?_;(conv=>whnf)))
    refine EvIf.split (fun g2 => ?_) (fun g2 => ?_)
    · have hj5 : j < 4 := by have := of_decide_eq_true g2; omega
      have hs := fun V v W hd hv => step_s j hj5 V v d few n W hd hI hv (.inl (by omega)) (by omega)
      have hr := fun V v W hd hv => ref_step_s j hj5 V v d few n W hd hI hv (by omega) (by omega)
      have he := stpR_err j d few n
      obtain ⟨x, hx⟩ : ∃ x, (stpR j d few n).1 = x := ⟨_, rfl⟩
      obtain ⟨y, hy⟩ : ∃ x, (stpR j d few n).2.1 = x := ⟨_, rfl⟩
      obtain ⟨z, hz⟩ : ∃ x, (stpR j d few n).2.2 = x := ⟨_, rfl⟩
      rw [hx, hy, hz] at hs hr he
      ((conv=>whnf);repeat(refine And.intro (by omega) ?_;(conv=>whnf)))
      refine EvCall.rows3 (R := rC) (ty := 62) (xs := x) (c := y) (z := z) Try.call28 (fun ρ W hp => hs _ _ W (hp.decl (n := 2) (d := d) hnm hl hc1 hc2 rfl) (hp.rowsIn (R := rC) (n := 4) (c := ca) rfl (by decide) a1 a2 4)) (fun cx x1 x2 => ?_)
      ((conv=>whnf);repeat(refine And.intro (by omega) ?_;(conv=>whnf)))
      refine EvCall.rows3 (R := rC) (ty := 62) (xs := x) (c := y) (z := z) Try.call34 (fun ρ W hp => hr _ _ W (hp.decl (n := 2) (d := d) hnm hl hc1 hc2 rfl) (hp.rowsIn (R := rC) (n := 4) (c := ca) rfl (by decide) a1 a2 4)) (fun cy y1 y2 => ?_)
      ((conv=>whnf);repeat(refine And.intro (by omega) ?_;(conv=>whnf)))
      refine EvCallC.plain Try.call35 (.v (.bool true)) rfl (fun _ ρ W hp => by
        have := same_s _ _ x x W (hp.rowsIn (R := rC) (n := 5) (c := cx) rfl (by decide) x1 x2 4) (hp.rowsIn (R := rC) (n := 6) (c := cy) rfl (by decide) y1 y2 4)
        rw [decide_eq_true rfl] at this
        exact this) ?_
      ((conv=>whnf);repeat(refine And.intro (by omega) ?_;(conv=>whnf)))
      refine EvIf.neg (by
        by_cases hz0 : z = 0
        · simp [hz0]
        · obtain ⟨q1, q2⟩ := he hz0
          simp [q1, q2]) ?_
      ((conv=>whnf);repeat(refine And.intro (by omega) ?_;(conv=>whnf)))
      rw [IntWalk.i64_in ((j : Int) + 1) ⟨by omega, by omega⟩]
      refine LoopI.back (j + 1) (by show j + 1 ≤ 4; omega) (by show 4 - (j + 1) < 4 - j; omega) (Sub.of [] [] rfl ?_)
      ((repeat' (refine And.intro ?_ ?_)) <;> first | rfl | exact True.intro | omega)
    · ((conv=>whnf);repeat(refine And.intro (by omega) ?_;(conv=>whnf)))
      refine EvCall.plain Try.call31 (.t [.v (.int .i64 (costR d [] few).1), .v (.int .i64 (costR d [] few).2)]) rfl (fun ρ W hp => cost_s _ _ _ d [] few W (hp.decl (n := 2) (d := d) hnm hl hc1 hc2 rfl) hI (rowsNil16 _ _) (hp.rowsIn (R := rC) (n := 4) (c := ca) rfl (by decide) a1 a2 4)) ?_
      ((conv=>whnf);repeat(refine And.intro (by omega) ?_;(conv=>whnf)))
      refine EvCall.plain Try.call32 (.t [.v (.int .i64 (costR d [] few).1), .v (.int .i64 (costR d [] few).2)]) rfl (fun ρ W hp => ref_cost_s _ _ _ d [] few W (hp.decl (n := 2) (d := d) hnm hl hc1 hc2 rfl) hI (rowsNil16 _ _) (hp.rowsIn (R := rC) (n := 4) (c := ca) rfl (by decide) a1 a2 4)) ?_
      ((conv=>whnf);repeat(refine And.intro (by omega) ?_;(conv=>whnf)))
      refine EvIf.neg (by simp) ?_
      ((conv=>whnf);repeat(refine And.intro (by omega) ?_;(conv=>whnf)))
      refine EvCall.plain Try.call36 (.a (dcS nm (.s 2 2 l.length c5) (bent d (arnd h 10) r))) rfl (fun ρ W hp => bent_s nm (ρ 2) l.length c5 d h r W hh) ?_
      have hIb := bent_I d (arnd h 10) r hI hr
      generalize bent d (arnd h 10) r = b at hIb ⊢
      ((conv=>whnf);repeat(refine And.intro (by omega) ?_;(conv=>whnf)))
      refine EvIf.split (fun g3 => ?_) (fun g3 => ?_)
      · ((conv=>whnf);repeat(refine And.intro (by omega) ?_;(conv=>whnf)))
        refine EvCall.plain Try.call26 (.v (.bool true)) rfl (fun ρ W hp => lives16_s W) ?_
        ((conv=>whnf);repeat(refine And.intro (by omega) ?_;(conv=>whnf)))
        exact EvRet.ret (fun ρ => rfl)
      · have hsb : spanN b ≤ 101 := by
          unfold DcI I64 at hIb
          simp at g3
          unfold spanN
          by_cases hr0 : -9223372036854775808 ≤ b.last - b.first
          · rw [IntWalk.i64_in (b.last - b.first) ⟨hr0, by omega⟩] at g3
            omega
          · omega
        ((conv=>whnf);repeat(refine And.intro (by omega) ?_;(conv=>whnf)))
        rw [IntWalk.i64_in ((i : Int) + 1) ⟨by omega, by omega⟩]
        refine LoopI.back (i + 1, b) ⟨by show i + 1 ≤ 2; omega, hIb, hsb⟩ (by show 2 - (i + 1) < 2 - i; omega) (Sub.of [] [] rfl ?_)
        ((repeat' (refine And.intro ?_ ?_)) <;> first | rfl | exact True.intro | omega)
  · ((conv=>whnf);repeat(refine And.intro (by omega) ?_;(conv=>whnf)))
    refine EvCall.plain Try.call26 (.v (.bool true)) rfl (fun ρ W hp => lives16_s W) ?_
    ((conv=>whnf);repeat(refine And.intro (by omega) ?_;(conv=>whnf)))
    exact EvRet.ret (fun ρ => rfl)
theorem walk_LossyRefused (w : World) (V0 : Value) (zs : List Int) (h : Ints w V0 zs) (h0 : Int) (hh : I64 h0) (r : Int) (hr : I64 r) (V1 : Value) (raw : List Cl) (h2 : RowsIn rC w V1 raw ∧ ∀ c ∈ raw, ClI c) (n : Int) (hn : I64 n) :
    Calls Try.prog 8 #[V0, .int .i64 h0, .int .i64 r, V1, .int .i64 n] w fun e w' => e = .returned (.bool true) ∧ Below w.heap.size w w' :=
  (lossyrefused_s V0 V1 zs raw h0 r n w h hh hr h2.1 hn).out
end Go.Proofs.Ytpnngbfmmjjnaaa
