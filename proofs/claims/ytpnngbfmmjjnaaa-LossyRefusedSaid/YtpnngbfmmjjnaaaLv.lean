
/- The reference of the lossy steps: Thin, Rollup, Step, walked. -/
import Derived.Test.YtpnngbfmmjjnaaaLu
namespace Go.Proofs.Ytpnngbfmmjjnaaa
open Go.RowKit
set_option linter.unusedVariables false
set_option linter.unusedSimpArgs false

theorem sub_cost {d : Dc} {l S : List Cl} (h : (newR d l).2 = 0) (hs : ∀ c ∈ S, c ∈ l) (hn : S.length ≤ 4096) : costR d l S = (mxM (gW (newR d l).1 (newR d S).1) (spanN d), 0) := by
  obtain ⟨a, _, _, _, hg⟩ := (sub_weak h hs hn).new h
  unfold costR
  rw [if_neg (by rw [h]; simp), if_neg (by rw [a]; simp), hg]
set_option maxHeartbeats 1000000 in
set_option maxRecDepth 20000 in
theorem ref_thin_s (V v : Value) (d : Dc) (l : List Cl) (b : Int) (w : World) (h : DeclIs w V d) (hI : DcI d) (hv : RowsIn rC w v l) (hl : l.length ≤ 900) :
    Con Try.prog 62 #[V, v, .int .i64 b] w (RetR3 rC 62 w (thnR d l b).1 (thnR d l b).2.1 (thnR d l b).2.2) := by
  have hok := newR_ok (d := d) (l := l)
  have hth := fun h => thn_grd (d := d) (l := l) (most := b) h
  have hsc := fun S h => sub_cost (d := d) (l := l) (S := S) h
  obtain ⟨T, hT⟩ : ∃ T, cstB d l b = T := ⟨_, rfl⟩
  have hTd : ∀ S, T S = decide (mxM (gW (newR d l).1 (newR d S).1) (spanN d) ≤ b) := fun S => by rw [← hT]; rfl
  rw [hT] at hth
  unfold thnR
  have hD := h
  obtain ⟨nm, A, c, lb, rfl, hnm, hlab, hSh⟩ := h
  obtain ⟨A1, c1, rfl, e1, e2⟩ := hv.form
  refine enter tabOk mixed Try.func62 rfl Try.ntmps62 Try.results62 [.a (dcS nm (.v (.slice A lb.length c)) d), .s 0 4 l.length c1, .v (.int .i64 b)] (fun _ => A1) [⟨0, false, 62, 4, c1, .rows Cl rC (l)⟩] 1 rfl rfl (.ro (hp0 _ _ _) _ rfl rfl rfl (ro_rows hv rfl _)) ?_
  ((conv=>whnf);(repeat(refine And.intro ?_ ?_;(focus((first|omega|exact⟨rfl,True.intro⟩|exact⟨rfl,rfl,True.intro⟩|rfl|(simp only[List.length_set];first|omega|(refine⟨?_,?_⟩<;>omega)|(refine⟨?_,?_,?_⟩<;>omega))|(intro hg;(try simp only[bB]at hg);first|omega|(refine⟨?_,?_⟩<;>omega)|(refine⟨?_,?_,?_⟩<;>first|omega|(show _<_;(try simp only[List.length_set]);omega)|exact leT rfl))|(refine⟨?_,?_⟩<;>omega)|(refine⟨?_,?_,?_⟩<;>first|omega|(show _<_;(try simp only[List.length_set]);omega)|exact leT rfl)|(simp only[show rI.d=(0:Int)from rfl];omega));done));(conv=>whnf))))
  refine EvCall.two (ty := 3) (xs := (newR d l).1.lo) (ys := (newR d l).1.hi) (envES (newR d l).1.f (newR d l).2) (envES_den _ _) (envES_lt _ _) Try.call59 (fun ρ W hp => ref_new_s _ _ d l W (hD.below hp.bel) hI (hp.rowsIn (R := rC) (n := 0) (c := c1) rfl (by decide) e1 e2 4)) (fun p1 p2 q1 q2 q3 q4 => ?_)
  obtain ⟨x, hx0⟩ : ∃ x, newR d l = x := ⟨_, rfl⟩
  rw [hx0] at q1 q3 ⊢
  ((conv=>whnf);(repeat(refine And.intro ?_ ?_;(focus((first|omega|exact⟨rfl,True.intro⟩|exact⟨rfl,rfl,True.intro⟩|rfl|(simp only[List.length_set];first|omega|(refine⟨?_,?_⟩<;>omega)|(refine⟨?_,?_,?_⟩<;>omega))|(intro hg;(try simp only[bB]at hg);first|omega|(refine⟨?_,?_⟩<;>omega)|(refine⟨?_,?_,?_⟩<;>first|omega|(show _<_;(try simp only[List.length_set]);omega)|exact leT rfl))|(refine⟨?_,?_⟩<;>omega)|(refine⟨?_,?_,?_⟩<;>first|omega|(show _<_;(try simp only[List.length_set]);omega)|exact leT rfl)|(simp only[show rI.d=(0:Int)from rfl];omega));done));(conv=>whnf))))
  refine EvIf.split (fun g => ?_) (fun g => ?_)
  · rw [if_pos (by simpa using g)]
    ((conv=>whnf);(repeat(refine And.intro ?_ ?_;(focus((first|omega|exact⟨rfl,True.intro⟩|exact⟨rfl,rfl,True.intro⟩|rfl|(simp only[List.length_set];first|omega|(refine⟨?_,?_⟩<;>omega)|(refine⟨?_,?_,?_⟩<;>omega))|(intro hg;(try simp only[bB]at hg);first|omega|(refine⟨?_,?_⟩<;>omega)|(refine⟨?_,?_,?_⟩<;>first|omega|(show _<_;(try simp only[List.length_set]);omega)|exact leT rfl))|(refine⟨?_,?_⟩<;>omega)|(refine⟨?_,?_,?_⟩<;>first|omega|(show _<_;(try simp only[List.length_set]);omega)|exact leT rfl)|(simp only[show rI.d=(0:Int)from rfl];omega));done));(conv=>whnf))))
    exact EvRet.rows3_nil rfl rfl rfl
  have g0 : x.2 = 0 := by simpa using g
  rw [if_neg (by simpa using g)]
  obtain ⟨hvc, hll, hlv, hoo, hxe⟩ := hok (by rw [hx0]; exact g0)
  have hbd := valid_bounds hvc
  ((conv=>whnf);(repeat(refine And.intro ?_ ?_;(focus((first|omega|exact⟨rfl,True.intro⟩|exact⟨rfl,rfl,True.intro⟩|rfl|(simp only[List.length_set];first|omega|(refine⟨?_,?_⟩<;>omega)|(refine⟨?_,?_,?_⟩<;>omega))|(intro hg;(try simp only[bB]at hg);first|omega|(refine⟨?_,?_⟩<;>omega)|(refine⟨?_,?_,?_⟩<;>first|omega|(show _<_;(try simp only[List.length_set]);omega)|exact leT rfl))|(refine⟨?_,?_⟩<;>omega)|(refine⟨?_,?_,?_⟩<;>first|omega|(show _<_;(try simp only[List.length_set]);omega)|exact leT rfl)|(simp only[show rI.d=(0:Int)from rfl];omega));done));(conv=>whnf))))
  refine EvIf.split (fun g1 => ?_) (fun g1 => ?_)
  · rw [if_pos (by simpa using g1)]
    ((conv=>whnf);(repeat(refine And.intro ?_ ?_;(focus((first|omega|exact⟨rfl,True.intro⟩|exact⟨rfl,rfl,True.intro⟩|rfl|(simp only[List.length_set];first|omega|(refine⟨?_,?_⟩<;>omega)|(refine⟨?_,?_,?_⟩<;>omega))|(intro hg;(try simp only[bB]at hg);first|omega|(refine⟨?_,?_⟩<;>omega)|(refine⟨?_,?_,?_⟩<;>first|omega|(show _<_;(try simp only[List.length_set]);omega)|exact leT rfl))|(refine⟨?_,?_⟩<;>omega)|(refine⟨?_,?_,?_⟩<;>first|omega|(show _<_;(try simp only[List.length_set]);omega)|exact leT rfl)|(simp only[show rI.d=(0:Int)from rfl];omega));done));(conv=>whnf))))
    exact EvRet.rows3_nil rfl rfl rfl
  rw [if_neg (by simpa using g1)]
  have hgx : (newR d l).2 = 0 := by rw [hx0]; exact g0
  rw [← hx0, hth hgx]
  have hsl := sortC_len l
  have hsm : ∀ c ∈ sortC l, c ∈ l := fun c hc => (mem_sortC c l).1 hc
  have hRl : (grd T (sortC l)).length ≤ l.length := by rw [← hsl]; exact (grd_sub (sortC l) T).length_le
  obtain ⟨R, hR⟩ : ∃ R, grd T (sortC l) = R := ⟨_, rfl⟩
  rw [hR] at hRl ⊢
  obtain ⟨al, hal⟩ : ∃ al, sortC l = al := ⟨_, rfl⟩
  rw [hal] at hsl hsm hR
  ((conv=>whnf);(repeat(refine And.intro ?_ ?_;(focus((first|omega|exact⟨rfl,True.intro⟩|exact⟨rfl,rfl,True.intro⟩|rfl|(simp only[List.length_set];first|omega|(refine⟨?_,?_⟩<;>omega)|(refine⟨?_,?_,?_⟩<;>omega))|(intro hg;(try simp only[bB]at hg);first|omega|(refine⟨?_,?_⟩<;>omega)|(refine⟨?_,?_,?_⟩<;>first|omega|(show _<_;(try simp only[List.length_set]);omega)|exact leT rfl))|(refine⟨?_,?_⟩<;>omega)|(refine⟨?_,?_,?_⟩<;>first|omega|(show _<_;(try simp only[List.length_set]);omega)|exact leT rfl)|(simp only[show rI.d=(0:Int)from rfl];omega));done));(conv=>whnf))))
  refine EvCall.rows (R := rC) (ty := 62) (xs := al) Try.call80 (fun ρ W hp => by rw [← hal]; exact ref_sort_s _ l W (hp.rowsIn (R := rC) (n := 0) (c := c1) rfl (by decide) e1 e2 4) (by omega)) (fun ac ha1 ha2 => ?_)
  ((conv=>whnf);(repeat(refine And.intro ?_ ?_;(focus((first|omega|exact⟨rfl,True.intro⟩|exact⟨rfl,rfl,True.intro⟩|rfl|(simp only[List.length_set];first|omega|(refine⟨?_,?_⟩<;>omega)|(refine⟨?_,?_,?_⟩<;>omega))|(intro hg;(try simp only[bB]at hg);first|omega|(refine⟨?_,?_⟩<;>omega)|(refine⟨?_,?_,?_⟩<;>first|omega|(show _<_;(try simp only[List.length_set]);omega)|exact leT rfl))|(refine⟨?_,?_⟩<;>omega)|(refine⟨?_,?_,?_⟩<;>first|omega|(show _<_;(try simp only[List.length_set]);omega)|exact leT rfl)|(simp only[show rI.d=(0:Int)from rfl];omega));done));(conv=>whnf))))
  refine EvLoop.inv (α := Nat × List Cl × Nat) (fun p => p.1 ≤ al.length ∧ p.2.1.length ≤ p.1 ∧ p.2.1.length ≤ p.2.2 ∧ p.2.2 ≤ 9223372036854775807 ∧ (∀ c ∈ p.2.1, c ∈ l) ∧ p.2.1 ++ grd (fun S => T (p.2.1 ++ S)) (al.drop p.1) = R) (fun p => al.length - p.1) (fun p => [(13, [], .v (.int .i64 ((p.1 : Int)))), (12, [], .s 6 4 p.2.1.length p.2.2), (11, [], .s 5 4 al.length ac), (3, [], .p 1 0), (2, [], .v (.int .i64 (b))), (1, [], .s 0 4 l.length c1)])
    (fun p => [⟨6, true, 62, 4, p.2.2, .rows Cl rC p.2.1⟩, ⟨5, true, 62, 4, ac, .rows Cl rC al⟩, ⟨1, true, 27, 12, 1, .cs (dcS nm (.v (.slice A lb.length c)) d)⟩, ⟨0, false, 62, 4, c1, .rows Cl rC l⟩]) 7 (0, [], 0) ⟨by omega, by simp, by simp, by decide, by simp, by simpa using hR⟩ (Sub.of [] [6] rfl ?_) ?_
  · (repeat' (refine And.intro ?_ ?_)) <;> first | rfl | exact True.intro | omega
  intro p ⟨h1, h2, h3, h4, h5, h6⟩
  ((conv=>whnf);(repeat(refine And.intro ?_ ?_;(focus((first|omega|exact⟨rfl,True.intro⟩|exact⟨rfl,rfl,True.intro⟩|rfl|(simp only[List.length_set];first|omega|(refine⟨?_,?_⟩<;>omega)|(refine⟨?_,?_,?_⟩<;>omega))|(intro hg;(try simp only[bB]at hg);first|omega|(refine⟨?_,?_⟩<;>omega)|(refine⟨?_,?_,?_⟩<;>first|omega|(show _<_;(try simp only[List.length_set]);omega)|exact leT rfl))|(refine⟨?_,?_⟩<;>omega)|(refine⟨?_,?_,?_⟩<;>first|omega|(show _<_;(try simp only[List.length_set]);omega)|exact leT rfl)|(simp only[show rI.d=(0:Int)from rfl];omega));done));(conv=>whnf))))
  refine EvIf.split (fun g3 => ?_) (fun g3 => ?_)
  · have hlt : p.1 < al.length := by have := of_decide_eq_true g3; omega
    have hdr : al.drop p.1 = al.getD p.1 cl0 :: al.drop (p.1 + 1) := by
      rw [List.drop_eq_getElem_cons hlt, List.getD_eq_getElem?_getD, List.getElem?_eq_getElem hlt]
      rfl
    have hcm : al.getD p.1 cl0 ∈ l := hsm _ (getD_mem_cl hlt)
    have hdl : (al.drop (p.1 + 1)).length = al.length - (p.1 + 1) := by simp
    have htk : (al.drop (p.1 + 1)).take (al.length - (p.1 + 1)) = al.drop (p.1 + 1) := List.take_of_length_le (by omega)
    have hS : ∀ c ∈ p.2.1 ++ al.drop (p.1 + 1), c ∈ l := fun c hc => by
      rcases List.mem_append.1 hc with hc | hc
      · exact h5 c hc
      · exact hsm c (List.mem_of_mem_drop hc)
    have hcost := hsc (p.2.1 ++ al.drop (p.1 + 1)) hgx hS (by rw [List.length_append]; omega)
    have htd := hTd (p.2.1 ++ al.drop (p.1 + 1))
    obtain ⟨m, hm⟩ : ∃ m, mxM (gW (newR d l).1 (newR d (p.2.1 ++ al.drop (p.1 + 1))).1) (spanN d) = m := ⟨_, rfl⟩
    rw [hm] at hcost htd
    have hgr : grd (fun S => T (p.2.1 ++ S)) (al.drop p.1) = if T (p.2.1 ++ al.drop (p.1 + 1)) = true then grd (fun S => T (p.2.1 ++ S)) (al.drop (p.1 + 1)) else al.getD p.1 cl0 :: grd (fun S => T (p.2.1 ++ (al.getD p.1 cl0 :: S))) (al.drop (p.1 + 1)) := by rw [hdr]; rfl
    rw [hgr, htd] at h6
    clear hgr
    obtain ⟨K, hK⟩ : ∃ K, p.2.1 = K := ⟨_, rfl⟩
    rw [hK] at h2 h3 h5 h6 hS hcost ⊢
    have hKn : (K ++ al.drop (p.1 + 1)).length = K.length + (al.length - (p.1 + 1)) := by rw [List.length_append, hdl]
    ((conv=>whnf);(repeat(refine And.intro ?_ ?_;(focus((first|omega|exact⟨rfl,True.intro⟩|exact⟨rfl,rfl,True.intro⟩|rfl|(simp only[List.length_set];first|omega|(refine⟨?_,?_⟩<;>omega)|(refine⟨?_,?_,?_⟩<;>omega))|(intro hg;(try simp only[bB]at hg);first|omega|(refine⟨?_,?_⟩<;>omega)|(refine⟨?_,?_,?_⟩<;>first|omega|(show _<_;(try simp only[List.length_set]);omega)|exact leT rfl))|(refine⟨?_,?_⟩<;>omega)|(refine⟨?_,?_,?_⟩<;>first|omega|(show _<_;(try simp only[List.length_set]);omega)|exact leT rfl)|(simp only[show rI.d=(0:Int)from rfl];omega));done));(conv=>whnf))))
    (refine EvDraw.one (.q 0 (.q 1 (.q 3 (.q 4 (.q 5 (.q 6 (.n 2 true (.n 7 true (.q 8 (.z)) (.e)) (.e)))))))) (by kernel_rfl) ?_)
    ((conv=>whnf);(repeat(refine And.intro ?_ ?_;(focus((first|omega|exact⟨rfl,True.intro⟩|exact⟨rfl,rfl,True.intro⟩|rfl|(simp only[List.length_set];first|omega|(refine⟨?_,?_⟩<;>omega)|(refine⟨?_,?_,?_⟩<;>omega))|(intro hg;(try simp only[bB]at hg);first|omega|(refine⟨?_,?_⟩<;>omega)|(refine⟨?_,?_,?_⟩<;>first|omega|(show _<_;(try simp only[List.length_set]);omega)|exact leT rfl))|(refine⟨?_,?_⟩<;>omega)|(refine⟨?_,?_,?_⟩<;>first|omega|(show _<_;(try simp only[List.length_set]);omega)|exact leT rfl)|(simp only[show rI.d=(0:Int)from rfl];omega));done));(conv=>whnf))))
    refine EvBi.append_nil (R := rC) tyok29 rfl tyok62 rfl (by decide) rfl K (fun ρ W hp => hp.rowsIn (R := rC) (n := 6) (xs := K) (c := p.2.2) rfl (by decide) h3 h4 4) (by show _ * 32 ≤ _; omega) (by omega) (fun ca u1 u2 => ?_)
    ((conv=>whnf);(repeat(refine And.intro ?_ ?_;(focus((first|omega|exact⟨rfl,True.intro⟩|exact⟨rfl,rfl,True.intro⟩|rfl|(simp only[List.length_set];first|omega|(refine⟨?_,?_⟩<;>omega)|(refine⟨?_,?_,?_⟩<;>omega))|(intro hg;(try simp only[bB]at hg);first|omega|(refine⟨?_,?_⟩<;>omega)|(refine⟨?_,?_,?_⟩<;>first|omega|(show _<_;(try simp only[List.length_set]);omega)|exact leT rfl))|(refine⟨?_,?_⟩<;>omega)|(refine⟨?_,?_,?_⟩<;>first|omega|(show _<_;(try simp only[List.length_set]);omega)|exact leT rfl)|(simp only[show rI.d=(0:Int)from rfl];omega));done));(conv=>whnf))))
    refine EvBi.append (R := rC) (xs := K) tyok29 rfl tyok62 rfl (by decide) rfl rfl rfl u1 (al.drop (p.1 + 1)) (fun ρ W hp => by
      have := hp.part (R := rC) (n := 5) (xs := al) (c := ac) rfl (by decide) ha1 ha2 (p.1 + 1) al.length (by omega) (Nat.le_refl _)
      rw [htk] at this
      exact this) (by rw [hdl]; show _ * 32 ≤ _; omega) (by rw [hdl]; omega) (fun cb u3 u4 => ?_)
    ((conv=>whnf);(repeat(refine And.intro ?_ ?_;(focus((first|omega|exact⟨rfl,True.intro⟩|exact⟨rfl,rfl,True.intro⟩|rfl|(simp only[List.length_set];first|omega|(refine⟨?_,?_⟩<;>omega)|(refine⟨?_,?_,?_⟩<;>omega))|(intro hg;(try simp only[bB]at hg);first|omega|(refine⟨?_,?_⟩<;>omega)|(refine⟨?_,?_,?_⟩<;>first|omega|(show _<_;(try simp only[List.length_set]);omega)|exact leT rfl))|(refine⟨?_,?_⟩<;>omega)|(refine⟨?_,?_,?_⟩<;>first|omega|(show _<_;(try simp only[List.length_set]);omega)|exact leT rfl)|(simp only[show rI.d=(0:Int)from rfl];omega));done));(conv=>whnf))))
    refine EvCall.plain Try.call32 (.t [.v (.int .i64 m), .v (.int .i64 0)]) rfl (fun ρ W hp => by
      have hr := hp.rowsIn (R := rC) (n := 8) (xs := K ++ al.drop (p.1 + 1)) (c := cb) rfl (by decide) (by rw [hKn]; rw [hdl] at u3; exact u3) u4 4
      rw [List.length_append] at hr
      have := ref_cost_s _ _ _ d l (K ++ al.drop (p.1 + 1)) W (hD.below hp.bel) hI (hp.rowsIn (R := rC) (n := 0) (c := c1) rfl (by decide) e1 e2 4) hr
      rw [hcost] at this
      exact this) ?_
    ((conv=>whnf);(repeat(refine And.intro ?_ ?_;(focus((first|omega|exact⟨rfl,True.intro⟩|exact⟨rfl,rfl,True.intro⟩|rfl|(simp only[List.length_set];first|omega|(refine⟨?_,?_⟩<;>omega)|(refine⟨?_,?_,?_⟩<;>omega))|(intro hg;(try simp only[bB]at hg);first|omega|(refine⟨?_,?_⟩<;>omega)|(refine⟨?_,?_,?_⟩<;>first|omega|(show _<_;(try simp only[List.length_set]);omega)|exact leT rfl))|(refine⟨?_,?_⟩<;>omega)|(refine⟨?_,?_,?_⟩<;>first|omega|(show _<_;(try simp only[List.length_set]);omega)|exact leT rfl)|(simp only[show rI.d=(0:Int)from rfl];omega));done));(conv=>whnf))))
    refine EvIf.split (fun g5 => ?_) (fun g5 => ?_)
    · have g6 : ¬ m ≤ b := by have := of_decide_eq_true g5; omega
      rw [decide_eq_false g6, if_neg (by simp)] at h6
      ((conv=>whnf);(repeat(refine And.intro ?_ ?_;(focus((first|omega|exact⟨rfl,True.intro⟩|exact⟨rfl,rfl,True.intro⟩|rfl|(simp only[List.length_set];first|omega|(refine⟨?_,?_⟩<;>omega)|(refine⟨?_,?_,?_⟩<;>omega))|(intro hg;(try simp only[bB]at hg);first|omega|(refine⟨?_,?_⟩<;>omega)|(refine⟨?_,?_,?_⟩<;>first|omega|(show _<_;(try simp only[List.length_set]);omega)|exact leT rfl))|(refine⟨?_,?_⟩<;>omega)|(refine⟨?_,?_,?_⟩<;>first|omega|(show _<_;(try simp only[List.length_set]);omega)|exact leT rfl)|(simp only[show rI.d=(0:Int)from rfl];omega));done));(conv=>whnf))))
      refine EvBi.append (R := rC) (xs := K) tyok29 rfl tyok62 rfl (by decide) rfl rfl rfl h3 [al.getD p.1 cl0] (fun ρ W hp => hp.lit (R := rC) (ys := [al.getD p.1 cl0]) (n := 9) rfl (by decide) (by simp) (by omega) rfl) (by show (_ + 1) * 32 ≤ _; omega) (by show _ + 1 ≤ _; omega) (fun cc u5 u6 => ?_)
      have hKl : (K ++ [al.getD p.1 cl0]).length = K.length + 1 := by rw [List.length_append]; rfl
      ((conv=>whnf);(repeat(refine And.intro ?_ ?_;(focus((first|omega|exact⟨rfl,True.intro⟩|exact⟨rfl,rfl,True.intro⟩|rfl|(simp only[List.length_set];first|omega|(refine⟨?_,?_⟩<;>omega)|(refine⟨?_,?_,?_⟩<;>omega))|(intro hg;(try simp only[bB]at hg);first|omega|(refine⟨?_,?_⟩<;>omega)|(refine⟨?_,?_,?_⟩<;>first|omega|(show _<_;(try simp only[List.length_set]);omega)|exact leT rfl))|(refine⟨?_,?_⟩<;>omega)|(refine⟨?_,?_,?_⟩<;>first|omega|(show _<_;(try simp only[List.length_set]);omega)|exact leT rfl)|(simp only[show rI.d=(0:Int)from rfl];omega));done));(conv=>whnf))))
      refine LoopI.back (p.1 + 1, K ++ [al.getD p.1 cl0], cc) ⟨by show p.1 + 1 ≤ _; omega, by rw [hKl]; show _ + 1 ≤ p.1 + 1; omega, by rw [hKl]; exact u5, u6, fun c hc => by
        rcases List.mem_append.1 hc with hc | hc
        · exact h5 c hc
        · rw [List.mem_singleton.1 hc]; exact hcm, by
        rw [← h6]
        simp only [List.append_assoc, List.singleton_append]⟩ (by show al.length - (p.1 + 1) < al.length - p.1; omega) (Sub.of [(6, 10)] [] rfl ?_)
      (repeat' (refine And.intro ?_ ?_)) <;> first | rfl | exact True.intro | omega | exact hKl | exact hKl.symm
    · have g6 : m ≤ b := by have := of_decide_eq_false g5; omega
      rw [decide_eq_true g6, if_pos rfl] at h6
      ((conv=>whnf);(repeat(refine And.intro ?_ ?_;(focus((first|omega|exact⟨rfl,True.intro⟩|exact⟨rfl,rfl,True.intro⟩|rfl|(simp only[List.length_set];first|omega|(refine⟨?_,?_⟩<;>omega)|(refine⟨?_,?_,?_⟩<;>omega))|(intro hg;(try simp only[bB]at hg);first|omega|(refine⟨?_,?_⟩<;>omega)|(refine⟨?_,?_,?_⟩<;>first|omega|(show _<_;(try simp only[List.length_set]);omega)|exact leT rfl))|(refine⟨?_,?_⟩<;>omega)|(refine⟨?_,?_,?_⟩<;>first|omega|(show _<_;(try simp only[List.length_set]);omega)|exact leT rfl)|(simp only[show rI.d=(0:Int)from rfl];omega));done));(conv=>whnf))))
      refine LoopI.back (p.1 + 1, K, p.2.2) ⟨by show p.1 + 1 ≤ _; omega, by show K.length ≤ p.1 + 1; omega, h3, h4, h5, h6⟩ (by show al.length - (p.1 + 1) < al.length - p.1; omega) (Sub.of [] [] rfl ?_)
      ((repeat' (refine And.intro ?_ ?_)) <;> first | rfl | exact True.intro | omega)
  · have g4 : p.1 = al.length := by have := of_decide_eq_false g3; omega
    rw [g4, List.drop_length] at h6
    have h7 : p.2.1 = R := by simpa [grd] using h6
    rw [h7] at h3 ⊢
    ((conv=>whnf);(repeat(refine And.intro ?_ ?_;(focus((first|omega|exact⟨rfl,True.intro⟩|exact⟨rfl,rfl,True.intro⟩|rfl|(simp only[List.length_set];first|omega|(refine⟨?_,?_⟩<;>omega)|(refine⟨?_,?_,?_⟩<;>omega))|(intro hg;(try simp only[bB]at hg);first|omega|(refine⟨?_,?_⟩<;>omega)|(refine⟨?_,?_,?_⟩<;>first|omega|(show _<_;(try simp only[List.length_set]);omega)|exact leT rfl))|(refine⟨?_,?_⟩<;>omega)|(refine⟨?_,?_,?_⟩<;>first|omega|(show _<_;(try simp only[List.length_set]);omega)|exact leT rfl)|(simp only[show rI.d=(0:Int)from rfl];omega));done));(conv=>whnf))))
    refine EvCall.rows3 (R := rC) (ty := 62) (xs := (finR d l R).1) (c := (finR d l R).2.1) (z := (finR d l R).2.2) Try.call79 (fun ρ W hp => ref_with_s _ _ _ d l R W (hD.below hp.bel) hI (hp.rowsIn (R := rC) (n := 0) (c := c1) rfl (by decide) e1 e2 4) (hp.rowsIn (R := rC) (n := 6) (xs := R) (c := p.2.2) rfl (by decide) (by omega) (by omega) 4) (by omega)) (fun kk z1 z2 => ?_)
    ((conv=>whnf);(repeat(refine And.intro ?_ ?_;(focus((first|omega|exact⟨rfl,True.intro⟩|exact⟨rfl,rfl,True.intro⟩|rfl|(simp only[List.length_set];first|omega|(refine⟨?_,?_⟩<;>omega)|(refine⟨?_,?_,?_⟩<;>omega))|(intro hg;(try simp only[bB]at hg);first|omega|(refine⟨?_,?_⟩<;>omega)|(refine⟨?_,?_,?_⟩<;>first|omega|(show _<_;(try simp only[List.length_set]);omega)|exact leT rfl))|(refine⟨?_,?_⟩<;>omega)|(refine⟨?_,?_,?_⟩<;>first|omega|(show _<_;(try simp only[List.length_set]);omega)|exact leT rfl)|(simp only[show rI.d=(0:Int)from rfl];omega));done));(conv=>whnf))))
    exact EvRet.rows3 (R := rC) rfl z1 rfl rfl rfl rfl
set_option maxHeartbeats 1000000 in
set_option maxRecDepth 20000 in
theorem ref_rollup_s (V v : Value) (d : Dc) (l : List Cl) (b : Int) (w : World) (h : DeclIs w V d) (hI : DcI d) (hv : RowsIn rC w v l) (hl : l.length ≤ 900) (hsn : spanN d ≤ 900) :
    Con Try.prog 63 #[V, v, .int .i64 b] w (RetR3 rC 62 w (rolR d l b).1 (rolR d l b).2.1 (rolR d l b).2.2) := by
  have hok := newR_ok (d := d) (l := l)
  unfold rolR
  have hD := h
  obtain ⟨nm, A, c, lb, rfl, hnm, hlab, hSh⟩ := h
  obtain ⟨A1, c1, rfl, e1, e2⟩ := hv.form
  refine enter tabOk mixed Try.func63 rfl Try.ntmps63 Try.results63 [.a (dcS nm (.v (.slice A lb.length c)) d), .s 0 4 l.length c1, .v (.int .i64 b)] (fun _ => A1) [⟨0, false, 62, 4, c1, .rows Cl rC (l)⟩] 1 rfl rfl (.ro (hp0 _ _ _) _ rfl rfl rfl (ro_rows hv rfl _)) ?_
  ((conv=>whnf);(repeat(refine And.intro ?_ ?_;(focus((first|omega|exact⟨rfl,True.intro⟩|exact⟨rfl,rfl,True.intro⟩|rfl|(simp only[List.length_set];first|omega|(refine⟨?_,?_⟩<;>omega)|(refine⟨?_,?_,?_⟩<;>omega))|(intro hg;(try simp only[bB]at hg);first|omega|(refine⟨?_,?_⟩<;>omega)|(refine⟨?_,?_,?_⟩<;>first|omega|(show _<_;(try simp only[List.length_set]);omega)|exact leT rfl))|(refine⟨?_,?_⟩<;>omega)|(refine⟨?_,?_,?_⟩<;>first|omega|(show _<_;(try simp only[List.length_set]);omega)|exact leT rfl)|(simp only[show rI.d=(0:Int)from rfl];omega));done));(conv=>whnf))))
  refine EvCall.two (ty := 3) (xs := (newR d l).1.lo) (ys := (newR d l).1.hi) (envES (newR d l).1.f (newR d l).2) (envES_den _ _) (envES_lt _ _) Try.call59 (fun ρ W hp => ref_new_s _ _ d l W (hD.below hp.bel) hI (hp.rowsIn (R := rC) (n := 0) (c := c1) rfl (by decide) e1 e2 4)) (fun p1 p2 q1 q2 q3 q4 => ?_)
  generalize newR d l = x at *
  ((conv=>whnf);(repeat(refine And.intro ?_ ?_;(focus((first|omega|exact⟨rfl,True.intro⟩|exact⟨rfl,rfl,True.intro⟩|rfl|(simp only[List.length_set];first|omega|(refine⟨?_,?_⟩<;>omega)|(refine⟨?_,?_,?_⟩<;>omega))|(intro hg;(try simp only[bB]at hg);first|omega|(refine⟨?_,?_⟩<;>omega)|(refine⟨?_,?_,?_⟩<;>first|omega|(show _<_;(try simp only[List.length_set]);omega)|exact leT rfl))|(refine⟨?_,?_⟩<;>omega)|(refine⟨?_,?_,?_⟩<;>first|omega|(show _<_;(try simp only[List.length_set]);omega)|exact leT rfl)|(simp only[show rI.d=(0:Int)from rfl];omega));done));(conv=>whnf))))
  refine EvIf.split (fun g => ?_) (fun g => ?_)
  · rw [if_pos (by simpa using g)]
    ((conv=>whnf);(repeat(refine And.intro ?_ ?_;(focus((first|omega|exact⟨rfl,True.intro⟩|exact⟨rfl,rfl,True.intro⟩|rfl|(simp only[List.length_set];first|omega|(refine⟨?_,?_⟩<;>omega)|(refine⟨?_,?_,?_⟩<;>omega))|(intro hg;(try simp only[bB]at hg);first|omega|(refine⟨?_,?_⟩<;>omega)|(refine⟨?_,?_,?_⟩<;>first|omega|(show _<_;(try simp only[List.length_set]);omega)|exact leT rfl))|(refine⟨?_,?_⟩<;>omega)|(refine⟨?_,?_,?_⟩<;>first|omega|(show _<_;(try simp only[List.length_set]);omega)|exact leT rfl)|(simp only[show rI.d=(0:Int)from rfl];omega));done));(conv=>whnf))))
    exact EvRet.rows3_nil rfl rfl rfl
  have g0 : x.2 = 0 := by simpa using g
  rw [if_neg (by simpa using g)]
  obtain ⟨hvc, hll, hlv, hoo, hxe⟩ := hok g0
  have hbd := valid_bounds hvc
  ((conv=>whnf);(repeat(refine And.intro ?_ ?_;(focus((first|omega|exact⟨rfl,True.intro⟩|exact⟨rfl,rfl,True.intro⟩|rfl|(simp only[List.length_set];first|omega|(refine⟨?_,?_⟩<;>omega)|(refine⟨?_,?_,?_⟩<;>omega))|(intro hg;(try simp only[bB]at hg);first|omega|(refine⟨?_,?_⟩<;>omega)|(refine⟨?_,?_,?_⟩<;>first|omega|(show _<_;(try simp only[List.length_set]);omega)|exact leT rfl))|(refine⟨?_,?_⟩<;>omega)|(refine⟨?_,?_,?_⟩<;>first|omega|(show _<_;(try simp only[List.length_set]);omega)|exact leT rfl)|(simp only[show rI.d=(0:Int)from rfl];omega));done));(conv=>whnf))))
  refine EvIf.split (fun g1 => ?_) (fun g1 => ?_)
  · rw [if_pos (by simpa using g1)]
    ((conv=>whnf);(repeat(refine And.intro ?_ ?_;(focus((first|omega|exact⟨rfl,True.intro⟩|exact⟨rfl,rfl,True.intro⟩|rfl|(simp only[List.length_set];first|omega|(refine⟨?_,?_⟩<;>omega)|(refine⟨?_,?_,?_⟩<;>omega))|(intro hg;(try simp only[bB]at hg);first|omega|(refine⟨?_,?_⟩<;>omega)|(refine⟨?_,?_,?_⟩<;>first|omega|(show _<_;(try simp only[List.length_set]);omega)|exact leT rfl))|(refine⟨?_,?_⟩<;>omega)|(refine⟨?_,?_,?_⟩<;>first|omega|(show _<_;(try simp only[List.length_set]);omega)|exact leT rfl)|(simp only[show rI.d=(0:Int)from rfl];omega));done));(conv=>whnf))))
    exact EvRet.rows3_nil rfl rfl rfl
  rw [if_neg (by simpa using g1)]
  have g2 : 1 ≤ b ∧ b ≤ 4096 := by
    simp only [Bool.or_eq_false_iff, decide_eq_false_iff_not] at g1
    omega
  have hsp : (spanN d : Int) = d.last - d.first + 1 := by unfold spanN; omega
  have hxf : x.1.f = d.first := by rw [hxe]
  have hxl : x.1.lo.length = spanN d := by rw [hxe]; exact rLoL_len ..
  have hxh : x.1.hi.length = spanN d := by rw [hxe]; exact rHiL_len ..
  have t1 : d.first.tdiv b = d.first / b := Int.tdiv_eq_ediv_of_nonneg (by omega)
  have t2 : d.last.tdiv b = d.last / b := Int.tdiv_eq_ediv_of_nonneg (by omega)
  have d1 := div_bd d.first g2.1
  have d2 := div_bd d.last g2.1
  have d3 : d.first / b ≤ d.last / b := by
    rcases Int.lt_or_le (d.last / b) (d.first / b) with h | h
    · have := mul_step h (show 0 ≤ b by omega); omega
    · exact h
  have d4 : 0 ≤ d.first / b := Int.ediv_nonneg (by omega) (by omega)
  obtain ⟨M, hM⟩ : ∃ M : Nat, (M : Int) = d.last / b - d.first / b + 1 := ⟨(d.last / b - d.first / b + 1).toNat, by omega⟩
  have hwr := win_rol (f := d.first) (q := b) x.1.lo x.1.hi (by omega) g2.1 (spanN d) (by omega) (M := M) (by rw [show d.first + (spanN d : Int) - 1 = d.last by omega]; exact hM)
  rw [show d.first + (spanN d : Int) - 1 = d.last by omega] at hwr
  rw [hxf, hxl, ← hwr]
  have hMs : (M : Int) ≤ d.last - d.first + 1 := by
    have hwl := winL_len d.first d.last b x.1.lo x.1.hi M
    rw [hwr] at hwl
    have := (rolL_len d.first b x.1.lo x.1.hi (spanN d)).1
    omega
  have d5 : d.last / b ≤ d.last := Int.ediv_le_self _ (by omega)
  clear hwr
  ((conv=>whnf);(repeat(refine And.intro ?_ ?_;(focus((first|omega|exact⟨rfl,True.intro⟩|exact⟨rfl,rfl,True.intro⟩|rfl|(simp only[List.length_set];first|omega|(refine⟨?_,?_⟩<;>omega)|(refine⟨?_,?_,?_⟩<;>omega))|(intro hg;(try simp only[bB]at hg);first|omega|(refine⟨?_,?_⟩<;>omega)|(refine⟨?_,?_,?_⟩<;>first|omega|(show _<_;(try simp only[List.length_set]);omega)|exact leT rfl))|(refine⟨?_,?_⟩<;>omega)|(refine⟨?_,?_,?_⟩<;>first|omega|(show _<_;(try simp only[List.length_set]);omega)|exact leT rfl)|(simp only[show rI.d=(0:Int)from rfl];omega));done));(conv=>whnf))))
  rw [t1]
  obtain ⟨g0', hg0⟩ : ∃ g, d.first / b = g := ⟨_, rfl⟩
  obtain ⟨g9, hg9⟩ : ∃ g, d.last / b = g := ⟨_, rfl⟩
  rw [hg0] at d1 d3 d4 hM ⊢
  rw [hg9] at d2 d3 d5 hM t2
  refine EvLoop.inv (α := Nat × Nat) (fun p => p.1 ≤ M ∧ p.1 ≤ p.2 ∧ p.2 ≤ 9223372036854775807) (fun p => M - p.1) (fun p => [(12, [], .v (.int .i64 ((g0' + (p.1 : Int))))), (11, [], .s 5 4 p.1 p.2), (9, [], .p 4 0), (3, [], .p 1 0), (2, [], .v (.int .i64 (b))), (1, [], .s 0 4 l.length c1)])
    (fun p => [⟨5, true, 62, 4, p.2, .rows Cl rC (winL d.first d.last b x.1.lo x.1.hi p.1)⟩, ⟨4, true, 97, 3, 1, .cs [.v (.int .i64 x.1.f), .s 2 1 x.1.lo.length p1, .s 3 1 x.1.hi.length p2]⟩, ⟨3, true, 3, 1, p2, .rows Int rI x.1.hi⟩, ⟨2, true, 3, 1, p1, .rows Int rI x.1.lo⟩, ⟨1, true, 27, 12, 1, .cs (dcS nm (.v (.slice A lb.length c)) d)⟩, ⟨0, false, 62, 4, c1, .rows Cl rC l⟩]) 6 (0, 0) ⟨by omega, by omega, by decide⟩ (Sub.of [] [5] rfl ?_) ?_
  · (repeat' (refine And.intro ?_ ?_)) <;> first | rfl | exact True.intro | omega | (simp only [Int.ofNat_zero, Int.add_zero]; done) | (show _ = _ ; simp)
  intro p ⟨i1, i2, i3⟩
  have hwl := winL_len d.first d.last b x.1.lo x.1.hi p.1
  ((conv=>whnf);(repeat(refine And.intro ?_ ?_;(focus((first|omega|exact⟨rfl,True.intro⟩|exact⟨rfl,rfl,True.intro⟩|rfl|(simp only[List.length_set];first|omega|(refine⟨?_,?_⟩<;>omega)|(refine⟨?_,?_,?_⟩<;>omega))|(intro hg;(try simp only[bB]at hg);first|omega|(refine⟨?_,?_⟩<;>omega)|(refine⟨?_,?_,?_⟩<;>first|omega|(show _<_;(try simp only[List.length_set]);omega)|exact leT rfl))|(refine⟨?_,?_⟩<;>omega)|(refine⟨?_,?_,?_⟩<;>first|omega|(show _<_;(try simp only[List.length_set]);omega)|exact leT rfl)|(simp only[show rI.d=(0:Int)from rfl];omega));done));(conv=>whnf))))
  rw [t2]
  ((conv=>whnf);(repeat(refine And.intro ?_ ?_;(focus((first|omega|exact⟨rfl,True.intro⟩|exact⟨rfl,rfl,True.intro⟩|rfl|(simp only[List.length_set];first|omega|(refine⟨?_,?_⟩<;>omega)|(refine⟨?_,?_,?_⟩<;>omega))|(intro hg;(try simp only[bB]at hg);first|omega|(refine⟨?_,?_⟩<;>omega)|(refine⟨?_,?_,?_⟩<;>first|omega|(show _<_;(try simp only[List.length_set]);omega)|exact leT rfl))|(refine⟨?_,?_⟩<;>omega)|(refine⟨?_,?_,?_⟩<;>first|omega|(show _<_;(try simp only[List.length_set]);omega)|exact leT rfl)|(simp only[show rI.d=(0:Int)from rfl];omega));done));(conv=>whnf))))
  refine EvIf.split (fun g3 => ?_) (fun g3 => ?_)
  · have hlt : p.1 < M := by have := of_decide_eq_true g3; omega
    have hws := winL_snoc d.first d.last b x.1.lo x.1.hi p.1
    have m1 : (g0' + (p.1 : Int)) * b ≤ d.last := by
      by_cases he : g0' + (p.1 : Int) = g9
      · rw [he]; omega
      · have := mul_step (show g0' + (p.1 : Int) < g9 by omega) (show 0 ≤ b by omega)
        omega
    have m2 : g0' * b ≤ (g0' + (p.1 : Int)) * b := Int.mul_le_mul_of_nonneg_right (by omega) (by omega)
    have m3 : 0 ≤ g0' * b := Int.mul_nonneg d4 (by omega)
    have hwc : winC d.first d.last b x.1.lo x.1.hi p.1 = ⟨max d.first ((g0' + (p.1 : Int)) * b), min d.last ((g0' + (p.1 : Int)) * b + b - 1), mnF x.1.lo (max d.first ((g0' + (p.1 : Int)) * b) - d.first).toNat (min d.last ((g0' + (p.1 : Int)) * b + b - 1) - max d.first ((g0' + (p.1 : Int)) * b) + 1).toNat, mxF x.1.hi (max d.first ((g0' + (p.1 : Int)) * b) - d.first).toNat (min d.last ((g0' + (p.1 : Int)) * b + b - 1) - max d.first ((g0' + (p.1 : Int)) * b) + 1).toNat⟩ := by unfold winC; rw [hg0]
    obtain ⟨P, hP⟩ : ∃ P, (g0' + (p.1 : Int)) * b = P := ⟨_, rfl⟩
    rw [hP] at m1 m2 hwc
    have m4 : d.first < P + b := by
      have := d1.2
      omega
    obtain ⟨Fr, hFr⟩ : ∃ F, max d.first P = F := ⟨_, rfl⟩
    obtain ⟨To, hTo⟩ : ∃ F, min d.last (P + b - 1) = F := ⟨_, rfl⟩
    rw [hFr, hTo] at hwc
    obtain ⟨s, hs⟩ : ∃ s : Nat, (s : Int) = Fr - d.first := ⟨(Fr - d.first).toNat, by omega⟩
    obtain ⟨n, hn⟩ : ∃ n : Nat, (n : Int) = To - Fr + 1 := ⟨(To - Fr + 1).toNat, by omega⟩
    rw [show (Fr - d.first).toNat = s by omega, show (To - Fr + 1).toNat = n by omega] at hwc
    have f0 : x.1.lo.getD (Fr - d.first).toNat rI.d = mnF x.1.lo s 0 := by rw [show (Fr - d.first).toNat = s by omega]; rfl
    have f1 : x.1.hi.getD (Fr - d.first).toNat rI.d = mxF x.1.hi s 0 := by rw [show (Fr - d.first).toNat = s by omega]; rfl
    ((conv=>whnf);(repeat(refine And.intro ?_ ?_;(focus((first|omega|exact⟨rfl,True.intro⟩|exact⟨rfl,rfl,True.intro⟩|rfl|(simp only[List.length_set];first|omega|(refine⟨?_,?_⟩<;>omega)|(refine⟨?_,?_,?_⟩<;>omega))|(intro hg;(try simp only[bB]at hg);first|omega|(refine⟨?_,?_⟩<;>omega)|(refine⟨?_,?_,?_⟩<;>first|omega|(show _<_;(try simp only[List.length_set]);omega)|exact leT rfl))|(refine⟨?_,?_⟩<;>omega)|(refine⟨?_,?_,?_⟩<;>first|omega|(show _<_;(try simp only[List.length_set]);omega)|exact leT rfl)|(simp only[show rI.d=(0:Int)from rfl];omega));done));(conv=>whnf))))
    rw [hP]
    ((conv=>whnf);(repeat(refine And.intro ?_ ?_;(focus((first|omega|exact⟨rfl,True.intro⟩|exact⟨rfl,rfl,True.intro⟩|rfl|(simp only[List.length_set];first|omega|(refine⟨?_,?_⟩<;>omega)|(refine⟨?_,?_,?_⟩<;>omega))|(intro hg;(try simp only[bB]at hg);first|omega|(refine⟨?_,?_⟩<;>omega)|(refine⟨?_,?_,?_⟩<;>first|omega|(show _<_;(try simp only[List.length_set]);omega)|exact leT rfl))|(refine⟨?_,?_⟩<;>omega)|(refine⟨?_,?_,?_⟩<;>first|omega|(show _<_;(try simp only[List.length_set]);omega)|exact leT rfl)|(simp only[show rI.d=(0:Int)from rfl];omega));done));(conv=>whnf))))
    rw [hFr, hTo]
    ((conv=>whnf);(repeat(refine And.intro ?_ ?_;(focus((first|omega|exact⟨rfl,True.intro⟩|exact⟨rfl,rfl,True.intro⟩|rfl|(simp only[List.length_set];first|omega|(refine⟨?_,?_⟩<;>omega)|(refine⟨?_,?_,?_⟩<;>omega))|(intro hg;(try simp only[bB]at hg);first|omega|(refine⟨?_,?_⟩<;>omega)|(refine⟨?_,?_,?_⟩<;>first|omega|(show _<_;(try simp only[List.length_set]);omega)|exact leT rfl))|(refine⟨?_,?_⟩<;>omega)|(refine⟨?_,?_,?_⟩<;>first|omega|(show _<_;(try simp only[List.length_set]);omega)|exact leT rfl)|(simp only[show rI.d=(0:Int)from rfl];omega));done));(conv=>whnf))))
    refine EvLoop.inv (α := Nat) (fun j => j ≤ n) (fun j => n - j) (fun j => [(14, [], .v (.int .i64 ((Fr + (j : Int))))), (13, [], .p 6 0), (12, [], .v (.int .i64 ((g0' + (p.1 : Int))))), (11, [], .s 5 4 p.1 p.2), (9, [], .p 4 0), (3, [], .p 1 0), (2, [], .v (.int .i64 (b))), (1, [], .s 0 4 l.length c1)])
      (fun j => [⟨6, true, 62, 4, 1, .cs [.v (.int .i64 Fr), .v (.int .i64 To), .v (.int .i64 (mnF x.1.lo s j)), .v (.int .i64 (mxF x.1.hi s j))]⟩, ⟨5, true, 62, 4, p.2, .rows Cl rC (winL d.first d.last b x.1.lo x.1.hi p.1)⟩, ⟨4, true, 97, 3, 1, .cs [.v (.int .i64 x.1.f), .s 2 1 x.1.lo.length p1, .s 3 1 x.1.hi.length p2]⟩, ⟨3, true, 3, 1, p2, .rows Int rI x.1.hi⟩, ⟨2, true, 3, 1, p1, .rows Int rI x.1.lo⟩, ⟨1, true, 27, 12, 1, .cs (dcS nm (.v (.slice A lb.length c)) d)⟩, ⟨0, false, 62, 4, c1, .rows Cl rC l⟩]) 7 0 (by omega) (Sub.of [] [] rfl ?_) ?_
    · ((repeat' (refine And.intro ?_ ?_)) <;> first | rfl | exact True.intro | omega)
    intro j hj
    ((conv=>whnf);(repeat(refine And.intro ?_ ?_;(focus((first|omega|exact⟨rfl,True.intro⟩|exact⟨rfl,rfl,True.intro⟩|rfl|(simp only[List.length_set];first|omega|(refine⟨?_,?_⟩<;>omega)|(refine⟨?_,?_,?_⟩<;>omega))|(intro hg;(try simp only[bB]at hg);first|omega|(refine⟨?_,?_⟩<;>omega)|(refine⟨?_,?_,?_⟩<;>first|omega|(show _<_;(try simp only[List.length_set]);omega)|exact leT rfl))|(refine⟨?_,?_⟩<;>omega)|(refine⟨?_,?_,?_⟩<;>first|omega|(show _<_;(try simp only[List.length_set]);omega)|exact leT rfl)|(simp only[show rI.d=(0:Int)from rfl];omega));done));(conv=>whnf))))
    refine EvIf.split (fun g5 => ?_) (fun g5 => ?_)
    · have hjn : j < n := by have := of_decide_eq_true g5; omega
      have e1 : mnF x.1.lo s (j + 1) = min (mnF x.1.lo s j) (x.1.lo.getD (Fr + (j : Int) - d.first).toNat rI.d) := by rw [show (Fr + (j : Int) - d.first).toNat = s + j by omega]; rfl
      have e2 : mxF x.1.hi s (j + 1) = max (mxF x.1.hi s j) (x.1.hi.getD (Fr + (j : Int) - d.first).toNat rI.d) := by rw [show (Fr + (j : Int) - d.first).toNat = s + j by omega]; rfl
      ((conv=>whnf);(repeat(refine And.intro ?_ ?_;(focus((first|omega|exact⟨rfl,True.intro⟩|exact⟨rfl,rfl,True.intro⟩|rfl|(simp only[List.length_set];first|omega|(refine⟨?_,?_⟩<;>omega)|(refine⟨?_,?_,?_⟩<;>omega))|(intro hg;(try simp only[bB]at hg);first|omega|(refine⟨?_,?_⟩<;>omega)|(refine⟨?_,?_,?_⟩<;>first|omega|(show _<_;(try simp only[List.length_set]);omega)|exact leT rfl))|(refine⟨?_,?_⟩<;>omega)|(refine⟨?_,?_,?_⟩<;>first|omega|(show _<_;(try simp only[List.length_set]);omega)|exact leT rfl)|(simp only[show rI.d=(0:Int)from rfl];omega));done));(conv=>whnf))))
      (refine EvDraw.one (.q 0 (.q 1 (.q 2 (.q 3 (.q 4 (.q 5 (.q 6 (.q 7 (.q 8 (.q 9 (.q 10 (.q 11 (.n 12 true (.z) (.e)))))))))))))) (by kernel_rfl) ?_)
      ((conv=>whnf);(repeat(refine And.intro ?_ ?_;(focus((first|omega|exact⟨rfl,True.intro⟩|exact⟨rfl,rfl,True.intro⟩|rfl|(simp only[List.length_set];first|omega|(refine⟨?_,?_⟩<;>omega)|(refine⟨?_,?_,?_⟩<;>omega))|(intro hg;(try simp only[bB]at hg);first|omega|(refine⟨?_,?_⟩<;>omega)|(refine⟨?_,?_,?_⟩<;>first|omega|(show _<_;(try simp only[List.length_set]);omega)|exact leT rfl))|(refine⟨?_,?_⟩<;>omega)|(refine⟨?_,?_,?_⟩<;>first|omega|(show _<_;(try simp only[List.length_set]);omega)|exact leT rfl)|(simp only[show rI.d=(0:Int)from rfl];omega));done));(conv=>whnf))))
      (refine EvDraw.one (.q 0 (.q 1 (.q 2 (.q 3 (.q 4 (.q 5 (.q 6 (.q 7 (.q 8 (.q 9 (.q 10 (.q 11 (.n 12 true (.z) (.e)))))))))))))) (by kernel_rfl) ?_)
      ((conv=>whnf);(repeat(refine And.intro ?_ ?_;(focus((first|omega|exact⟨rfl,True.intro⟩|exact⟨rfl,rfl,True.intro⟩|rfl|(simp only[List.length_set];first|omega|(refine⟨?_,?_⟩<;>omega)|(refine⟨?_,?_,?_⟩<;>omega))|(intro hg;(try simp only[bB]at hg);first|omega|(refine⟨?_,?_⟩<;>omega)|(refine⟨?_,?_,?_⟩<;>first|omega|(show _<_;(try simp only[List.length_set]);omega)|exact leT rfl))|(refine⟨?_,?_⟩<;>omega)|(refine⟨?_,?_,?_⟩<;>first|omega|(show _<_;(try simp only[List.length_set]);omega)|exact leT rfl)|(simp only[show rI.d=(0:Int)from rfl];omega));done));(conv=>whnf))))
      refine LoopI.back (j + 1) (by show j + 1 ≤ n; omega) (by show n - (j + 1) < n - j; omega) (Sub.of [] [] rfl ?_)
      ((repeat' (refine And.intro ?_ ?_)) <;> first | rfl | exact True.intro | omega)
    · have hjn : j = n := by have := of_decide_eq_false g5; omega
      subst hjn
      rw [hwc] at hws
      generalize mnF x.1.lo s j = u1 at *
      generalize mxF x.1.hi s j = u2 at *
      generalize winL d.first d.last b x.1.lo x.1.hi p.1 = fl at *
      ((conv=>whnf);(repeat(refine And.intro ?_ ?_;(focus((first|omega|exact⟨rfl,True.intro⟩|exact⟨rfl,rfl,True.intro⟩|rfl|(simp only[List.length_set];first|omega|(refine⟨?_,?_⟩<;>omega)|(refine⟨?_,?_,?_⟩<;>omega))|(intro hg;(try simp only[bB]at hg);first|omega|(refine⟨?_,?_⟩<;>omega)|(refine⟨?_,?_,?_⟩<;>first|omega|(show _<_;(try simp only[List.length_set]);omega)|exact leT rfl))|(refine⟨?_,?_⟩<;>omega)|(refine⟨?_,?_,?_⟩<;>first|omega|(show _<_;(try simp only[List.length_set]);omega)|exact leT rfl)|(simp only[show rI.d=(0:Int)from rfl];omega));done));(conv=>whnf))))
      refine EvBi.append (R := rC) (xs := fl) tyok29 rfl tyok62 rfl (by decide) rfl rfl (by rw [hwl]) (by rw [hwl]; exact i2) [⟨Fr, To, u1, u2⟩] (fun ρ W hp => hp.lit (R := rC) (ys := [⟨Fr, To, u1, u2⟩]) (n := 7) rfl (by decide) (by simp) (by omega) rfl) (by rw [hwl]; show (_ + 1) * 32 ≤ _; omega) (by rw [hwl]; show _ + 1 ≤ _; omega) (fun cc hq1 hq2 => ?_)
      rw [← hws]
      ((conv=>whnf);(repeat(refine And.intro ?_ ?_;(focus((first|omega|exact⟨rfl,True.intro⟩|exact⟨rfl,rfl,True.intro⟩|rfl|(simp only[List.length_set];first|omega|(refine⟨?_,?_⟩<;>omega)|(refine⟨?_,?_,?_⟩<;>omega))|(intro hg;(try simp only[bB]at hg);first|omega|(refine⟨?_,?_⟩<;>omega)|(refine⟨?_,?_,?_⟩<;>first|omega|(show _<_;(try simp only[List.length_set]);omega)|exact leT rfl))|(refine⟨?_,?_⟩<;>omega)|(refine⟨?_,?_,?_⟩<;>first|omega|(show _<_;(try simp only[List.length_set]);omega)|exact leT rfl)|(simp only[show rI.d=(0:Int)from rfl];omega));done));(conv=>whnf))))
      refine LoopI.back (p.1 + 1, cc) ⟨by show p.1 + 1 ≤ M; omega, by simpa [hwl] using hq1, hq2⟩ (by show M - (p.1 + 1) < M - p.1; omega) (Sub.of [(5, 8)] [] rfl ?_)
      (repeat' (refine And.intro ?_ ?_)) <;> first | rfl | exact True.intro | omega | exact congrArg (· + 1) hwl | exact congrArg (· + 1) hwl.symm
  · have g4 : p.1 = M := by have := of_decide_eq_false g3; omega
    rw [g4] at hwl i2 ⊢
    generalize winL d.first d.last b x.1.lo x.1.hi M = fl at *
    ((conv=>whnf);(repeat(refine And.intro ?_ ?_;(focus((first|omega|exact⟨rfl,True.intro⟩|exact⟨rfl,rfl,True.intro⟩|rfl|(simp only[List.length_set];first|omega|(refine⟨?_,?_⟩<;>omega)|(refine⟨?_,?_,?_⟩<;>omega))|(intro hg;(try simp only[bB]at hg);first|omega|(refine⟨?_,?_⟩<;>omega)|(refine⟨?_,?_,?_⟩<;>first|omega|(show _<_;(try simp only[List.length_set]);omega)|exact leT rfl))|(refine⟨?_,?_⟩<;>omega)|(refine⟨?_,?_,?_⟩<;>first|omega|(show _<_;(try simp only[List.length_set]);omega)|exact leT rfl)|(simp only[show rI.d=(0:Int)from rfl];omega));done));(conv=>whnf))))
    refine EvCall.rows3 (R := rC) (ty := 62) (xs := (finR d l fl).1) (c := (finR d l fl).2.1) (z := (finR d l fl).2.2) Try.call79 (fun ρ W hp => by
      have hr := hp.rowsIn (R := rC) (n := 5) (xs := fl) (c := p.2) rfl (by decide) (by omega) (by omega) 4
      rw [hwl] at hr
      exact ref_with_s _ _ _ d l fl W (hD.below hp.bel) hI (hp.rowsIn (R := rC) (n := 0) (c := c1) rfl (by decide) e1 e2 4) hr (by omega)) (fun kk z1 z2 => ?_)
    ((conv=>whnf);(repeat(refine And.intro ?_ ?_;(focus((first|omega|exact⟨rfl,True.intro⟩|exact⟨rfl,rfl,True.intro⟩|rfl|(simp only[List.length_set];first|omega|(refine⟨?_,?_⟩<;>omega)|(refine⟨?_,?_,?_⟩<;>omega))|(intro hg;(try simp only[bB]at hg);first|omega|(refine⟨?_,?_⟩<;>omega)|(refine⟨?_,?_,?_⟩<;>first|omega|(show _<_;(try simp only[List.length_set]);omega)|exact leT rfl))|(refine⟨?_,?_⟩<;>omega)|(refine⟨?_,?_,?_⟩<;>first|omega|(show _<_;(try simp only[List.length_set]);omega)|exact leT rfl)|(simp only[show rI.d=(0:Int)from rfl];omega));done));(conv=>whnf))))
    exact EvRet.rows3 (R := rC) rfl z1 rfl rfl rfl rfl
end Go.Proofs.Ytpnngbfmmjjnaaa
