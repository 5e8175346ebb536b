
/- The law HistoryAgrees, walked. -/
import Derived.Test.YtnoenmacakbhdaaHe
namespace Go.Proofs.Ytnoenmacakbhdaa
open Go.RowKit
set_option linter.unusedVariables false
set_option linter.unusedSimpArgs false

theorem bent_lifeH (d : Dc) (k n : Int) (h : DcT d) (hn : -30 ≤ n ∧ n ≤ 30) : (-30 ≤ (bent d k n).first ∧ (bent d k n).first ≤ 30) ∧ -30 ≤ (bent d k n).last ∧ (bent d k n).last ≤ 30 := by
  obtain ⟨h1, h2, h3⟩ := h
  unfold bent
  (repeat' split) <;> simp only <;> omega
theorem walk_bd5 (d : Dc) (zs : List Int) (h : DcT d) (n : Nat) (hn : n ≤ 10000) : ∀ i, -1099511627776 ≤ (walkL d zs n).getD i 0 ∧ (walkL d zs n).getD i 0 ≤ 1099511627776 := by
  intro i
  by_cases hi : i < n
  · rw [walkL_get d zs n i hi]
    have := walkV_bd d zs h i
    omega
  · rw [getD_out (by rw [walkL_len]; omega)]
    omega
theorem set_bd5 {vs : List Int} (h : Small vs) (k : Nat) (x : Int) (hx : -10 ≤ x ∧ x ≤ 10) : ∀ i, -1099511627776 ≤ (vs.set k (vs.getD k 0 + x)).getD i 0 ∧ (vs.set k (vs.getD k 0 + x)).getD i 0 ≤ 1099511627776 := by
  intro i
  have h1 := h i
  have h2 := h k
  by_cases hi : i < vs.length
  · by_cases hk : k = i
    · subst hk
      rw [List.getD_eq_getElem?_getD, List.getElem?_set_self hi]
      simp only [Option.getD_some]
      omega
    · rw [List.getD_eq_getElem?_getD, List.getElem?_set_ne hk, ← List.getD_eq_getElem?_getD]
      omega
  · rw [getD_out (by simp; omega)]
    omega
theorem drop_bd5 {vs : List Int} (h : Small vs) (n : Nat) : ∀ i, -1099511627776 ≤ ((vs.drop 1).take n).getD i 0 ∧ ((vs.drop 1).take n).getD i 0 ≤ 1099511627776 := by
  intro i
  have h1 := h (1 + i)
  by_cases hi : i < n
  · rw [List.getD_eq_getElem?_getD, List.getElem?_take, if_pos hi, List.getElem?_drop, ← List.getD_eq_getElem?_getD]
    omega
  · rw [List.getD_eq_getElem?_getD, List.getElem?_take, if_neg hi]
    simp only [Option.getD_none]
    omega
set_option maxRecDepth 20000 in
theorem historyagrees_s (v1 v2 v3 : Value) (zs ms ks : List Int) (at_ n : Int) (b : Bool) (which by_ : Int) (w : World) (h1 : Ints w v1 zs) (h2 : Ints w v2 ms) (h3 : Ints w v3 ks) (hat : I64 at_) (hn : I64 n) (hwh : I64 which) (hby : I64 by_) :
    Con Try.prog 7 #[v1, .int .i64 at_, .int .i64 n, v2, v3, .bool b, .int .i64 which, .int .i64 by_] w (Ret w (.bool true)) := by
  obtain ⟨A1, c1, rfl, e1, e2⟩ := h1.form
  obtain ⟨A2, c2, rfl, e3, e4⟩ := h2.form
  obtain ⟨A3, c3, rfl, e5, e6⟩ := h3.form
  have hT := declOf_T zs
  have hI := declOf_I' zs
  have hvc := declOf_vc zs
  refine enter tabOk mixed Try.func7 rfl Try.ntmps7 Try.results7 [.s 0 1 zs.length c1, .v (.int .i64 at_), .v (.int .i64 n), .s 1 1 ms.length c2, .s 2 1 ks.length c3, .v (.bool b), .v (.int .i64 which), .v (.int .i64 by_)] (fun n => if n = 0 then A1 else if n = 1 then A2 else A3) [⟨2, false, 3, 1, c3, .rows Int rI (ks)⟩, ⟨1, false, 3, 1, c2, .rows Int rI (ms)⟩, ⟨0, false, 3, 1, c1, .rows Int rI (zs)⟩] 3 rfl rfl (.ro (.ro (.ro (hp0 _ _ _) _ rfl rfl rfl (ro_ints h1 rfl _)) _ rfl rfl rfl (ro_ints h2 rfl _)) _ rfl rfl rfl (ro_ints h3 rfl _)) ?_
  ((conv=>whnf);repeat(refine And.intro (by omega) ?_;(conv=>whnf)))
  refine EvCall.decl Try.call15 (fun ρ W hp => decl_s _ zs W (hp.ints (n := 0) rfl e1 e2 h1.2)) (fun nm l c5 hnm hl hc1 hc2 => ?_)
  generalize declOf zs = d at hT hI hvc ⊢
  have hbd := valid_bounds hvc
  have hlv := some_valid d ms ks b hT
  have hsl := someL_len5 d ms ks b
  ((conv=>whnf);repeat(refine And.intro (by omega) ?_;(conv=>whnf)))
  refine EvCall.rows (R := rC) (ty := 52) (xs := someL d ms ks b) Try.call16 (fun ρ W hp => some_s nm _ _ _ d _ _ ms ks b W hT (hp.ints (n := 1) rfl e3 e4 h2.2) (hp.ints (n := 2) rfl e5 e6 h3.2)) (fun cap hc3 hc4 => ?_)
  generalize someL d ms ks b = sm at hc3 hlv hsl ⊢
  have hi1 := insL_span d ms hT
  have hsmall := insL_small d ms hT
  have b0 := bnd_in n 30 (by omega)
  have b1 := bnd_in by_ 2 (by omega)
  have hlf := bent_lifeH d (arnd at_ 10) (bnd n 30) hT (by omega)
  have hIb0 := bent_I' d (arnd at_ 10) (bnd n 30) hI (by unfold I64; omega)
  ((conv=>whnf);repeat(refine And.intro (by omega) ?_;(conv=>whnf)))
  refine EvCall.rows (R := rI) (ty := 3) (xs := insL d ms (spanN d)) Try.call23 (fun ρ W hp => inside_s nm _ _ _ d _ ms W hT (hp.ints (n := 1) rfl e3 e4 h2.2)) (fun ca ha1 ha2 => ?_)
  generalize insL d ms (spanN d) = vs at *
  have hlen : 0 < vs.length ∧ vs.length ≤ 4096 := by omega
  ((conv=>whnf);repeat(refine And.intro (by omega) ?_;(conv=>whnf)))
  refine EvBi.recast (n := 7) rfl (.rows Int rI []) (fun _ => rfl) rfl ?_
  refine EvBi.append0 (R := rI) tyok22 rfl tyok3 rfl (by decide) rfl rfl vs (fun ρ W hp => hp.rowsIn (R := rI) (n := 6) rfl (by decide) ha1 ha2 1) (by show _ * 8 ≤ _; omega) (by omega) (fun cc hd1 hd2 => ?_)
  ((conv=>whnf);repeat(refine And.intro (by omega) ?_;(conv=>whnf)))
  refine EvCall.plain Try.call19 (.v (.int .i64 (arnd which (vs.length : Int)))) rfl (fun ρ W hp => around_s _ _ W hwh (by omega) (by omega)) ?_
  have a1 := arnd_nn which (vs.length : Int) (by omega)
  have a2 := arnd_lt which (vs.length : Int) (by omega)
  generalize arnd which (vs.length : Int) = ix at a1 a2 ⊢
  have bx : -100000 ≤ vs.getD ix.toNat rI.d ∧ vs.getD ix.toNat rI.d ≤ 100000 := hsmall ix.toNat
  obtain ⟨ch, hch⟩ : ∃ ch, vs.set ix.toNat (vs.getD ix.toNat 0 + bnd by_ 2) = ch := ⟨_, rfl⟩
  have hchb : ∀ i, -1099511627776 ≤ ch.getD i 0 ∧ ch.getD i 0 ≤ 1099511627776 := by rw [← hch]; exact set_bd5 hsmall _ _ (by omega)
  have hchl : ch.length = vs.length := by rw [← hch]; simp
  ((conv=>whnf);repeat(refine And.intro (by omega) ?_;(conv=>whnf)))
  (refine EvDraw.one (.q 0 (.q 1 (.q 2 (.q 3 (.q 4 (.q 5 (.q 6 (.n 7 false (.q 8 (.q 9 (.n 10 true (.z) (.e)))) (.e))))))))) (by kernel_rfl) ?_)
  ((conv=>whnf);(repeat(refine And.intro ?_ ?_;(focus((first|omega|exact⟨rfl,True.intro⟩|exact⟨rfl,rfl,True.intro⟩|rfl|(simp only[List.length_set];first|omega|(refine⟨?_,?_⟩<;>omega)|(refine⟨?_,?_,?_⟩<;>omega))|(intro hg;(try simp only[bB]at hg);first|omega|(refine⟨?_,?_⟩<;>omega)|(refine⟨?_,?_,?_⟩<;>first|omega|(show _<_;(try simp only[List.length_set]);omega)|exact leT rfl))|(refine⟨?_,?_⟩<;>omega)|(refine⟨?_,?_,?_⟩<;>first|omega|(show _<_;(try simp only[List.length_set]);omega)|exact leT rfl)|(simp only[show rI.d=(0:Int)from rfl];omega));done));(conv=>whnf))))
  refine EvCall.plain Try.call29 (.v (.int .i64 (bnd by_ 2))) rfl (fun ρ W hp => bound_s _ _ _ hby (by omega) (by omega)) ?_
  ((conv=>whnf);(repeat(refine And.intro ?_ ?_;(focus((first|omega|exact⟨rfl,True.intro⟩|exact⟨rfl,rfl,True.intro⟩|rfl|(simp only[List.length_set];first|omega|(refine⟨?_,?_⟩<;>omega)|(refine⟨?_,?_,?_⟩<;>omega))|(intro hg;(try simp only[bB]at hg);first|omega|(refine⟨?_,?_⟩<;>omega)|(refine⟨?_,?_,?_⟩<;>first|omega|(show _<_;(try simp only[List.length_set]);omega)|exact leT rfl))|(refine⟨?_,?_⟩<;>omega)|(refine⟨?_,?_,?_⟩<;>first|omega|(show _<_;(try simp only[List.length_set]);omega)|exact leT rfl)|(simp only[show rI.d=(0:Int)from rfl];omega));done));(conv=>whnf))))
  refine EvDraw.meet (.q 0 (.q 1 (.q 2 (.n 3 false (.n 4 true (.n 5 false (.n 6 true (.z) (.e)) (.e)) (.n 5 false (.n 4 true (.n 6 true (.z) (.e)) (.e)) (.e))) (.n 5 false (.n 3 false (.n 4 true (.n 6 true (.z) (.e)) (.e)) (.e)) (.e)))))) (by kernel_rfl) (α := Unit) (fun _ => True) (fun _ => [(3, [], .s 1 1 ms.length c2), (17, [], .p 4 0), (18, [], .s 5 4 sm.length cap), (19, [], .s 6 1 vs.length ca), (20, [], .s 8 1 ch.length cc), (22, [], .p 9 0)])
    (fun _ => [⟨9, true, 27, 12, 1, .cs (dcS nm (.s 3 2 l.length c5) (bent d (arnd at_ 10) (bnd n 30)))⟩, ⟨8, true, 3, 1, cc, .rows Int rI ch⟩, ⟨6, true, 3, 1, ca, .rows Int rI vs⟩, ⟨5, true, 52, 4, cap, .rows Cl rC sm⟩, ⟨4, true, 27, 12, 1, .cs (dcS nm (.s 3 2 l.length c5) d)⟩, ⟨3, true, 116, 2, c5, .rows (ByteArray × ByteArray) rL l⟩, ⟨1, false, 3, 1, c2, .rows Int rI ms⟩]) 10 ?_ ?_
  · ((conv=>whnf);repeat(refine And.intro (by omega) ?_;(conv=>whnf)))
    refine And.intro ?_ ?_
    · ((conv=>whnf);repeat(refine And.intro (by omega) ?_;(conv=>whnf)))
      refine EvCall.plain Try.call29 (.v (.int .i64 (bnd n 30))) rfl (fun ρ W hp => bound_s _ _ _ hn (by omega) (by omega)) ?_
      ((conv=>whnf);repeat(refine And.intro (by omega) ?_;(conv=>whnf)))
      refine And.intro ?_ ?_
      · ((conv=>whnf);repeat(refine And.intro (by omega) ?_;(conv=>whnf)))
        refine EvCall.plain Try.call39 (.a (dcS nm (.s 3 2 l.length c5) (bent d (arnd at_ 10) (bnd n 30)))) rfl (fun ρ W hp => bent_s nm (ρ 3) l.length c5 d at_ (bnd n 30) W hat) ?_
        ((conv=>whnf);repeat(refine And.intro (by omega) ?_;(conv=>whnf)))
        refine Exists.intro () (And.intro trivial (Sub.of [] [] rfl ?_))
        (repeat' (refine And.intro ?_ ?_)) <;> first | rfl | exact True.intro | exact hchl | exact hchl.symm | exact congrArg (Ct.rows Int rI) hch | exact congrArg (Ct.rows Int rI) hch.symm | omega
      ((conv=>whnf);repeat(refine And.intro (by omega) ?_;(conv=>whnf)))
      refine EvCall.plain Try.call39 (.a (dcS nm (.s 3 2 l.length c5) (bent d (arnd at_ 10) (bnd n 30)))) rfl (fun ρ W hp => bent_s nm (ρ 3) l.length c5 d at_ (bnd n 30) W hat) ?_
      ((conv=>whnf);repeat(refine And.intro (by omega) ?_;(conv=>whnf)))
      refine Exists.intro () (And.intro trivial (Sub.of [] [] rfl ?_))
      (repeat' (refine And.intro ?_ ?_)) <;> first | rfl | exact True.intro | exact hchl | exact hchl.symm | exact congrArg (Ct.rows Int rI) hch | exact congrArg (Ct.rows Int rI) hch.symm | omega
    ((conv=>whnf);repeat(refine And.intro (by omega) ?_;(conv=>whnf)))
    refine EvCall.plain Try.call29 (.v (.int .i64 (bnd n 30))) rfl (fun ρ W hp => bound_s _ _ _ hn (by omega) (by omega)) ?_
    ((conv=>whnf);repeat(refine And.intro (by omega) ?_;(conv=>whnf)))
    refine EvCall.plain Try.call39 (.a (dcS nm (.s 3 2 l.length c5) (bent d (arnd at_ 10) (bnd n 30)))) rfl (fun ρ W hp => bent_s nm (ρ 3) l.length c5 d at_ (bnd n 30) W hat) ?_
    ((conv=>whnf);repeat(refine And.intro (by omega) ?_;(conv=>whnf)))
    refine Exists.intro () (And.intro trivial (Sub.of [] [] rfl ?_))
    (repeat' (refine And.intro ?_ ?_)) <;> first | rfl | exact True.intro | exact hchl | exact hchl.symm | exact congrArg (Ct.rows Int rI) hch | exact congrArg (Ct.rows Int rI) hch.symm | omega
  intro _ _
  ((conv=>whnf);repeat(refine And.intro (by omega) ?_;(conv=>whnf)))
  refine EvIf.meet (α := Dc) DcI (fun _ => [(3, [], .s 1 1 ms.length c2), (17, [], .p 4 0), (18, [], .s 5 4 sm.length cap), (19, [], .s 6 1 vs.length ca), (20, [], .s 8 1 ch.length cc), (22, [], .p 9 0)])
    (fun bb => [⟨9, true, 27, 12, 1, .cs (dcS nm (.s 3 2 l.length c5) bb)⟩, ⟨8, true, 3, 1, cc, .rows Int rI ch⟩, ⟨6, true, 3, 1, ca, .rows Int rI vs⟩, ⟨5, true, 52, 4, cap, .rows Cl rC sm⟩, ⟨4, true, 27, 12, 1, .cs (dcS nm (.s 3 2 l.length c5) d)⟩, ⟨3, true, 116, 2, c5, .rows (ByteArray × ByteArray) rL l⟩, ⟨1, false, 3, 1, c2, .rows Int rI ms⟩]) 10 (fun g => ?_) (fun g => ?_) ?_
  · ((conv=>whnf);repeat(refine And.intro (by omega) ?_;(conv=>whnf)))
    refine Exists.intro d (And.intro hI (Sub.of [] [] rfl ?_))
    ((repeat' (refine And.intro ?_ ?_)) <;> first | rfl | exact True.intro | omega)
  · ((conv=>whnf);repeat(refine And.intro (by omega) ?_;(conv=>whnf)))
    refine Exists.intro _ (And.intro hIb0 (Sub.of [] [] rfl ?_))
    ((repeat' (refine And.intro ?_ ?_)) <;> first | rfl | exact True.intro | omega)
  intro bb hIb
  have hwb := walk_bd5 d ms hT (d.last - d.first + 1).toNat (by omega)
  have hsb := small_bd5 hsmall
  have hdb := drop_bd5 hsmall (vs.length - 1)
  ((conv=>whnf);repeat(refine And.intro (by omega) ?_;(conv=>whnf)))
  (refine EvDraw.one (.q 0 (.q 1 (.q 2 (.q 3 (.q 4 (.q 5 (.n 6 true (.n 7 false (.q 8 (.z)) (.e)) (.e)))))))) (by kernel_rfl) ?_)
  ((conv=>whnf);repeat(refine And.intro (by omega) ?_;(conv=>whnf)))
  refine EvCall.rows (R := rI) (ty := 3) (xs := walkL d ms (d.last - d.first + 1).toNat) Try.call40 (fun ρ W hp => walk_s nm _ _ _ d _ ms W hT (hp.ints (n := 1) rfl e3 e4 h2.2)) (fun cw hw1 hw2 => ?_)
  generalize walkL d ms (d.last - d.first + 1).toNat = wk at *
  have hdl : ((vs.drop 1).take (vs.length - 1)).length = vs.length - 1 := by simp
  ((conv=>whnf);repeat(refine And.intro (by omega) ?_;(conv=>whnf)))
  refine EvLoop.rounds 5 ?_
  ((conv=>whnf);repeat(refine And.intro (by omega) ?_;(conv=>whnf)))
  refine EvIf.pos rfl ?_
  ((conv=>whnf);repeat(refine And.intro (by omega) ?_;(conv=>whnf)))
  (refine EvDraw.one (.q 0 (.q 1 (.q 2 (.q 3 (.q 4 (.q 5 (.q 7 (.q 8 (.q 9 (.q 10 (.q 11 (.q 12 (.n 6 false (.n 13 true (.q 14 (.q 15 (.q 16 (.q 17 (.q 18 (.q 19 (.q 20 (.q 21 (.q 23 (.q 24 (.q 25 (.q 26 (.q 27 (.q 28 (.n 22 false (.n 29 true (.q 30 (.q 31 (.z))) (.e)) (.e)))))))))))))))) (.e)) (.e)))))))))))))) (by kernel_rfl) ?_)
  ((conv=>whnf);(repeat(refine And.intro ?_ ?_;(focus((first|omega|exact⟨rfl,True.intro⟩|exact⟨rfl,rfl,True.intro⟩|rfl|(simp only[List.length_set];first|omega|(refine⟨?_,?_⟩<;>omega)|(refine⟨?_,?_,?_⟩<;>omega))|(intro hg;(try simp only[bB]at hg);first|omega|(refine⟨?_,?_⟩<;>omega)|(refine⟨?_,?_,?_⟩<;>first|omega|(show _<_;(try simp only[List.length_set]);omega)|exact leT rfl))|(refine⟨?_,?_⟩<;>omega)|(refine⟨?_,?_,?_⟩<;>first|omega|(show _<_;(try simp only[List.length_set]);omega)|exact leT rfl)|(simp only[show rI.d=(0:Int)from rfl];omega));done));(conv=>whnf))))
  refine EvCall.plain Try.call41 (.v (.bool (agB d sm (vs)))) rfl (fun ρ W hp => hagrees_s _ _ _ d sm (vs) W (hp.decl (n := 3) (d := d) hnm hl hc1 hc2 rfl) hI (hp.rowsIn (R := rC) (n := 5) (c := cap) rfl (by decide) hc3 hc4 4) (hp.rowsIn (R := rI) (n := 6) (c := ca) rfl (by decide) ha1 ha2 1) hsb) ?_
  ((conv=>whnf);repeat(refine And.intro (by omega) ?_;(conv=>whnf)))
  refine EvCall.plain Try.call24 (.v (.bool (agB d sm (vs)))) rfl (fun ρ W hp => agreesG_s nm _ _ _ _ _ d sm (vs) W (hp.decl (n := 3) (d := d) hnm hl hc1 hc2 rfl) hI (hp.rowsIn (R := rC) (n := 5) (c := cap) rfl (by decide) hc3 hc4 4) (hp.rowsIn (R := rI) (n := 6) (c := ca) rfl (by decide) ha1 ha2 1) hsb) ?_
  ((conv=>whnf);(repeat(refine And.intro ?_ ?_;(focus((first|omega|exact⟨rfl,True.intro⟩|exact⟨rfl,rfl,True.intro⟩|rfl|(simp only[List.length_set];first|omega|(refine⟨?_,?_⟩<;>omega)|(refine⟨?_,?_,?_⟩<;>omega))|(intro hg;(try simp only[bB]at hg);first|omega|(refine⟨?_,?_⟩<;>omega)|(refine⟨?_,?_,?_⟩<;>first|omega|(show _<_;(try simp only[List.length_set]);omega)|exact leT rfl))|(refine⟨?_,?_⟩<;>omega)|(refine⟨?_,?_,?_⟩<;>first|omega|(show _<_;(try simp only[List.length_set]);omega)|exact leT rfl)|(simp only[show rI.d=(0:Int)from rfl];omega));done));(conv=>whnf))))
  refine EvCallC.plain Try.call41 (.v (.bool (agB bb sm (vs)))) rfl (fun _ ρ W hp => hagrees_s _ _ _ bb sm (vs) W (hp.decl (n := 3) (d := bb) hnm hl hc1 hc2 rfl) hIb (hp.rowsIn (R := rC) (n := 5) (c := cap) rfl (by decide) hc3 hc4 4) (hp.rowsIn (R := rI) (n := 6) (c := ca) rfl (by decide) ha1 ha2 1) hsb) ?_
  ((conv=>whnf);repeat(refine And.intro (by omega) ?_;(conv=>whnf)))
  refine EvCallC.plain Try.call24 (.v (.bool (agB bb sm (vs)))) rfl (fun _ ρ W hp => agreesG_s nm _ _ _ _ _ bb sm (vs) W (hp.decl (n := 3) (d := bb) hnm hl hc1 hc2 rfl) hIb (hp.rowsIn (R := rC) (n := 5) (c := cap) rfl (by decide) hc3 hc4 4) (hp.rowsIn (R := rI) (n := 6) (c := ca) rfl (by decide) ha1 ha2 1) hsb) ?_
  ((conv=>whnf);repeat(refine And.intro (by omega) ?_;(conv=>whnf)))
  refine EvIf.neg (by simp) ?_
  ((conv=>whnf);repeat(refine And.intro (by omega) ?_;(conv=>whnf)))
  refine EvIf.pos rfl ?_
  ((conv=>whnf);repeat(refine And.intro (by omega) ?_;(conv=>whnf)))
  (refine EvDraw.one (.q 0 (.q 1 (.q 2 (.q 3 (.q 4 (.q 5 (.q 7 (.q 8 (.q 9 (.q 10 (.q 11 (.q 12 (.n 6 false (.n 13 true (.q 14 (.q 15 (.q 16 (.q 17 (.q 18 (.q 19 (.q 20 (.q 21 (.q 23 (.q 24 (.q 25 (.q 26 (.q 27 (.q 28 (.n 22 false (.n 29 true (.q 30 (.q 31 (.z))) (.e)) (.e)))))))))))))))) (.e)) (.e)))))))))))))) (by kernel_rfl) ?_)
  ((conv=>whnf);(repeat(refine And.intro ?_ ?_;(focus((first|omega|exact⟨rfl,True.intro⟩|exact⟨rfl,rfl,True.intro⟩|rfl|(simp only[List.length_set];first|omega|(refine⟨?_,?_⟩<;>omega)|(refine⟨?_,?_,?_⟩<;>omega))|(intro hg;(try simp only[bB]at hg);first|omega|(refine⟨?_,?_⟩<;>omega)|(refine⟨?_,?_,?_⟩<;>first|omega|(show _<_;(try simp only[List.length_set]);omega)|exact leT rfl))|(refine⟨?_,?_⟩<;>omega)|(refine⟨?_,?_,?_⟩<;>first|omega|(show _<_;(try simp only[List.length_set]);omega)|exact leT rfl)|(simp only[show rI.d=(0:Int)from rfl];omega));done));(conv=>whnf))))
  refine EvCall.plain Try.call41 (.v (.bool (agB d sm (ch)))) rfl (fun ρ W hp => hagrees_s _ _ _ d sm (ch) W (hp.decl (n := 3) (d := d) hnm hl hc1 hc2 rfl) hI (hp.rowsIn (R := rC) (n := 5) (c := cap) rfl (by decide) hc3 hc4 4) (hp.rowsIn (R := rI) (n := 8) (c := cc) rfl (by decide) (by omega) hd2 1) hchb) ?_
  ((conv=>whnf);repeat(refine And.intro (by omega) ?_;(conv=>whnf)))
  refine EvCall.plain Try.call24 (.v (.bool (agB d sm (ch)))) rfl (fun ρ W hp => agreesG_s nm _ _ _ _ _ d sm (ch) W (hp.decl (n := 3) (d := d) hnm hl hc1 hc2 rfl) hI (hp.rowsIn (R := rC) (n := 5) (c := cap) rfl (by decide) hc3 hc4 4) (hp.rowsIn (R := rI) (n := 8) (c := cc) rfl (by decide) (by omega) hd2 1) hchb) ?_
  ((conv=>whnf);(repeat(refine And.intro ?_ ?_;(focus((first|omega|exact⟨rfl,True.intro⟩|exact⟨rfl,rfl,True.intro⟩|rfl|(simp only[List.length_set];first|omega|(refine⟨?_,?_⟩<;>omega)|(refine⟨?_,?_,?_⟩<;>omega))|(intro hg;(try simp only[bB]at hg);first|omega|(refine⟨?_,?_⟩<;>omega)|(refine⟨?_,?_,?_⟩<;>first|omega|(show _<_;(try simp only[List.length_set]);omega)|exact leT rfl))|(refine⟨?_,?_⟩<;>omega)|(refine⟨?_,?_,?_⟩<;>first|omega|(show _<_;(try simp only[List.length_set]);omega)|exact leT rfl)|(simp only[show rI.d=(0:Int)from rfl];omega));done));(conv=>whnf))))
  refine EvCallC.plain Try.call41 (.v (.bool (agB bb sm (ch)))) rfl (fun _ ρ W hp => hagrees_s _ _ _ bb sm (ch) W (hp.decl (n := 3) (d := bb) hnm hl hc1 hc2 rfl) hIb (hp.rowsIn (R := rC) (n := 5) (c := cap) rfl (by decide) hc3 hc4 4) (hp.rowsIn (R := rI) (n := 8) (c := cc) rfl (by decide) (by omega) hd2 1) hchb) ?_
  ((conv=>whnf);repeat(refine And.intro (by omega) ?_;(conv=>whnf)))
  refine EvCallC.plain Try.call24 (.v (.bool (agB bb sm (ch)))) rfl (fun _ ρ W hp => agreesG_s nm _ _ _ _ _ bb sm (ch) W (hp.decl (n := 3) (d := bb) hnm hl hc1 hc2 rfl) hIb (hp.rowsIn (R := rC) (n := 5) (c := cap) rfl (by decide) hc3 hc4 4) (hp.rowsIn (R := rI) (n := 8) (c := cc) rfl (by decide) (by omega) hd2 1) hchb) ?_
  ((conv=>whnf);repeat(refine And.intro (by omega) ?_;(conv=>whnf)))
  refine EvIf.neg (by simp) ?_
  ((conv=>whnf);repeat(refine And.intro (by omega) ?_;(conv=>whnf)))
  refine EvIf.pos rfl ?_
  ((conv=>whnf);repeat(refine And.intro (by omega) ?_;(conv=>whnf)))
  (refine EvDraw.one (.q 0 (.q 1 (.q 2 (.q 3 (.q 4 (.q 5 (.q 7 (.q 8 (.q 9 (.q 10 (.q 11 (.q 12 (.n 6 false (.n 13 true (.q 14 (.q 15 (.q 16 (.q 17 (.q 18 (.q 19 (.q 20 (.q 21 (.q 23 (.q 24 (.q 25 (.q 26 (.q 27 (.q 28 (.n 22 false (.n 29 true (.q 30 (.q 31 (.z))) (.e)) (.e)))))))))))))))) (.e)) (.e)))))))))))))) (by kernel_rfl) ?_)
  ((conv=>whnf);(repeat(refine And.intro ?_ ?_;(focus((first|omega|exact⟨rfl,True.intro⟩|exact⟨rfl,rfl,True.intro⟩|rfl|(simp only[List.length_set];first|omega|(refine⟨?_,?_⟩<;>omega)|(refine⟨?_,?_,?_⟩<;>omega))|(intro hg;(try simp only[bB]at hg);first|omega|(refine⟨?_,?_⟩<;>omega)|(refine⟨?_,?_,?_⟩<;>first|omega|(show _<_;(try simp only[List.length_set]);omega)|exact leT rfl))|(refine⟨?_,?_⟩<;>omega)|(refine⟨?_,?_,?_⟩<;>first|omega|(show _<_;(try simp only[List.length_set]);omega)|exact leT rfl)|(simp only[show rI.d=(0:Int)from rfl];omega));done));(conv=>whnf))))
  refine EvCall.plain Try.call41 (.v (.bool (agB d sm ((vs.drop 1).take (vs.length - 1))))) rfl (fun ρ W hp => hagrees_s _ _ _ d sm ((vs.drop 1).take (vs.length - 1)) W (hp.decl (n := 3) (d := d) hnm hl hc1 hc2 rfl) hI (hp.rowsIn (R := rC) (n := 5) (c := cap) rfl (by decide) hc3 hc4 4) (hp.part (R := rI) (n := 6) (c := ca) (xs := vs) rfl (by decide) ha1 ha2 1 vs.length (by omega) (Nat.le_refl _)) hdb) ?_
  ((conv=>whnf);repeat(refine And.intro (by omega) ?_;(conv=>whnf)))
  refine EvCall.plain Try.call24 (.v (.bool (agB d sm ((vs.drop 1).take (vs.length - 1))))) rfl (fun ρ W hp => agreesG_s nm _ _ _ _ _ d sm ((vs.drop 1).take (vs.length - 1)) W (hp.decl (n := 3) (d := d) hnm hl hc1 hc2 rfl) hI (hp.rowsIn (R := rC) (n := 5) (c := cap) rfl (by decide) hc3 hc4 4) (hp.part (R := rI) (n := 6) (c := ca) (xs := vs) rfl (by decide) ha1 ha2 1 vs.length (by omega) (Nat.le_refl _)) hdb) ?_
  ((conv=>whnf);(repeat(refine And.intro ?_ ?_;(focus((first|omega|exact⟨rfl,True.intro⟩|exact⟨rfl,rfl,True.intro⟩|rfl|(simp only[List.length_set];first|omega|(refine⟨?_,?_⟩<;>omega)|(refine⟨?_,?_,?_⟩<;>omega))|(intro hg;(try simp only[bB]at hg);first|omega|(refine⟨?_,?_⟩<;>omega)|(refine⟨?_,?_,?_⟩<;>first|omega|(show _<_;(try simp only[List.length_set]);omega)|exact leT rfl))|(refine⟨?_,?_⟩<;>omega)|(refine⟨?_,?_,?_⟩<;>first|omega|(show _<_;(try simp only[List.length_set]);omega)|exact leT rfl)|(simp only[show rI.d=(0:Int)from rfl];omega));done));(conv=>whnf))))
  refine EvCallC.plain Try.call41 (.v (.bool (agB bb sm ((vs.drop 1).take (vs.length - 1))))) rfl (fun _ ρ W hp => hagrees_s _ _ _ bb sm ((vs.drop 1).take (vs.length - 1)) W (hp.decl (n := 3) (d := bb) hnm hl hc1 hc2 rfl) hIb (hp.rowsIn (R := rC) (n := 5) (c := cap) rfl (by decide) hc3 hc4 4) (hp.part (R := rI) (n := 6) (c := ca) (xs := vs) rfl (by decide) ha1 ha2 1 vs.length (by omega) (Nat.le_refl _)) hdb) ?_
  ((conv=>whnf);repeat(refine And.intro (by omega) ?_;(conv=>whnf)))
  refine EvCallC.plain Try.call24 (.v (.bool (agB bb sm ((vs.drop 1).take (vs.length - 1))))) rfl (fun _ ρ W hp => agreesG_s nm _ _ _ _ _ bb sm ((vs.drop 1).take (vs.length - 1)) W (hp.decl (n := 3) (d := bb) hnm hl hc1 hc2 rfl) hIb (hp.rowsIn (R := rC) (n := 5) (c := cap) rfl (by decide) hc3 hc4 4) (hp.part (R := rI) (n := 6) (c := ca) (xs := vs) rfl (by decide) ha1 ha2 1 vs.length (by omega) (Nat.le_refl _)) hdb) ?_
  ((conv=>whnf);repeat(refine And.intro (by omega) ?_;(conv=>whnf)))
  refine EvIf.neg (by simp) ?_
  ((conv=>whnf);repeat(refine And.intro (by omega) ?_;(conv=>whnf)))
  refine EvIf.pos rfl ?_
  ((conv=>whnf);repeat(refine And.intro (by omega) ?_;(conv=>whnf)))
  (refine EvDraw.one (.q 0 (.q 1 (.q 2 (.q 3 (.q 4 (.q 5 (.q 7 (.q 8 (.q 9 (.q 10 (.q 11 (.q 12 (.n 6 false (.n 13 true (.q 14 (.q 15 (.q 16 (.q 17 (.q 18 (.q 19 (.q 20 (.q 21 (.q 23 (.q 24 (.q 25 (.q 26 (.q 27 (.q 28 (.n 22 false (.n 29 true (.q 30 (.q 31 (.z))) (.e)) (.e)))))))))))))))) (.e)) (.e)))))))))))))) (by kernel_rfl) ?_)
  ((conv=>whnf);(repeat(refine And.intro ?_ ?_;(focus((first|omega|exact⟨rfl,True.intro⟩|exact⟨rfl,rfl,True.intro⟩|rfl|(simp only[List.length_set];first|omega|(refine⟨?_,?_⟩<;>omega)|(refine⟨?_,?_,?_⟩<;>omega))|(intro hg;(try simp only[bB]at hg);first|omega|(refine⟨?_,?_⟩<;>omega)|(refine⟨?_,?_,?_⟩<;>first|omega|(show _<_;(try simp only[List.length_set]);omega)|exact leT rfl))|(refine⟨?_,?_⟩<;>omega)|(refine⟨?_,?_,?_⟩<;>first|omega|(show _<_;(try simp only[List.length_set]);omega)|exact leT rfl)|(simp only[show rI.d=(0:Int)from rfl];omega));done));(conv=>whnf))))
  refine EvCall.plain Try.call41 (.v (.bool (agB d sm (wk)))) rfl (fun ρ W hp => hagrees_s _ _ _ d sm (wk) W (hp.decl (n := 3) (d := d) hnm hl hc1 hc2 rfl) hI (hp.rowsIn (R := rC) (n := 5) (c := cap) rfl (by decide) hc3 hc4 4) (hp.rowsIn (R := rI) (n := 10) (c := cw) rfl (by decide) hw1 hw2 1) hwb) ?_
  ((conv=>whnf);repeat(refine And.intro (by omega) ?_;(conv=>whnf)))
  refine EvCall.plain Try.call24 (.v (.bool (agB d sm (wk)))) rfl (fun ρ W hp => agreesG_s nm _ _ _ _ _ d sm (wk) W (hp.decl (n := 3) (d := d) hnm hl hc1 hc2 rfl) hI (hp.rowsIn (R := rC) (n := 5) (c := cap) rfl (by decide) hc3 hc4 4) (hp.rowsIn (R := rI) (n := 10) (c := cw) rfl (by decide) hw1 hw2 1) hwb) ?_
  ((conv=>whnf);(repeat(refine And.intro ?_ ?_;(focus((first|omega|exact⟨rfl,True.intro⟩|exact⟨rfl,rfl,True.intro⟩|rfl|(simp only[List.length_set];first|omega|(refine⟨?_,?_⟩<;>omega)|(refine⟨?_,?_,?_⟩<;>omega))|(intro hg;(try simp only[bB]at hg);first|omega|(refine⟨?_,?_⟩<;>omega)|(refine⟨?_,?_,?_⟩<;>first|omega|(show _<_;(try simp only[List.length_set]);omega)|exact leT rfl))|(refine⟨?_,?_⟩<;>omega)|(refine⟨?_,?_,?_⟩<;>first|omega|(show _<_;(try simp only[List.length_set]);omega)|exact leT rfl)|(simp only[show rI.d=(0:Int)from rfl];omega));done));(conv=>whnf))))
  refine EvCallC.plain Try.call41 (.v (.bool (agB bb sm (wk)))) rfl (fun _ ρ W hp => hagrees_s _ _ _ bb sm (wk) W (hp.decl (n := 3) (d := bb) hnm hl hc1 hc2 rfl) hIb (hp.rowsIn (R := rC) (n := 5) (c := cap) rfl (by decide) hc3 hc4 4) (hp.rowsIn (R := rI) (n := 10) (c := cw) rfl (by decide) hw1 hw2 1) hwb) ?_
  ((conv=>whnf);repeat(refine And.intro (by omega) ?_;(conv=>whnf)))
  refine EvCallC.plain Try.call24 (.v (.bool (agB bb sm (wk)))) rfl (fun _ ρ W hp => agreesG_s nm _ _ _ _ _ bb sm (wk) W (hp.decl (n := 3) (d := bb) hnm hl hc1 hc2 rfl) hIb (hp.rowsIn (R := rC) (n := 5) (c := cap) rfl (by decide) hc3 hc4 4) (hp.rowsIn (R := rI) (n := 10) (c := cw) rfl (by decide) hw1 hw2 1) hwb) ?_
  ((conv=>whnf);repeat(refine And.intro (by omega) ?_;(conv=>whnf)))
  refine EvIf.neg (by simp) ?_
  ((conv=>whnf);repeat(refine And.intro (by omega) ?_;(conv=>whnf)))
  refine EvIf.neg rfl ?_
  ((conv=>whnf);repeat(refine And.intro (by omega) ?_;(conv=>whnf)))
  refine EvCall.plain Try.call38 (.v (.bool true)) rfl (fun ρ W hp => lives13_s W) ?_
  ((conv=>whnf);repeat(refine And.intro (by omega) ?_;(conv=>whnf)))
  exact EvRet.ret (fun ρ => rfl)
theorem walk_HistoryAgrees (w : World) (V0 : Value) (zs : List Int) (h : Ints w V0 zs) (at_ : Int) (hat : I64 at_) (n : Int) (hn : I64 n) (V1 : Value) (ms : List Int) (h2 : Ints w V1 ms) (V2 : Value) (ks : List Int) (h3 : Ints w V2 ks) (b : Bool) (which : Int) (hwh : I64 which) (by_ : Int) (hby : I64 by_) :
    Calls Try.prog 7 #[V0, .int .i64 at_, .int .i64 n, V1, V2, .bool b, .int .i64 which, .int .i64 by_] w fun e w' => e = .returned (.bool true) ∧ Below w.heap.size w w' :=
  (historyagrees_s V0 V1 V2 zs ms ks at_ n b which by_ w h h2 h3 hat hn hwh hby).out
end Go.Proofs.Ytnoenmacakbhdaa
