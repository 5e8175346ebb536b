
/- The symbolic machine: a function that puts off one call of a function literal to its end. No program in sight. -/
import Derived.Test.YtebfhljamoapjaaDoorSyC
import Derived.Defers
namespace Go.Proofs.YtebfhljamoapjaaDoor
open Go.RowKit
set_option linter.unusedVariables false
set_option linter.unusedSimpArgs false

theorem kn0 {w : Ref} {ρ : Rho} {L : List Ob} {nx : Nat} {W : World} {N : Nat} (as : List SV) (hl : Nat.ble as.length N = true) (hlt : ltL nx as = true) (hp : Hp w ρ L nx W) (hd : w.dfr = []) :
    Kn w N ρ [] (env0 as 0) L nx { tmps := (denL ρ as).toArray ++ Array.replicate (N - (denL ρ as).toArray.size) undef, defers := [] } W := by
  have hlen : (denL ρ as).length = as.length := by simp [denL_map]
  have hl := Nat.le_of_ble_eq_true hl
  refine ⟨?_, hp, hd.symm, ?_⟩
  · have hlk := lk_env0 as 0
    refine ⟨?_, fun s b hs => by simp [lkG] at hs, ?_, ?_⟩
    · intro t p v hv
      obtain ⟨rfl, h1, h2⟩ := hlk t p v hv
      have h3 : (denL ρ as)[t]? = some (den ρ v) := by
        rw [denL_map, List.getElem?_map]
        simp at h2
        rw [h2]
        rfl
      have h4 : t < (denL ρ as).length := (List.getElem?_eq_some_iff.1 h3).1
      simp [holdsB, Array.getElem?_append, h4]
      exact (List.getElem?_eq_some_iff.1 h3).2
    · intro t p v hv
      obtain ⟨rfl, _⟩ := hlk t p v hv
      simp
    · intro t p v hv _
      obtain ⟨rfl, h1, h2⟩ := hlk t p v hv
      exact (ltL_iff _ _).1 hlt v (List.mem_of_getElem? h2)
  · simp [hlen]
    omega
/-- What is left at the end: the call that was put off, walked in place, then the results. -/
def dretK (P : Program) (w : World) (T : Tab) (R : Ending → World → Prop) (rs : List ResultVar) (Ng : Nat) (cg : Code) (cs : List SV) (n1 : Nat) (ρ1 : Rho) : K3 := fun env L nx =>
  ∀ ρ2, vcC P ⟨w, nx, ρ2, []⟩ T Ng cg (fun _ L2 nx2 => retK (refOf w) T R rs env L2 nx2) (fun _ _ _ _ => False) (fun _ L2 nx2 => retK (refOf w) T R rs env L2 nx2) (env0 cs 0) L nx
theorem enterD {P : Program} {w : World} {T : Tab} (hT : TabOk P T) (hm : P.follows .mixedOrders = true) {f : FuncId} {fn : Func} {c0 c2 : Code} {id : Nat} {o1 o2 : Oper} (hf : P.funcs[f]? = some fn)
    (hb : fn.body = some (c0.seq ((Code.region id #[o1, o2] false).seq c2))) {N : Nat} (hN : fn.ntmps = N) {rs : Array ResultVar} (hrs : fn.results = rs)
    {t : Tmp} {g : FuncId} {caps : List Operand} (h1d : o1.dst = some t) (h1o : o1.op = .makeFunc (.func g) #[] caps.toArray) (h1g : o1.guard = none) (h2d : o2.dst = none) (h2o : ∃ ts, o2.op = .defer ⟨.value (.tmp t), #[], ts⟩) (h2g : o2.guard = none) (htN : Nat.blt t N = true)
    {fg : Func} {cg : Code} (hg : P.funcs[g]? = some fg) (hgb : fg.body = some cg) {Ng : Nat} (hgN : fg.ntmps = Ng) (hgr : fg.results = #[]) (entg : ∀ args W, (callFunc g args).run P W = .ok (.enter g args) W)
    {R : Ending → World → Prop} (as : List SV) (ρ : Rho) (L : List Ob) (nx : Nat) (hl : Nat.ble as.length N = true) (hlt : ltL nx as = true) (hcl : Nat.ble caps.length Ng = true) (hp : Hp (refOf w) ρ L nx w)
    (h : vcC P (refOf w) T N c0 (fun env L nx => evsK env [] caps (fun cs => ∀ ρ1, vcC P ⟨w, nx, ρ1, [⟨.fn (.func g) (denL ρ1 cs).toArray, #[]⟩]⟩ T N c2 (dretK P w T R rs.toList Ng cg cs nx ρ1) (fun _ _ _ _ => False) (dretK P w T R rs.toList Ng cg cs nx ρ1) ((t, [], .f g cs) :: env) L nx))
      (fun _ _ _ _ => False) (fun _ _ _ => False) (env0 as 0) L nx) : Con P f (denL ρ as).toArray w R := by
  refine ⟨calls_of_wp_defers hf hb ?_⟩
  rw [hN]
  refine wp_seq (vcC_sound hT hm c0 _ _ _ (Exit.then (((Code.region id #[o1, o2] false).seq c2).wp P (bodyPostD P fn R)) (bodyPostD P fn R)) ?_ (fun _ _ _ _ _ _ _ _ h => h.elim) (fun _ _ _ _ _ _ _ h => h.elim) ρ (env0 as 0) L nx _ w (kn0 as hl hlt hp rfl) h)
  clear h hp hl hlt ρ as L nx
  intro ρ env L nx a W hk h
  obtain ⟨cs, h3, hcs⟩ := evsK_sound h
  obtain ⟨e1, e2⟩ := hcs ρ [] nx a hk.fk rfl
  have hcsl : cs.length = caps.length := by
    have := congrArg List.length e1
    simpa [denL_map] using this.symm
  obtain ⟨ts, h2o⟩ := h2o
  have htn : t < a.tmps.size := by rw [hk.size]; exact blt_iff.1 htN
  have hf' := hk.fk.put (d := t) (p := []) (v := .f g cs) htn rfl (fun _ => by simpa [SV.lt] using e2) (by simp)
  rw [show holdsB [] [] = true from rfl, if_pos rfl] at hf'
  show ((Code.region id #[o1, o2] false).seq c2).wp P (bodyPostD P fn R) a W
  refine wp_seq ?_
  refine wp_region_lit (l := [o1, o2]) ?_
  have w1 : ∀ g : Nat → Option Bool, Region.wanted o1 g = true := fun g => by simp [Region.wanted, h1g]
  have w2 : ∀ g : Nat → Option Bool, Region.wanted o2 g = true := fun g => by simp [Region.wanted, h2g]
  unfold wpList
  rw [if_pos (w1 _)]
  refine .inl ?_
  unfold Oper.wp
  have hr1 : (execOp a.eval o1).run P W = .ok (.value (den ρ (.f g cs))) W := by
    simp [execOp, h1o, Instr.makeFunc, den, e1]
  rw [hr1, Oper.upon_value, h1d]
  unfold wpList
  rw [if_pos (w2 _)]
  refine .inl ?_
  unfold Oper.wp
  have hev : (a.put (some t) (den ρ (.f g cs))).eval (.tmp t) = den ρ (.f g cs) := by
    have := hf'.slots t [] (.f g cs) (by simp [lk])
    have h5 : (a.put (some t) (den ρ (.f g cs))).tmps[t]? = some (den ρ (.f g cs)) := by simpa [holdsB] using this
    show (a.put (some t) (den ρ (.f g cs))).tmps.getD t undef = _
    rw [Array.getD_eq_getD_getElem?, h5]
    rfl
  have hr2 : (execOp (a.put (some t) (den ρ (.f g cs))).eval o2).run P W = .ok (.defer ⟨.fn (.func g) (denL ρ cs).toArray, #[]⟩) W := by
    simp only [den] at hev
    simp only [execOp, h2o, resolve, den]
    simp [Deferred.ofValue, hev]
  rw [hr2, Oper.upon_defer, h2d]
  unfold wpList
  show c2.wp P (bodyPostD P fn R) _ W
  have hk1 : Kn ⟨w, nx, ρ, [⟨.fn (.func g) (denL ρ cs).toArray, #[]⟩]⟩ N ρ [] ((t, [], .f g cs) :: env) L nx { (a.put (some t) (den ρ (.f g cs))) with defers := ⟨.fn (.func g) (denL ρ cs).toArray, #[]⟩ :: (a.put (some t) (den ρ (.f g cs))).defers } W := by
    refine ⟨⟨hf'.slots, hf'.gok, hf'.clo, hf'.lt⟩, ⟨hk.hp.bel, hk.hp.obj, hk.hp.dis, hk.hp.lt, Nat.le_refl _, fun _ _ => rfl⟩, ?_, ?_⟩
    · have : (a.put (some t) (den ρ (.f g cs))).defers = a.defers := rfl
      simp only [this, hk.dfr]
    · have : (a.put (some t) (den ρ (.f g cs))).tmps.size = a.tmps.size := by simp [Act.put]
      simp only [this, hk.size]
  have key : ∀ e, (e = Exit.normal ∨ e = Exit.ret) → ∀ ρ' env' L' nx' a' W', Kn ⟨w, nx, ρ, [⟨.fn (.func g) (denL ρ cs).toArray, #[]⟩]⟩ N ρ' [] env' L' nx' a' W' → dretK P w T R rs.toList Ng cg cs nx ρ env' L' nx' → bodyPostD P fn R e a' W' := by
    intro e he ρ' env' L' nx' a' W' hk' h'
    have hL : Leaves P fn a'.tmps R a'.defers .returning W' := by
      rw [hk'.dfr]
      have hag : Agree nx ρ ρ' := hk'.hp.pin.2
      have hcs' : denL ρ' cs = denL ρ cs := denL_agree hag cs e2
      refine leaves_cons (by simp) (f := g) (args := (denL ρ cs).toArray) ?_ ?_
      · simp [invoke, entg]
      · have hk2 : Kn ⟨w, nx', ρ', []⟩ Ng ρ' [] (env0 cs 0) L' nx' { tmps := (denL ρ' cs).toArray ++ Array.replicate (Ng - (denL ρ' cs).toArray.size) undef, defers := [] } W' :=
          kn0 (w := ⟨w, nx', ρ', []⟩) cs (by rw [hcsl]; exact hcl) (by
            have := hk'.hp.pin.1
            rw [ltL_iff]
            intro x hx
            exact lt_mono this x ((ltL_iff _ _).1 e2 x hx)) ⟨hk'.hp.bel, hk'.hp.obj, hk'.hp.dis, hk'.hp.lt, Nat.le_refl _, fun _ _ => rfl⟩ rfl
        have hend : ∀ e, (e = Exit.normal ∨ e = Exit.ret) → ∀ ρ'' env2 L2 nx2 a2 W2, Kn ⟨w, nx', ρ', []⟩ Ng ρ'' [] env2 L2 nx2 a2 W2 → retK (refOf w) T R rs.toList env' L2 nx2 → bodyPost P fg (fun e W2 => ∃ v, e = .returned v ∧ ∃ v, (results fn a'.tmps).run P W2 = .ok v W2 ∧ R (.returned v) W2) e a2 W2 := by
          intro e he ρ'' env2 L2 nx2 a2 W2 hk2 h2
          have hag2 : Agree nx' ρ' ρ'' := hk2.hp.pin.2
          have hr := ret_run (P := P) (w := refOf w) hT hrs (hk'.fk.agree hag2 hk2.hp.pin.1) (⟨hk2.hp.bel, hk2.hp.obj, hk2.hp.dis, hk2.hp.lt, Nat.zero_le _, fun n hn => absurd hn (Nat.not_lt_zero n)⟩ : Hp (refOf w) ρ'' L2 nx2 W2) h2
          have hrg : (results fg a2.tmps).run P W2 = .ok (.tuple #[]) W2 := by
            unfold results
            rw [hgr]
            simp
          rcases he with rfl | rfl
          · exact ⟨hk2.dfr, _, hrg, _, rfl, hr⟩
          · exact ⟨hk2.dfr, _, hrg, _, rfl, hr⟩
        have hcall := callsD_of_wp (u := .returning) (R := fun e W2 => ∃ v, e = .returned v ∧ ∃ v, (results fn a'.tmps).run P W2 = .ok v W2 ∧ R (.returned v) W2) hg hgb (args := (denL ρ' cs).toArray) (w := W') (by
          rw [hgN]
          exact vcC_sound hT hm cg _ _ _ _ (fun ρ env L nx a W hk h => hend .normal (.inl rfl) ρ env L nx a W hk h) (fun _ _ _ _ _ _ _ _ h => h.elim) (fun ρ env L nx a W hk h => hend .ret (.inr rfl) ρ env L nx a W hk h) ρ' (env0 cs 0) L' nx' _ W' hk2 (h' ρ'))
        rw [hcs'] at hcall
        refine hcall.mono ?_
        rintro e u' W2 ⟨rfl, v, rfl, hv⟩
        exact hv
    rcases he with rfl | rfl
    · exact hL
    · exact hL
  exact vcC_sound hT hm c2 _ _ _ (bodyPostD P fn R) (fun ρ env L nx a W hk h => key .normal (.inl rfl) ρ env L nx a W hk h) (fun _ _ _ _ _ _ _ _ h => h.elim) (fun ρ env L nx a W hk h => key .ret (.inr rfl) ρ env L nx a W hk h) ρ _ L nx _ W hk1 (h3 ρ)
end Go.Proofs.YtebfhljamoapjaaDoor
