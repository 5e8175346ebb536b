
/- Keep and its map, walked. -/
import Derived.Test.YtebfhljamoapjaaKl
import Derived.MapKept
import Derived.Maps.Own
namespace Go.Proofs.Ytebfhljamoapjaa
open Go.RowKit Go.MapKept
set_option linter.unusedVariables false
set_option linter.unusedSimpArgs false

def inB (ks : List ByteArray) (s : ByteArray) : Bool := ks.any fun k => decide (k = s)
theorem inB_iff (ks : List ByteArray) (s : ByteArray) : inB ks s = true ↔ s ∈ ks := by
  simp [inB]
/-- Block b is a map whose keys are these strings, each with true. -/
def MapIs (W : World) (b : Nat) (ks : List ByteArray) : Prop :=
  ∃ es clock, W.heap[b]? = some (.map es clock) ∧ (∀ x ∈ es.toList, IsKey .string x.key) ∧ (∀ x ∈ es.toList, x.val = .bool true) ∧ ∀ s, (∃ e ∈ es.toList, e.key = .string s) ↔ s ∈ ks
theorem MapIs.below {W W' : World} {b : Nat} {ks : List ByteArray} (h : MapIs W b ks) (hb : Below W.heap.size W W') : MapIs W' b ks := by
  obtain ⟨es, c, h1, h2⟩ := h
  exact ⟨es, c, (hb.block b (Array.getElem?_eq_some_iff.1 h1).1).trans h1, h2⟩
theorem MapIs.lt {W : World} {b : Nat} {ks : List ByteArray} (h : MapIs W b ks) : b < W.heap.size := by
  obtain ⟨es, c, h1, h2⟩ := h
  exact (Array.getElem?_eq_some_iff.1 h1).1
section
variable {P : Program} {t ke el : TypeId}
theorem MapIs.look (ht : P.underlying t = some (.map ke el)) (hk : P.underlying ke = some .string) {W : World} {b : Nat} {ks : List ByteArray} (h : MapIs W b ks) (hz : (zeroValue el).run P W = .ok (.bool false) W) (s : ByteArray) : (Instr.lookup t (.map (some b)) (.string s) false).run P W = .ok (.bool (inB ks s)) W := by
  obtain ⟨es, c, h1, h2, h3, h4⟩ := h
  have hc : (Instr.checkKey es.isEmpty 10000 ke (.string s)).run P W = .ok () W := Go.MapKept.run_checkKey (P := P) (w := W) (k := .string s) hk (by simp [IsKey]) es.isEmpty 9999
  have hgo := Go.MapKept.run_getObj_map (P := P) h1
  rcases findNow_spec (d := .string) (k := .string s) (by simp [IsKey]) es.toList 0 h2 with ⟨h5, h6⟩ | ⟨j, e, h5, h6, h7⟩
  · have hm : inB ks s = false := by
      cases hi : inB ks s with
      | false => rfl
      | true =>
        obtain ⟨e, he, hke⟩ := (h4 s).2 ((inB_iff ks s).1 hi)
        exact absurd hke (h6 e he)
    simp only [Instr.lookup, Sem.run_bind, run_underlying ht, Result.andThen, Sem.run_pure, hgo, hc, run_findKey hk h5, hz, hm]
    simp
  · have hm : inB ks s = true := (inB_iff ks s).2 ((h4 s).1 ⟨e, List.mem_of_getElem? h6, h7⟩)
    have hv := h3 e (List.mem_of_getElem? h6)
    simp only [Instr.lookup, Sem.run_bind, run_underlying ht, Result.andThen, Sem.run_pure, hgo, hc, run_findKey hk h5, hm, hv]
    simp
theorem modify_id (es : Array MapEntry) (i : Nat) (f : MapEntry → MapEntry) (h : ∀ e, es[i]? = some e → f e = e) : es.modify i f = es := by
  apply Array.ext
  · simp
  · intro j h1 h2
    rw [Array.getElem_modify]
    split
    · rename_i hij
      subst hij
      exact h _ (Array.getElem?_eq_getElem h2)
    · rfl
theorem MapIs.upd (ht : P.underlying t = some (.map ke el)) (hk : P.underlying ke = some .string) {W : World} {b : Nat} {ks : List ByteArray} (h : MapIs W b ks) (s : ByteArray) :
    ∃ W', (Instr.mapUpdate t (.map (some b)) (.string s) (.bool true)).run P W = .ok () W' ∧ MapIs W' b (ks ++ [s]) ∧ Below b W W' := by
  obtain ⟨es, c, h1, h2, h3, h4⟩ := h
  have hc : (Instr.checkKey false 10000 ke (.string s)).run P W = .ok () W := Go.MapKept.run_checkKey (P := P) (w := W) (k := .string s) hk (by simp [IsKey]) false 9999
  have hgo := Go.MapKept.run_getObj_map (P := P) h1
  have hlt : b < W.heap.size := (Array.getElem?_eq_some_iff.1 h1).1
  have hbel : ∀ o : Obj, Below b W { W with heap := W.heap.setIfInBounds b o } := fun o => ⟨rfl, rfl, rfl, by simp, fun k hk => (heap_set (o' := o) h1).2 k (by omega)⟩
  rcases findNow_spec (d := .string) (k := .string s) (by simp [IsKey]) es.toList 0 h2 with ⟨h5, h6⟩ | ⟨j, e, h5, h6, h7⟩
  · refine ⟨_, ?_, ?_, hbel (.map (es.push { key := .string s, val := .bool true, born := c }) (c + 1))⟩
    · simp only [Instr.mapUpdate, Sem.run_bind, run_underlying ht, Result.andThen, Sem.run_pure, hgo, hc, run_findKey hk h5]
      exact Go.MapKept.run_setObj_map _ h1
    · refine ⟨_, _, (heap_set h1).1, ?_, ?_, ?_⟩
      · intro x hx
        simp only [Array.toList_push, List.mem_append, List.mem_singleton] at hx
        rcases hx with hx | rfl
        · exact h2 x hx
        · simp [IsKey]
      · intro x hx
        simp only [Array.toList_push, List.mem_append, List.mem_singleton] at hx
        rcases hx with hx | rfl
        · exact h3 x hx
        · rfl
      · intro u
        simp only [Array.toList_push, List.mem_append, List.mem_singleton]
        rw [← h4 u]
        constructor
        · rintro ⟨x, hx | rfl, hxe⟩
          · exact .inl ⟨x, hx, hxe⟩
          · injection hxe with hxe
            exact .inr hxe.symm
        · rintro (⟨x, hx, hxe⟩ | rfl)
          · exact ⟨x, .inl hx, hxe⟩
          · exact ⟨_, .inr rfl, rfl⟩
  · have hv := h3 e (List.mem_of_getElem? h6)
    have hj : es[0 + j]? = some e := by simpa using h6
    have hmod : es.modify (0 + j) (fun e => { e with key := .string s, val := .bool true }) = es := modify_id es _ _ (fun x hx => by
      rw [hj] at hx
      injection hx with hx
      subst hx
      obtain ⟨k, v, bo⟩ := e
      simp only at h7 hv
      subst h7; subst hv
      rfl)
    have hks : ∀ u, u ∈ ks ++ [s] ↔ u ∈ ks := by
      intro u
      simp only [List.mem_append, List.mem_singleton]
      constructor
      · rintro (h | rfl)
        · exact h
        · exact (h4 u).1 ⟨e, List.mem_of_getElem? h6, h7⟩
      · exact .inl
    refine ⟨_, ?_, ?_, hbel (.map es c)⟩
    · have hst : (Instr.keyThatStays (((es[0 + j]?).map (·.key)).getD (.string s)) (.string s)).run P W = .ok (.string s) W := by
        rw [hj]
        simp only [Option.map_some, Option.getD_some, h7]
        have hsb : Instr.sameBits 10000 (.string s) (.string s) = true := by
          show (s == s) = true
          rw [beqB]
          simp
        unfold Instr.keyThatStays
        rw [if_pos hsb]
        rfl
      simp only [Instr.mapUpdate, Sem.run_bind, run_underlying ht, Result.andThen, Sem.run_pure, hgo, hc, run_findKey hk h5, hst]
      rw [hmod]
      exact Go.MapKept.run_setObj_map _ h1
    · exact ⟨es, c, (heap_set h1).1, h2, h3, fun u => (h4 u).trans (hks u).symm⟩
end
/-- A frame read off its slots. -/
theorem fk_of {ρ : Rho} {env : Env} {nx : Nat} {a : Act} (h : ∀ x ∈ env, a.tmps[x.1]? = some (den ρ x.2.2) ∧ x.2.1 = [] ∧ x.2.2.lt nx = true) : Fk ρ [] env nx a := by
  have hm : ∀ (env : Env) (t : Nat) (p : Pth) (v : SV), lk env t = some (p, v) → (t, p, v) ∈ env := by
    intro env
    induction env with
    | nil => intro t p v h; simp [lk] at h
    | cons x r ih =>
      intro t p v h
      obtain ⟨t', p', v'⟩ := x
      simp only [lk] at h
      cases hb : Nat.beq t' t with
      | true =>
        rw [hb] at h
        obtain rfl := Nat.eq_of_beq_eq_true hb
        simp at h
        obtain ⟨rfl, rfl⟩ := h
        simp
      | false =>
        rw [hb] at h
        exact List.mem_cons_of_mem _ (ih t p v h)
  refine ⟨fun t p v hl => ?_, fun s b hs => by simp [lkG] at hs, fun t p v hl x hx => ?_, fun t p v hl _ => ?_⟩
  · obtain ⟨h1, h2, _⟩ := h _ (hm env t p v hl)
    simp only at h1 h2
    subst h2
    simpa [holdsB] using h1
  · obtain ⟨_, h2, _⟩ := h _ (hm env t p v hl)
    simp only at h2
    subst h2
    cases hx
  · exact (h _ (hm env t p v hl)).2.2
/-- The rest of a walk by the machine, from a world of its own. -/
theorem via {P : Program} {W0 : World} {T : Tab} (hT : TabOk P T) (hm : P.follows .mixedOrders = true) {fn : Func} {N : Nat} {rs : Array ResultVar} (hrs : fn.results = rs) {R : Ending → World → Prop} {c1 c2 : Code} {K : Act → World → Prop}
    (hK : ∀ a W, c2.wp P (bodyPost P fn R) a W → K a W) {ρ : Rho} {env : Env} {L : List Ob} {nx : Nat} {a : Act} (hd : a.defers = []) (hN : a.tmps.size = N) (hf : Fk ρ [] env nx a) (hp : Hp (refOf W0) ρ L nx W0)
    (h : vcC P (refOf W0) T N (c1.seq c2) (retK (refOf W0) T R rs.toList) (fun _ _ _ _ => False) (retK (refOf W0) T R rs.toList) env L nx) : c1.wp P (Exit.then K (bodyPost P fn R)) a W0 := by
  have hret : ∀ e, (e = .normal ∨ e = .ret) → ∀ ρ env L nx a W, Kn (refOf W0) N ρ [] env L nx a W → retK (refOf W0) T R rs.toList env L nx → bodyPost P fn R e a W := by
    intro e he ρ env L nx a W hk h
    have hr := ret_run (P := P) hT hrs hk.fk hk.hp h
    rcases he with rfl | rfl
    · exact ⟨hk.dfr, hr⟩
    · exact ⟨hk.dfr, hr⟩
  have h' : vcC P (refOf W0) T N c1 (fun env L nx => vcC P (refOf W0) T N c2 (retK (refOf W0) T R rs.toList) (fun _ _ _ _ => False) (retK (refOf W0) T R rs.toList) env L nx) (fun _ _ _ _ => False) (retK (refOf W0) T R rs.toList) env L nx := h
  refine vcC_sound hT hm c1 _ _ _ _ (fun ρ env L nx a W hk h => ?_) (fun _ _ _ _ _ _ _ _ h => h.elim) (fun ρ env L nx a W hk h => ?_) ρ env L nx a W0 ⟨hf, hp, hd, hN⟩ h'
  · exact hK a W (vcC_sound hT hm c2 _ _ _ _ (fun ρ env L nx a W hk h => hret .normal (.inl rfl) ρ env L nx a W hk h) (fun _ _ _ _ _ _ _ _ h => h.elim) (fun ρ env L nx a W hk h => hret .ret (.inr rfl) ρ env L nx a W hk h) ρ env L nx a W hk h)
  · exact hret .ret (.inr rfl) ρ env L nx a W hk h
theorem EvRet.mono {w : Ref} {R R' : Ending → World → Prop} {v : SV} {L : List Ob} {nx : Nat} (h : EvRet w R v L nx) (hR : ∀ e W, R e W → R' e W) : EvRet w R' v L nx := ⟨fun ρ W hp hv => hR _ _ (h.go ρ W hp hv)⟩
theorem RetRows.base {α : Type} {R : RowS α} {ty : TypeId} {w w' : World} {xs : List α} (hb : Below w.heap.size w w') (e : Ending) (W : World) (h : RetRows R ty w' xs e W) : RetRows R ty w xs e W := by
  obtain ⟨A, cap, h1, h2, h3, h4⟩ := h
  refine ⟨A, cap, h1, hb.trans (h2.mono hb.size), h3, ?_⟩
  rcases h4 with h4 | ⟨g, junk, q1, q2, q3⟩
  · exact .inl h4
  · exact .inr ⟨g, junk, q1, Nat.le_trans hb.size q2, q3⟩
/-- A look-up in a map that stood when the walk began. -/
theorem EvOp.look {kp : Bool} {P : Program} {t ke el : TypeId} (ht : P.underlying t = some (.map ke el)) (hk : P.underlying ke = some .string) (hz : ∀ W, (zeroValue el).run P W = .ok (.bool false) W) {w : Ref} {env : Env} {cur : Pth} {o : Oper} {L : List Ob} {nx : Nat} {k : SV → List Ob → Nat → Prop} {b : Nat} {ks : List ByteArray} (hm : MapIs w.toWorld b ks) {x y : Operand} (ho : o.op = .lookup t x y false) (s : ByteArray)
    (hx : evK env cur x (fun v => v = .v (.map (some b)))) (hy : evK env cur y (fun v => v = .v (.string s))) (h : k (.v (.bool (inB ks s))) L nx) : EvOp kp P w env cur o L nx k := by
  refine ⟨fun ρ G a W hf hg hp => ?_⟩
  obtain ⟨v1, rfl, h1⟩ := evK_sound hx
  obtain ⟨v2, rfl, h2⟩ := evK_sound hy
  have e1 := (h1 ρ G nx a hf hg).1
  have e2 := (h2 ρ G nx a hf hg).1
  have hmW := hm.below hp.bel
  have hl := hmW.look ht hk (hz W) s
  refine ⟨.bool (inB ks s), W, ?_, fun _ => Below.refl _ _, ρ, .v (.bool (inB ks s)), L, nx, by simp [den], fun _ _ => rfl, Nat.le_refl _, rfl, hp, h⟩
  simp only [den] at e1 e2
  simp [execOp, ho, e1, e2, hl]
theorem mapTy : Try.prog.underlying 114 = some (.map 9 4) := Try.underlying114
theorem made (W : World) : MapIs (W.alloc (.map #[] 0)) W.heap.size [] := ⟨#[], 0, heap_alloc_new W _, by simp, by simp, by simp⟩
theorem make_s (z : Int) (W : World) : (Instr.makeMap 114 (some (.int .i64 z))).run Try.prog W = .ok (.map (some W.heap.size)) (W.alloc (.map #[] 0)) := by
  simp [Instr.makeMap, run_underlying mapTy, asInt, asIntOf]
set_option maxRecDepth 100000 in
set_option maxHeartbeats 2000000 in
theorem keep_s (v u : Value) (l : List Lb) (ns : List ByteArray) (w : World) (hv : RowsIn rL w v l) (hu : RowsIn rS w u ns) (hl : l.length ≤ 1000) : Con Try.prog 52 #[v, u] w (RetRows rL 62 w (l.filter fun e => inB ns e.1)) := by
  obtain ⟨A1, c1, rfl, e1, e2⟩ := hv.form
  obtain ⟨A2, c2, rfl, f1, f2⟩ := hu.form
  have hbnd0 : ∀ n : Nat, n ≤ 1000 → (n + 1) * 32 ≤ 140737488355328 := fun n h => by omega
  have hmm : ∀ (z : Int) (W : World), (Instr.makeMap 114 (some (.int .i64 z))).run Try.prog W = .ok (.map (some W.heap.size)) (W.alloc (.map #[] 0)) := make_s
  refine ⟨?_⟩
  go_enter Try.func52, Try.ntmps52
  go_wp2
  go_loopw [16] (fun i wr => ∃ k : Nat, k ≤ ns.length ∧ i = .int .i64 k ∧ MapIs wr w.heap.size (ns.take k) ∧ Below w.heap.size w wr) (fun i _ => ns.length - (intOf i).toNat)
  case atStart => exact ⟨0, Nat.zero_le _, rfl, made w, (Below.refl _ _).alloc (Nat.le_refl _) _⟩
  case round =>
    obtain ⟨k, hk, rfl, hm, hb⟩ := hrel
    by_cases hlt : k < ns.length
    · obtain ⟨B2, cc2, hB2, _, _, _, h4⟩ := hu
      simp only [Value.slice.injEq, true_and] at hB2
      obtain ⟨rfl, rfl⟩ := hB2
      obtain ⟨b, off, rfl, hbb, hc⟩ := h4 (by omega)
      have w0 := hc k (.string (ns.getD k ByteArray.empty)) (by
        have := flat_at rS.cols ByteArray.empty ns k 0 (fun s => .string s) hlt rfl
        simpa [rowC, rS] using this)
      have c0 := (hb.cell (p := ⟨b, off + k, none⟩) hbb).trans w0
      obtain ⟨W', hr, hm', hb'⟩ := hm.upd mapTy Try.underlying9 (ns.getD k ByteArray.empty)
      have htk : ns.take k ++ [ns.getD k ByteArray.empty] = ns.take (k + 1) := (take_snoc ns k ByteArray.empty hlt).symm
      rw [htk] at hm'
      have hb2 : Below w.heap.size w W' := hb.trans hb'
      clear htk hc h4 hm hb
      generalize ns.getD k ByteArray.empty = s at *
      have r6 : (k : Int) < (ns.length : Int) := by omega
      go_wp2
      exact ⟨⟨k + 1, by omega, by go_num, hm', hb2⟩, by simp [intOf]; omega⟩
    · obtain rfl : k = ns.length := by omega
      rw [List.take_length] at hm
      go_upto_region 7 with (fail)
      rename_i K hK
      refine via (rs := #[.tmp 4]) tabOk mixed Try.results52 hK (ρ := fun _ => A1) (env := [(0, [], .s 0 2 l.length c1), (5, [], .v (.map (some w.heap.size)))]) (L := [⟨0, false, 62, 2, c1, .rows (ByteArray × ByteArray) rL (l)⟩]) (nx := 1) rfl rfl (fk_of ?_) (.ro (hp0 _ _ _) _ rfl rfl rfl (ro_rows (hv.below hb) rfl _)) ?_
      · intro x hx
        simp only [List.mem_cons, List.not_mem_nil, or_false] at hx
        rcases hx with rfl | rfl
        · exact ⟨rfl, rfl, rfl⟩
        · exact ⟨rfl, rfl, rfl⟩
      clear hK
      obtain ⟨F, hF⟩ : ∃ F : List Lb → List Lb, F = fun m => m.filter (fun e => inB ns e.1) := ⟨_, rfl⟩
      have hFl : ∀ m, (F m).length ≤ m.length := fun m => by rw [hF]; exact List.length_filter_le _ _
      have hFe : (l.filter fun e => inB ns e.1) = F l := by rw [hF]
      rw [hFe]
      ((conv=>whnf);(repeat(refine And.intro ?_ ?_;(focus((first|omega|exact⟨rfl,True.intro⟩|exact⟨rfl,rfl,True.intro⟩|rfl|(simp only[List.length_set];first|omega|(refine⟨?_,?_⟩<;>omega)|(refine⟨?_,?_,?_⟩<;>omega))|(intro hg;(try simp only[bB]at hg);first|omega|(refine⟨?_,?_⟩<;>omega)|(refine⟨?_,?_,?_⟩<;>first|omega|(show _<_;(try simp only[List.length_set]);omega)|exact leT rfl))|(refine⟨?_,?_⟩<;>omega)|(refine⟨?_,?_,?_⟩<;>first|omega|(show _<_;(try simp only[List.length_set]);omega)|exact leT rfl)|(simp only[show rI.d=(0:Int)from rfl];omega));done));(conv=>whnf))))
      refine EvLoop.inv (α := Nat × Nat) (fun p => p.1 ≤ l.length ∧ (F (l.take p.1)).length ≤ p.2 ∧ p.2 ≤ 9223372036854775807) (fun p => l.length - p.1) (fun p => [(25, [], .v (.int .i64 ((p.1 : Int)))), (24, [], .v (.int .i64 ((l.length : Int)))), (23, [], .s 0 2 l.length c1), (8, [], .s 1 2 (F (l.take p.1)).length p.2), (5, [], .v (.map (some w.heap.size)))])
        (fun p => [⟨1, true, 62, 2, p.2, .rows (ByteArray × ByteArray) rL (F (l.take p.1))⟩, ⟨0, false, 62, 2, c1, .rows (ByteArray × ByteArray) rL (l)⟩]) 2 (0, 0) ⟨by simp, by rw [hF]; simp, by decide⟩ (Sub.of [] [1] rfl ?_) ?_
      · have hF0 : F [] = [] := by rw [hF]; rfl
        have hF1 : (F (l.take 0)) = [] := hF0
        (repeat' (refine And.intro ?_ ?_)) <;> first | rfl | exact True.intro | omega | (rw [hF1]; rfl) | (show _ = _ ; simp [hF0])
      intro p ⟨hi1, hi2, hi3⟩
      ((conv=>whnf);(repeat(refine And.intro ?_ ?_;(focus((first|omega|exact⟨rfl,True.intro⟩|exact⟨rfl,rfl,True.intro⟩|rfl|(simp only[List.length_set];first|omega|(refine⟨?_,?_⟩<;>omega)|(refine⟨?_,?_,?_⟩<;>omega))|(intro hg;(try simp only[bB]at hg);first|omega|(refine⟨?_,?_⟩<;>omega)|(refine⟨?_,?_,?_⟩<;>first|omega|(show _<_;(try simp only[List.length_set]);omega)|exact leT rfl))|(refine⟨?_,?_⟩<;>omega)|(refine⟨?_,?_,?_⟩<;>first|omega|(show _<_;(try simp only[List.length_set]);omega)|exact leT rfl)|(simp only[show rI.d=(0:Int)from rfl];omega));done));(conv=>whnf))))
      refine EvIf.split (fun g3 => ?_) (fun g3 => ?_)
      · simp only [decide_eq_true_eq] at g3
        have hlt2 : p.1 < l.length := by omega
        have ht1 := take_snoc l p.1 lb0 hlt2
        have hfl := hFl (l.take p.1)
        have htl : (l.take p.1).length = p.1 := by rw [List.length_take]; omega
        have hFa : F (l.take (p.1 + 1)) = F (l.take p.1) ++ F [l.getD p.1 lb0] := by rw [ht1, hF]; exact List.filter_append ..
        ((conv=>whnf);(repeat(refine And.intro ?_ ?_;(focus((first|omega|exact⟨rfl,True.intro⟩|exact⟨rfl,rfl,True.intro⟩|rfl|(simp only[List.length_set];first|omega|(refine⟨?_,?_⟩<;>omega)|(refine⟨?_,?_,?_⟩<;>omega))|(intro hg;(try simp only[bB]at hg);first|omega|(refine⟨?_,?_⟩<;>omega)|(refine⟨?_,?_,?_⟩<;>first|omega|(show _<_;(try simp only[List.length_set]);omega)|exact leT rfl))|(refine⟨?_,?_⟩<;>omega)|(refine⟨?_,?_,?_⟩<;>first|omega|(show _<_;(try simp only[List.length_set]);omega)|exact leT rfl)|(simp only[show rI.d=(0:Int)from rfl];omega));done));(conv=>whnf))))
        refine EvOp.look mapTy Try.underlying9 (fun W => Try.zeroValue4 W) hm rfl (l.getD p.1 lb0).1 rfl rfl ?_
        ((conv=>whnf);(repeat(refine And.intro ?_ ?_;(focus((first|omega|exact⟨rfl,True.intro⟩|exact⟨rfl,rfl,True.intro⟩|rfl|(simp only[List.length_set];first|omega|(refine⟨?_,?_⟩<;>omega)|(refine⟨?_,?_,?_⟩<;>omega))|(intro hg;(try simp only[bB]at hg);first|omega|(refine⟨?_,?_⟩<;>omega)|(refine⟨?_,?_,?_⟩<;>first|omega|(show _<_;(try simp only[List.length_set]);omega)|exact leT rfl))|(refine⟨?_,?_⟩<;>omega)|(refine⟨?_,?_,?_⟩<;>first|omega|(show _<_;(try simp only[List.length_set]);omega)|exact leT rfl)|(simp only[show rI.d=(0:Int)from rfl];omega));done));(conv=>whnf))))
        refine EvIf.split (fun g4 => ?_) (fun g4 => ?_)
        · have hF1 : F [l.getD p.1 lb0] = [l.getD p.1 lb0] := by
            rw [hF]
            simp only [List.filter]
            rw [g4]
          rw [hF1] at hFa
          have hla : (F (l.take (p.1 + 1))).length = (F (l.take p.1)).length + 1 := by rw [hFa, List.length_append]; rfl
          have hbnd : ((F (l.take p.1)).length + 1) * 32 ≤ 140737488355328 := hbnd0 _ (by omega)
          ((conv=>whnf);(repeat(refine And.intro ?_ ?_;(focus((first|omega|exact⟨rfl,True.intro⟩|exact⟨rfl,rfl,True.intro⟩|rfl|(simp only[List.length_set];first|omega|(refine⟨?_,?_⟩<;>omega)|(refine⟨?_,?_,?_⟩<;>omega))|(intro hg;(try simp only[bB]at hg);first|omega|(refine⟨?_,?_⟩<;>omega)|(refine⟨?_,?_,?_⟩<;>first|omega|(show _<_;(try simp only[List.length_set]);omega)|exact leT rfl))|(refine⟨?_,?_⟩<;>omega)|(refine⟨?_,?_,?_⟩<;>first|omega|(show _<_;(try simp only[List.length_set]);omega)|exact leT rfl)|(simp only[show rI.d=(0:Int)from rfl];omega));done));(conv=>whnf))))
          refine EvBi.append (R := rL) tyok60 rfl tyok62 rfl (by decide) rfl rfl rfl hi2 [l.getD p.1 lb0] (fun ρ W hp => hp.lit (R := rL) (ys := [l.getD p.1 lb0]) rfl (by decide) (by simp) (by omega) rfl) hbnd (by show _ + 1 ≤ _; omega) (fun cap' hq1 hq2 => ?_)
          rw [← hFa]
          ((conv=>whnf);(repeat(refine And.intro ?_ ?_;(focus((first|omega|exact⟨rfl,True.intro⟩|exact⟨rfl,rfl,True.intro⟩|rfl|(simp only[List.length_set];first|omega|(refine⟨?_,?_⟩<;>omega)|(refine⟨?_,?_,?_⟩<;>omega))|(intro hg;(try simp only[bB]at hg);first|omega|(refine⟨?_,?_⟩<;>omega)|(refine⟨?_,?_,?_⟩<;>first|omega|(show _<_;(try simp only[List.length_set]);omega)|exact leT rfl))|(refine⟨?_,?_⟩<;>omega)|(refine⟨?_,?_,?_⟩<;>first|omega|(show _<_;(try simp only[List.length_set]);omega)|exact leT rfl)|(simp only[show rI.d=(0:Int)from rfl];omega));done));(conv=>whnf))))
          refine LoopI.back (p.1 + 1, cap') ⟨by show p.1 + 1 ≤ l.length; omega, by rw [hla]; exact hq1, hq2⟩ (by show l.length - (p.1 + 1) < l.length - p.1; omega) (Sub.of [(1, 4)] [] rfl ?_)
          (repeat' (refine And.intro ?_ ?_)) <;> first | rfl | exact True.intro | exact hla | exact hla.symm | omega
        · have hF1 : F [l.getD p.1 lb0] = [] := by
            rw [hF]
            simp only [List.filter]
            rw [g4]
          rw [hF1, List.append_nil] at hFa
          ((conv=>whnf);(repeat(refine And.intro ?_ ?_;(focus((first|omega|exact⟨rfl,True.intro⟩|exact⟨rfl,rfl,True.intro⟩|rfl|(simp only[List.length_set];first|omega|(refine⟨?_,?_⟩<;>omega)|(refine⟨?_,?_,?_⟩<;>omega))|(intro hg;(try simp only[bB]at hg);first|omega|(refine⟨?_,?_⟩<;>omega)|(refine⟨?_,?_,?_⟩<;>first|omega|(show _<_;(try simp only[List.length_set]);omega)|exact leT rfl))|(refine⟨?_,?_⟩<;>omega)|(refine⟨?_,?_,?_⟩<;>first|omega|(show _<_;(try simp only[List.length_set]);omega)|exact leT rfl)|(simp only[show rI.d=(0:Int)from rfl];omega));done));(conv=>whnf))))
          refine LoopI.back (p.1 + 1, p.2) ⟨by show p.1 + 1 ≤ l.length; omega, by show (F (l.take (p.1 + 1))).length ≤ p.2; rw [hFa]; exact hi2, hi3⟩ (by show l.length - (p.1 + 1) < l.length - p.1; omega) (Sub.of [] [] rfl ?_)
          have hFb := hFa.symm
          have hFc : (F (l.take (p.1 + 1))).length = (F (l.take p.1)).length := by rw [hFa]
          (repeat' (refine And.intro ?_ ?_)) <;> first | rfl | exact True.intro | exact hFc | exact hFc.symm | exact congrArg (Ct.rows Lb rL) hFa | exact congrArg (Ct.rows Lb rL) hFb | omega
      simp only [decide_eq_false_iff_not] at g3
      obtain ⟨i, cp⟩ := p
      obtain rfl : i = l.length := by simp only at g3 hi1; omega
      simp only [List.take_length] at hi2 hi3 ⊢
      ((conv=>whnf);(repeat(refine And.intro ?_ ?_;(focus((first|omega|exact⟨rfl,True.intro⟩|exact⟨rfl,rfl,True.intro⟩|rfl|(simp only[List.length_set];first|omega|(refine⟨?_,?_⟩<;>omega)|(refine⟨?_,?_,?_⟩<;>omega))|(intro hg;(try simp only[bB]at hg);first|omega|(refine⟨?_,?_⟩<;>omega)|(refine⟨?_,?_,?_⟩<;>first|omega|(show _<_;(try simp only[List.length_set]);omega)|exact leT rfl))|(refine⟨?_,?_⟩<;>omega)|(refine⟨?_,?_,?_⟩<;>first|omega|(show _<_;(try simp only[List.length_set]);omega)|exact leT rfl)|(simp only[show rI.d=(0:Int)from rfl];omega));done));(conv=>whnf))))
      exact EvRet.mono (EvRet.rows (R := rL) rfl hi2 rfl rfl) (RetRows.base hb)
end Go.Proofs.Ytebfhljamoapjaa
