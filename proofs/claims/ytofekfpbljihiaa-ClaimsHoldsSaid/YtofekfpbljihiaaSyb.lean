/- The symbolic machine: new objects, stores, calls. No program in sight. -/
import Derived.Test.YtofekfpbljihiaaSya
namespace Go.Proofs.Ytofekfpbljihiaa
open Go.RowKit
set_option linter.unusedVariables false
set_option linter.unusedSimpArgs false
set_option linter.unnecessarySimpa false

def obE (φ : Option Prop) (X : Prop) : Prop :=
  match φ with
  | none => X
  | some φ => φ ∧ X
theorem obE_sound {φ : Option Prop} {X : Prop} (h : obE φ X) : optP φ ∧ X := by
  cases φ with
  | none => exact ⟨trivial, h⟩
  | some φ => exact h

section
variable {P : Program} {w : World} {T : Tab} {env : Env} {L : List Ob} {nx : Nat} {cur : Pth} {k : SV → List Ob → Nat → Prop}

def zcK (v : Value) (k : List SV → Prop) : Prop :=
  match v with
  | .agg cs => vsK cs.toList k
  | .int kk z => k [.v (.int kk z)]
  | .string s => k [.v (.string s)]
  | .bool b => k [.v (.bool b)]
  | .slice a l c => k [.v (.slice a l c)]
  | .pointer a => k [.v (.pointer a)]
  | .nilFunc => k [.v .nilFunc]
  | _ => False
theorem zcK_sound {v : Value} {k : List SV → Prop} (h : zcK v k) : k (v.cells.toList.map SV.v) := by
  unfold zcK at h
  split at h
  · exact vsK_sound h
  all_goals first | exact h.elim | simpa [Value.cells] using h
def appLK : List SV → List SV → (List SV → Prop) → Prop := appK
def repK : Nat → List SV → (List SV → Prop) → Prop
  | 0, _, k => k []
  | n + 1, zs, k => repK n zs (fun l => appK zs l k)
theorem repK_sound : ∀ {n : Nat} {zs : List SV} {k : List SV → Prop}, repK n zs k → k ((List.replicate n zs).flatten)
  | 0, zs, k, h => by simpa [repK] using h
  | n + 1, zs, k, h => by
    have := appK_sound (repK_sound (n := n) h)
    simpa [List.replicate_succ] using this
theorem range_rep (zs : List Value) (hz : 0 < zs.length) : ∀ n : Nat, ((Array.range (n * zs.length)).map (fun i => zs.toArray[i % zs.toArray.size]!)).toList = (List.replicate n zs).flatten := by
  intro n
  have hlen : ((List.replicate n zs).flatten).length = n * zs.length := by simp [List.sum_replicate_nat]
  apply List.ext_getElem
  · simp [hlen]
  · intro i h1 h2
    simp at h1
    have hm : i % zs.length < zs.length := Nat.mod_lt _ hz
    simp only [Array.toList_map, Array.toList_range, List.getElem_map, List.getElem_range, List.size_toArray]
    have key : ∀ (n i : Nat), i < n * zs.length → ((List.replicate n zs).flatten)[i]? = some zs[i % zs.length]! := by
      intro n
      induction n with
      | zero => intro i hi; simp at hi
      | succ n ih =>
        intro i hi
        simp only [List.replicate_succ, List.flatten_cons]
        by_cases hlt : i < zs.length
        · rw [List.getElem?_append_left hlt, Nat.mod_eq_of_lt hlt]
          simp [hlt]
        · rw [List.getElem?_append_right (by omega), ih _ (by rw [Nat.succ_mul] at hi; omega)]
          congr 2
          exact (Nat.mod_eq_sub_mod (by omega)).symm
    have h3 := key n i h1
    rw [List.getElem?_eq_getElem h2] at h3
    injection h3 with h3
    rw [h3]
    simp [hm]

def nqK (kp : Bool) (P : Program) (w : World) (T : Tab) (env : Env) (L : List Ob) (nx : Nat) (o : Oper) (k : SV → List Ob → Nat → Prop) : Prop :=
  match o.op with
  | .alloc t => tyK T t (fun ti => zcK ti.zero (fun cs => bif Nat.beq cs.length ti.size then k (.p nx 0) (⟨nx, true, t, ti.size, 1, .cs cs⟩ :: L) (nx + 1) else False))
  | .box t x => tyK T t (fun ti => evK env [] x (fun v => flatK v (fun cs => bif Nat.beq cs.length ti.size then k (.p nx 0) (⟨nx, true, t, ti.size, 1, .cs cs⟩ :: L) (nx + 1) else False)))
  | .buildSlice t len parts => tyK T t (fun ti => match ti.d with
    | .slice el => tyK T el (fun te => bif Nat.blt 0 te.size && Nat.ble (len * te.size) 16777216 then partsK env [] parts.toList (fun vs => zcK te.zero (fun zs => bif Nat.beq zs.length te.size then repK len zs (fun cs0 =>
        fillK (fun i k => k (i * te.size) te.size) cs0 vs (fun cs => bif Nat.beq cs.length (len * te.size) then k (.s nx te.size len len) (⟨nx, true, el, te.size, len, .cs cs⟩ :: L) (nx + 1) else False)) else False)) else False)
    | _ => False)
  | .store t a x => bif kp then False else tyK T t (fun ti => evK env [] a (fun addr => evK env [] x (fun v => flatK v (fun cs => bif Nat.beq cs.length ti.size then storeK L addr cs (fun φ L' => obE φ (k (.v undef) L' nx)) else False))))
  | .makeSlice t l c => evK env [] l (fun l => evK env [] c (fun c => EvMake kp P w t l c L nx k))
  | .call c => (match c.callee with
    | .value f => evK env [] f (fun fv => match fv with
      | .f fn caps => evsK env [] c.args.toList (fun vs => appK vs caps (fun as => EvCall kp P w fn as L nx k))
      | _ => False)
    | .builtin b => evsK env [] c.args.toList (fun vs => EvBi kp P w b vs c.argTypes.toList L nx k)
    | _ => False)
  | _ => EvOp kp P w env o L nx k

/-- The step is sound. -/
def NqOk (kp : Bool) (P : Program) (w : World) (env : Env) (L : List Ob) (nx : Nat) (o : Oper) (k : SV → List Ob → Nat → Prop) : Prop :=
  ∀ ρ G a W, Fk ρ G env nx a → Hp w ρ L nx W → ∀ (next : Act → World → Prop) (Q : Exit → Act → World → Prop), (∀ v W', Res w ρ nx kp W k v W' → next (a.put o.dst v) W') → o.wp P a W next Q
theorem nq_new {kp : Bool} {ρ : Rho} {W : World} (hp : Hp w ρ L nx W) {t : TypeId} {size cap : Nat} {cs : List SV} {v : SV} (hlt : ltL nx cs = true) (hv : v.lt (nx + 1) = true) (hl : cs.length = cap * size) (hcap : cap ≤ maxLen)
    (h : k v (⟨nx, true, t, size, cap, .cs cs⟩ :: L) (nx + 1)) : Res w ρ nx kp W k (den (upd ρ nx (some ⟨W.heap.size, 0, none⟩)) v) (W.alloc (.cells (denL ρ cs).toArray t)) := by
  have e : denL (upd ρ nx (some ⟨W.heap.size, 0, none⟩)) cs = denL ρ cs := denL_agree (agree_upd ρ nx _) cs hlt
  refine ⟨fun _ => (Below.refl _ _).alloc (Nat.le_refl _) _, _, v, _, _, rfl, agree_upd ρ nx _, by omega, hv, ?_, h⟩
  refine hp.new ((Below.refl _ _).alloc (Nat.le_refl _) _) _ _ rfl rfl (ltL_mono (by omega) _ hlt) (.inr ⟨W.heap.size, [], upd_same _ _ _, Nat.le_refl _, ?_, hcap, ?_⟩)
  · simp only [Ct.cells, e]
    simp [denL_map, hl]
  · simp only [Ct.cells, e, List.append_nil]
    exact Blk.new W t _
theorem nqK_sound {kp : Bool} {o : Oper} (hT : TabOk P T) (h : nqK kp P w T env L nx o k) : NqOk kp P w env L nx o k := by
  intro ρ G a W hf hp next Q hn
  have hg : holdsB G [] = true := rfl
  have val : ∀ v W', (execOp a.eval o).run P W = .ok (.value v) W' → Res w ρ nx kp W k v W' → o.wp P a W next Q := by
    intro v W' he hr
    unfold Oper.wp
    rw [he]
    exact hn v W' hr
  unfold nqK at h
  split at h
  · rename_i t hop
    obtain ⟨ti, hti, h1⟩ := tyK_sound hT h
    have h2 := zcK_sound h1
    cases hb : Nat.beq (ti.zero.cells.toList.map SV.v).length ti.size with
    | false => rw [hb] at h2; exact h2.elim
    | true =>
      rw [hb] at h2
      have hs := Nat.eq_of_beq_eq_true hb
      have hr := nq_new (kp := kp) (k := k) hp (t := t) (size := ti.size) (cap := 1) (v := .p nx 0) (ltL_v _) (by simp [SV.lt, blt_iff]) (by simpa using hs) (by simp [maxLen]) h2
      refine val _ _ ?_ hr
      simp [execOp, hop, Instr.alloc, hti.zeroV W, newVar, newRow, newObj, Sem.run, den, upd_same, denL_v, Addr.add]
  · rename_i t x hop
    obtain ⟨ti, hti, h1⟩ := tyK_sound hT h
    obtain ⟨v, h2, hx⟩ := evK_sound h1
    obtain ⟨cs, h3, h4, h5⟩ := flatK_sound h2
    cases hb : Nat.beq cs.length ti.size with
    | false => rw [hb] at h3; exact h3.elim
    | true =>
      rw [hb] at h3
      have hs := Nat.eq_of_beq_eq_true hb
      have e := hx ρ G nx a hf hg
      have hr := nq_new (kp := kp) (k := k) hp (t := t) (size := ti.size) (cap := 1) (v := .p nx 0) (h4 nx e.2) (by simp [SV.lt, blt_iff]) (by simpa using hs) (by simp [maxLen]) h3
      refine val _ _ ?_ hr
      simp [execOp, hop, Instr.box, newVar, newRow, newObj, Sem.run, den, upd_same, e.1, h5, Addr.add]
  · rename_i t len parts hop
    obtain ⟨ti, hti, h1⟩ := tyK_sound hT h
    split at h1
    · rename_i el hd
      obtain ⟨te, hte, h2⟩ := tyK_sound hT h1
      cases hb : (Nat.blt 0 te.size && Nat.ble (len * te.size) 16777216) with
      | false => rw [hb] at h2; exact h2.elim
      | true =>
        rw [hb] at h2
        simp only [Bool.and_eq_true, blt_iff, Nat.ble_eq] at hb
        obtain ⟨vs, h3, hv⟩ := partsK_sound h2
        have h4 := zcK_sound h3
        cases hb2 : Nat.beq (te.zero.cells.toList.map SV.v).length te.size with
        | false => rw [hb2] at h4; exact h4.elim
        | true =>
          rw [hb2] at h4
          have hs := Nat.eq_of_beq_eq_true hb2
          simp only [List.length_map, Array.length_toList] at hs
          have h5 := repK_sound h4
          obtain ⟨cs, h6, h7, h8⟩ := fillK_sound (place := fun i => some (i * te.size, te.size)) (by
            intro i k hk
            exact ⟨_, _, rfl, hk⟩) h5
          cases hb3 : Nat.beq cs.length (len * te.size) with
          | false => rw [hb3] at h6; exact h6.elim
          | true =>
            rw [hb3] at h6
            have hl := Nat.eq_of_beq_eq_true hb3
            have e := hv ρ G nx a hf hg
            have e8 := h8 ρ
            have hrep : (List.replicate len (te.zero.cells.toList.map SV.v)).flatten = ((List.replicate len te.zero.cells.toList).flatten).map SV.v := by
              simp [List.map_flatten]
            rw [hrep, denL_v, ← e.1] at e8
            have hlt : ltL nx cs = true := h7 nx (by rw [hrep]; exact ltL_v _) e.2
            have hlen : len ≤ 16777216 := Nat.le_trans (Nat.le_mul_of_pos_right len hb.1) hb.2
            have hr := nq_new (kp := kp) (k := k) hp (t := el) (size := te.size) (cap := len) (v := .s nx te.size len len) hlt (by simp [SV.lt, blt_iff]) hl (by simp [maxLen]; omega) h6
            refine val _ _ ?_ hr
            have u := hti.under W
            rw [hd] at u
            have hzl : te.zero.cells.toList.length = te.size := by simpa using hs
            have hrr := range_rep te.zero.cells.toList (by rw [hzl]; exact hb.1) len
            rw [hzl] at hrr
            have hcells : (Array.range (len * te.size)).map (fun x => te.zero.cells[x % te.zero.cells.size]!) = ((List.replicate len te.zero.cells.toList).flatten).toArray := by
              apply Array.ext'
              rw [← hrr]
            have hbig : ¬ (16777216 < len * te.size) := by omega
            simp only [execOp, hop, Instr.buildSlice]
            simp only [Sem.run_bind, u, hte.sizeOf W, Result.andThen_ok, Sem.run_pure]
            simp [hbig, hte.sizeOf W, newRow, newObj, Sem.run, den, upd_same, -Array.size_range]
            by_cases h0 : len * te.size = 0
            · have hl0 : len = 0 := by
                rcases Nat.mul_eq_zero.1 h0 with h0 | h0
                · exact h0
                · omega
              subst hl0
              have hr0 : Array.map (fun x : Nat => (default : Value)) (Array.range 0) = #[] := by simp
              simp at e8
              simp [hr0, e8, Sem.run]
            · simp [h0, hte.zeroV W, hcells, e8, Sem.run]
    · exact h1.elim
  · rename_i t x y hop
    cases kp with
    | true => exact h.elim
    | false =>
    obtain ⟨ti, hti, h1⟩ := tyK_sound hT h
    obtain ⟨addr, h2, ha⟩ := evK_sound h1
    obtain ⟨v, h3, hx⟩ := evK_sound h2
    obtain ⟨cs, h4, h5, h6⟩ := flatK_sound h3
    cases hb : Nat.beq cs.length ti.size with
    | false => rw [hb] at h4; exact h4.elim
    | true =>
      rw [hb] at h4
      have hs := Nat.eq_of_beq_eq_true hb
      obtain ⟨φ, L', h7, h8⟩ := storeK_sound h4
      obtain ⟨hφ, h9⟩ := obE_sound h7
      have e := hx ρ G nx a hf hg
      obtain ⟨A, W', h10, h11, h12⟩ := h8 P w ρ nx W hp (h5 nx e.2) hφ
      have ea := (ha ρ G nx a hf hg).1
      rw [h10] at ea
      unfold Oper.wp
      have hrun : (execOp a.eval o).run P W = .ok .skip W' := by
        have hz : (den ρ v).cells.size = ti.size := by rw [h6 ρ]; simp [denL_map, hs]
        have hz2 : (den ρ v).cells.toList = denL ρ cs := by rw [h6 ρ]
        simp [execOp, hop, Instr.storeAt, ea, e.1, Instr.sureAddr, storeVar, hti.sizeOf W, hz, hz2, h11]
      rw [hrun]
      exact hn undef W' ⟨(fun hh => absurd hh (by simp)), ρ, .v undef, L', nx, by simp [den], fun _ _ => rfl, Nat.le_refl _, rfl, h12, h9⟩
  · rename_i t x y hop
    obtain ⟨l, h1, hl⟩ := evK_sound h
    obtain ⟨c, h2, hc⟩ := evK_sound h1
    obtain ⟨v, W', h3, h4⟩ := h2.go ρ W hp
    refine val v W' ?_ h4
    simp [execOp, hop, (hl ρ G nx a hf hg).1, (hc ρ G nx a hf hg).1, h3]
  · rename_i c hop
    obtain ⟨callee, args, ts⟩ := c
    simp only at h
    split at h
    · rename_i f
      obtain ⟨fv, h1, hfv⟩ := evK_sound h
      split at h1
      · rename_i fn caps
        obtain ⟨vs, h2, hvs⟩ := evsK_sound h1
        have h3 := appK_sound h2
        have e1 := hfv ρ G nx a hf hg
        have e2 := hvs ρ G nx a hf hg
        have hlt : ltL nx (vs ++ caps) = true := by
          rw [ltL_iff]
          intro x hx
          rcases List.mem_append.1 hx with hx | hx
          · exact (ltL_iff _ _).1 e2.2 x hx
          · exact (ltL_iff _ _).1 (by simpa [SV.lt] using e1.2) x hx
        have hc := h3.go ρ W hp hlt
        have hargs : (args.map a.eval) ++ (denL ρ caps).toArray = (denL ρ (vs ++ caps)).toArray := by
          apply Array.ext'
          simp only [Array.toList_append, Array.toList_map, e2.1]
          simp [denL_map]
        unfold Oper.wp
        have hrun : (execOp a.eval o).run P W = .ok (.enter fn (denL ρ (vs ++ caps)).toArray) W := by
          simp only [execOp, hop, resolve, e1.1, den]
          simp [Deferred.ofValue, invoke, hargs, h3.ent]
        rw [hrun]
        exact hc.mono fun e W' he => by
          obtain ⟨v, rfl, hr⟩ := he
          exact hn v W' hr
      · exact h1.elim
    · rename_i b
      obtain ⟨vs, h1, hvs⟩ := evsK_sound h
      have e2 := hvs ρ G nx a hf hg
      obtain ⟨v, W', h3, h4⟩ := h1.go ρ W hp e2.2 o.type (args.map fun | .const _ => true | _ => false)
      refine val v W' ?_ h4
      have hargs : args.map a.eval = (denL ρ vs).toArray := by
        apply Array.ext'
        simp [e2.1]
      simp only [execOp, hop, resolve, hargs, Sem.run_bind, Sem.run_pure, Result.andThen_ok, invoke]
      exact h3
    · exact h.elim
  · obtain ⟨v, W', h3, h4⟩ := h.go ρ G a W hf hp
    exact val v W' h3 h4
end
end Go.Proofs.Ytofekfpbljihiaa
