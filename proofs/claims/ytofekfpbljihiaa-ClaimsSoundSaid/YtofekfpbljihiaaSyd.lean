/- The symbolic machine: a region whose order is drawn, walked in one order that serves for all. No program in sight. -/
import Derived.Test.YtofekfpbljihiaaSyc
import Derived.OrdersHeld
namespace Go.Proofs.Ytofekfpbljihiaa
open Go.RowKit
set_option linter.unusedVariables false
set_option linter.unusedSimpArgs false
set_option linter.unnecessarySimpa false

/-- Q, but False at a panic. -/
def NoP (Q : Exit → Act → World → Prop) : Exit → Act → World → Prop
  | .panic _, _, _ => False
  | e, a, w => Q e a w
theorem NoP.imp {Q : Exit → Act → World → Prop} : ∀ (e : Exit) (a : Act) (w : World), NoP Q e a w → Q e a w := fun e a w h => by
  cases e <;> first | exact h | exact (h : False).elim

/-- i comes before j by the region's edges. -/
def anc (ops : Array Oper) : Nat → Nat → Nat → Bool
  | 0, _, _ => false
  | n + 1, j, i => ((ops[j]?).map fun o => o.after.any fun e => Region.binds .any e && (e.on == i || anc ops n e.on i)).getD false
/-- Does what it yields hang on the heap? -/
def isM (o : Op) : Bool :=
  match o with
  | .load _ _ => true
  | .indexAddr _ _ _ => true
  | _ => false
def isMi (ops : Array Oper) (j : Nat) : Bool :=
  match ops[j]? with
  | some o => isM o.op
  | none => true
def predsAll (ops : Array Oper) (listed : Array Bool) (i : Nat) : Bool :=
  (List.range ops.size).all fun j => !(listed.getD j false) || (!(isMi ops j) || anc ops ops.size i j)
/-- What is listed has all that it waits for listed. -/
def Clo (ops : Array Oper) (listed : Array Bool) : Prop := ∀ j o, ops[j]? = some o → listed.getD j false = true → ∀ e ∈ o.after, Region.binds .any e = true → listed.getD e.on false = true
theorem anc_listed {ops : Array Oper} {listed : Array Bool} (hc : Clo ops listed) : ∀ (n j i : Nat) (o : Oper), ops[j]? = some o → (∀ e ∈ o.after, Region.binds .any e = true → listed.getD e.on false = true) → anc ops n j i = true → listed.getD i false = true
  | 0, _, _, _, _, _, h => by simp [anc] at h
  | n + 1, j, i, o, ho, hall, h => by
    simp only [anc, ho, Option.map_some, Option.getD_some, Array.any_eq_true', Bool.and_eq_true, Bool.or_eq_true, beq_iff_eq] at h
    obtain ⟨e, he, hb, h⟩ := h
    have h1 := hall e he hb
    rcases h with h | h
    · rw [← h]; exact h1
    · cases ho' : ops[e.on]? with
      | none =>
        cases n with
        | zero => simp [anc] at h
        | succ n => simp [anc, ho'] at h
      | some o' => exact anc_listed hc n e.on i o' ho' (hc e.on o' ho' h1) h
theorem Clo.step {ops : Array Oper} {listed : Array Bool} (hc : Clo ops listed) {i : Nat} (hi : i ∈ Region.ready .any ops listed) : Clo ops (listed.setIfInBounds i true) := by
  intro j o ho hj e he hb
  obtain ⟨h0, oi, hoi, hall⟩ := mem_ready.1 hi
  by_cases hji : i = j
  · subst hji
    rw [hoi] at ho
    injection ho with ho
    subst ho
    exact getD_set_true (hall e he hb)
  · rw [getD_set_ne false hji] at hj
    exact getD_set_true (hc j o ho hj e he hb)
theorem Clo.start (ops : Array Oper) (n : Nat) : Clo ops (Array.replicate n false) := by
  intro j o _ hj
  simp [Array.getElem?_replicate] at hj
  split at hj <;> simp at hj

section
variable {P : Program} {ops : Array Oper} {Q : Exit → Act → World → Prop}
/-- Whatever order is picked from here on; S holds now, and what holds behind a step still gives S, or the step waits for all that went before. -/
def wpAnyG (P : Program) (ops : Array Oper) (Q : Exit → Act → World → Prop) (B0 : World → Prop) : Nat → Array Bool → (World → Prop) → Act → World → Prop
  | 0, listed, _, a, w => Region.ready .any ops listed = [] ∧ Q .normal a w
  | fuel + 1, listed, S, a, w =>
    (Region.ready .any ops listed = [] → Q .normal a w) ∧
    ∀ i ∈ Region.ready .any ops listed, wpOp P ops Q i (fun a' w' => ∃ S' : World → Prop, (∀ u, S' u → B0 u) ∧ S' w' ∧ ((∀ u, S' u → S u) ∨ predsAll ops listed i = true) ∧ wpAnyG P ops Q B0 fuel (listed.setIfInBounds i true) S' a' w') a w
theorem wpAny_of_G {B0 : World → Prop} : ∀ (fuel : Nat) (listed : Array Bool) (S : World → Prop) (a : Act) (w : World), wpAnyG P ops Q B0 fuel listed S a w → wpAny P .any ops Q fuel listed a w
  | 0, _, _, _, _, h => h
  | fuel + 1, _, _, _, _, h => ⟨h.1, fun i hi => wpOp_mono (fun a' w' ⟨S', _, _, _, h'⟩ => wpAny_of_G fuel _ S' a' w' h') (h.2 i hi)⟩
theorem yieldsIf_mono {S S' : World → Prop} {o : Oper} {v : Value} {a : Act} (h : YieldsIf P ops S o v a) (hS : ∀ u, S' u → S u) : YieldsIf P ops S' o v a :=
  h.imp (fun ⟨h1, h2⟩ => ⟨h1, fun w hw => h2 w (hS w hw)⟩) id
theorem wpAnyG_first {B0 : World → Prop} {i : Nat} {oi : Oper} {v : Value} (hi : ops[i]? = some oi) (hsel : ∀ (j : Nat) (o : Oper) cs b, ops[j]? = some o → o.op ≠ .select cs b)
    (hQ : ∀ c a w, Q (.panic c) (a.put oi.dst v) w → Q (.panic c) a w) :
    ∀ (fuel : Nat) (listed : Array Bool) (S : World → Prop) (a : Act) (w : World),
      (∀ j oj, ops[j]? = some oj → j ≠ i → listed.getD j true = false → (∀ e ∈ oj.after, Region.binds .any e = true → e.on ≠ i) → oi.apart ops oj = true) →
      Clo ops listed → i ∈ Region.ready .any ops listed → YieldsIf P ops S oi v a → (isM oi.op = false → YieldsIf P ops B0 oi v a) → (∀ u, S u → B0 u) → S w →
      wpAnyG P ops Q B0 fuel (listed.setIfInBounds i true) S (a.put oi.dst v) w → wpAnyG P ops Q B0 (fuel + 1) listed S a w := by
  intro fuel
  induction fuel with
  | zero =>
    intro listed S a w _ hc hr hy hyB hSB hS H
    refine ⟨fun h => (by rw [h] at hr; cases hr), fun j hj => ?_⟩
    by_cases hji : j = i
    · subst hji; exact hy.wpOp hi hS ⟨S, hSB, hS, .inl fun _ h => h, H⟩
    · have := ready_mono hj hji
      rw [H.1] at this
      cases this
  | succ fuel ih =>
    intro listed S a w hfree hc hr hy hyB hSB hS H
    refine ⟨fun h => (by rw [h] at hr; cases hr), fun j hj => ?_⟩
    by_cases hji : j = i
    · subst hji; exact hy.wpOp hi hS ⟨S, hSB, hS, .inl fun _ h => h, H⟩
    · have h1 := H.2 j (ready_mono hj hji)
      obtain ⟨hjun, oj, hoj, hall⟩ := mem_ready.1 hj
      have h0 := (mem_ready.1 hr).1
      have hilt : i < listed.size := by
        rcases Nat.lt_or_ge i listed.size with h' | h'
        · exact h'
        · simp [Array.getElem?_eq_none h'] at h0
      have hnot : ∀ e ∈ oj.after, Region.binds .any e = true → e.on ≠ i := fun e he hb heq => by
        have h1 := hall e he hb
        rw [heq] at h1
        simp [hilt] at h0 h1
        rw [h0] at h1
        cases h1
      have hno : isM oi.op = true → predsAll ops (listed.setIfInBounds i true) j = true → False := by
        intro hM hp
        simp only [predsAll, List.all_eq_true, List.mem_range] at hp
        have hil : i < ops.size := (Array.getElem?_eq_some_iff.1 hi).1
        have := hp i hil
        have e : (listed.setIfInBounds i true).getD i false = true := by simp [hilt]
        rw [e] at this
        have hMi : isMi ops i = true := by simp only [isMi, hi]; exact hM
        rw [hMi] at this
        simp only [Bool.not_true, Bool.false_or] at this
        have h3 := anc_listed hc ops.size j i oj hoj hall this
        simp [hilt] at h0 h3
        rw [h0] at h3
        cases h3
      have hy2 : ∀ S2 : World → Prop, (∀ u, S2 u → S u) ∨ (isM oi.op = false ∧ ∀ u, S2 u → B0 u) → ∀ a', YieldsIf P ops S oi v a' ∧ (isM oi.op = false → YieldsIf P ops B0 oi v a') → YieldsIf P ops S2 oi v a' := by
        intro S2 h a' ⟨h1, h2⟩
        rcases h with h | ⟨hM, h⟩
        · exact yieldsIf_mono h1 h
        · exact yieldsIf_mono (h2 hM) h
      have h2 : wpOp P ops Q j (fun a' w' => (YieldsIf P ops S oi v a' ∧ (isM oi.op = false → YieldsIf P ops B0 oi v a')) ∧ ∃ S' : World → Prop, (∀ u, S' u → B0 u) ∧ S' w' ∧ ((∀ u, S' u → S u) ∨ predsAll ops (listed.setIfInBounds i true) j = true) ∧ wpAnyG P ops Q B0 fuel ((listed.setIfInBounds i true).setIfInBounds j true) S' (a'.put oi.dst v) w') a w := by
        cases hM : isM oi.op with
        | true =>
          have := wpOp_putIf hoj (hfree j oj hoj hji hjun hnot) (fun cs b => hsel i oi cs b hi) (fun cs b => hsel j oj cs b hoj) hQ hy h1
          exact wpOp_mono (fun a' w' h => ⟨⟨h.1, fun hh => by cases hh⟩, h.2⟩) this
        | false =>
          have := wpOp_putIf hoj (hfree j oj hoj hji hjun hnot) (fun cs b => hsel i oi cs b hi) (fun cs b => hsel j oj cs b hoj) hQ (hyB hM) h1
          exact wpOp_mono (fun a' w' h => ⟨⟨yieldsIf_mono h.1 hSB, fun _ => h.1⟩, h.2⟩) this
      have hfree' : ∀ k ok, ops[k]? = some ok → k ≠ i → (listed.setIfInBounds j true).getD k true = false →
          (∀ e ∈ ok.after, Region.binds .any e = true → e.on ≠ i) → oi.apart ops ok = true := fun k ok hk hki hun hno => by
        refine hfree k ok hk hki ?_ hno
        by_cases hjk : j = k
        · subst hjk; exact hjun
        · rw [getD_set_ne true hjk] at hun; exact hun
      refine wpOp_mono (fun a' w' h3 => ?_) h2
      obtain ⟨hy', S', hSB', hS', himp, H'⟩ := h3
      have himp2 : (∀ u, S' u → S u) ∨ (isM oi.op = false ∧ ∀ u, S' u → B0 u) := by
        rcases himp with h | h
        · exact .inl h
        · cases hM : isM oi.op with
          | true => exact absurd h (fun h => hno hM h)
          | false => exact .inr ⟨rfl, hSB'⟩
      have himp3 : (∀ u, S' u → S u) ∨ predsAll ops listed j = true := by
        rcases himp with h | h
        · exact .inl h
        · refine .inr ?_
          simp only [predsAll, List.all_eq_true, List.mem_range] at h ⊢
          intro k hk
          have h4 := h k hk
          by_cases hik : i = k
          · subst hik
            have h5 : listed.getD i false = false := by
              simp [hilt] at h0 ⊢
              exact h0
            rw [h5]
            rfl
          · rw [getD_set_ne false hik] at h4
            exact h4
      refine ⟨S', hSB', hS', himp3, ih (listed.setIfInBounds j true) S' a' w' hfree' (hc.step hj) (ready_mono hr (Ne.symm hji)) (hy2 S' himp2 a' hy') hy'.2 hSB' hS' ?_⟩
      rw [Array.setIfInBounds_comm _ _ hji]
      exact H'
end

/-- Orders that serve for all: an operation that leaves the heap alone is taken as soon as it can be; of the others each that may come up (n: one of them, then the others; e: no other). -/
inductive Tr where
  | z
  | q (i : Nat) (t : Tr)
  | n (i : Nat) (fl : Bool) (t : Tr) (more : Tr)
  | e
def planIx : Tr → List Nat
  | .n i _ _ more => i :: planIx more
  | _ => []
def planOk (ops : Array Oper) : Tr → Array Bool → Bool → Bool
  | .z, listed, _ => (Region.ready .any ops listed).isEmpty
  | .q i t, listed, _ => (match ops[i]? with
    | some o => isQ o.op && ((Region.ready .any ops listed).contains i && Region.free .any ops listed i)
    | none => false) && planOk ops t (listed.setIfInBounds i true) true
  | .n i fl t more, listed, top => (!top || (Region.ready .any ops listed == (i :: planIx more))) && (match ops[i]? with
    | some o => !isQ o.op && (!fl || predsAll ops listed i)
    | none => false) && planOk ops t (listed.setIfInBounds i true) true && planOk ops more listed false
  | .e, _, top => !top
def Tr.len : Tr → Nat
  | .z => 0
  | .q _ t => t.len + 1
  | .n _ _ t _ => t.len + 1
  | .e => 0
def evenB : Tr → Option Nat → Bool
  | .z, _ => true
  | .q _ t, _ => evenB t none
  | .n _ _ t more, m => (match m with | some m => Nat.beq t.len m | none => true) && evenB t none && evenB more (some t.len)
  | .e, _ => true
def planB (ops : List Oper) (t : Tr) : Bool := Nat.beq t.len ops.length && Region.noSelect ops.toArray && evenB t none && planOk ops.toArray t (Array.replicate ops.length false) true
/-- An operation that may change the heap, then ih. -/
def oneK (P : Program) (w : World) (T : Tab) (N : Nat) (all : List Oper) (i : Nat) (fl : Bool) (ih : Gd → Env → List Ob → Nat → (Env → List Ob → Nat → Prop) → Prop) (G : Gd) (env : Env) (L : List Ob) (nx : Nat) (k : Env → List Ob → Nat → Prop) : Prop :=
  nthK all i (fun o => gdK all env G o.guard (fun G cur => match cur with
      | [] => nqK (!fl) P w T env L nx o (fun v L' nx' => putK N G env o.dst [] v (fun env' => ih G env' L' nx' k))
      | c :: cs => gcK P w env G L nx (c :: cs) o (fun v => putK N G env o.dst (c :: cs) v (fun env' => ih G env' L nx k))))
def moreK (more : Tr) (X Y : Prop) : Prop :=
  match more with
  | .n _ _ _ _ => X ∧ Y
  | _ => X
theorem moreK_fst {more : Tr} {X Y : Prop} (h : moreK more X Y) : X := by
  unfold moreK at h
  split at h
  · exact h.1
  · exact h
noncomputable def vcTr (P : Program) (w : World) (T : Tab) (N : Nat) (all : List Oper) (t : Tr) : Gd → Env → List Ob → Nat → (Env → List Ob → Nat → Prop) → Prop :=
  @Tr.rec (fun _ => Gd → Env → List Ob → Nat → (Env → List Ob → Nat → Prop) → Prop) (fun _ env L nx k => clK env [] (fun env' => k env' L nx))
    (fun i _ ih G env L nx k => nthK all i (fun o => gdK all env G o.guard (fun G cur => quietK T env (bif isM o.op then L else []) cur o.op (fun φ v => obG G cur φ (putK N G env o.dst cur v (fun env' => ih G env' L nx k))))))
    (fun i fl _ more ih ihm G env L nx k => moreK more (oneK P w T N all i fl ih G env L nx k) (ihm G env L nx k))
    (fun _ _ _ _ _ => True) t
/-- The branches of a tree. -/
def branches : Tr → List (Nat × Bool × Tr)
  | .n i fl t more => (i, fl, t) :: branches more
  | _ => []
theorem vcBs_mem {P : Program} {w : World} {T : Tab} {N : Nat} {all : List Oper} {G : Gd} {env : Env} {L : List Ob} {nx : Nat} {k : Env → List Ob → Nat → Prop} : ∀ (tr : Tr), vcTr P w T N all tr G env L nx k → ∀ i fl t, (i, fl, t) ∈ branches tr → oneK P w T N all i fl (vcTr P w T N all t) G env L nx k
  | .z, _, i, fl, t, hm => by simp [branches] at hm
  | .q _ _, _, i, fl, t, hm => by simp [branches] at hm
  | .e, _, i, fl, t, hm => by simp [branches] at hm
  | .n i' fl' t' more, h, i, fl, t, hm => by
    have h' : moreK more (oneK P w T N all i' fl' (vcTr P w T N all t') G env L nx k) (vcTr P w T N all more G env L nx k) := h
    simp only [branches, List.mem_cons, Prod.mk.injEq] at hm
    rcases hm with ⟨rfl, rfl, rfl⟩ | hm
    · exact moreK_fst h'
    · cases more with
      | n a b c d => exact vcBs_mem (.n a b c d) h'.2 i fl t hm
      | z => simp [branches] at hm
      | q _ _ => simp [branches] at hm
      | e => simp [branches] at hm
theorem planBs_mem {ops : Array Oper} {listed : Array Bool} : ∀ (tr : Tr) (top : Bool), planOk ops tr listed top = true → ∀ i fl t, (i, fl, t) ∈ branches tr → (∃ o, ops[i]? = some o ∧ isQ o.op = false ∧ (fl = true → predsAll ops listed i = true)) ∧ planOk ops t (listed.setIfInBounds i true) true = true
  | .z, _, _, i, fl, t, hm => by simp [branches] at hm
  | .q _ _, _, _, i, fl, t, hm => by simp [branches] at hm
  | .e, _, _, i, fl, t, hm => by simp [branches] at hm
  | .n i' fl' t' more, top, h, i, fl, t, hm => by
    simp only [planOk, Bool.and_eq_true] at h
    simp only [branches, List.mem_cons, Prod.mk.injEq] at hm
    rcases hm with ⟨rfl, rfl, rfl⟩ | hm
    · refine ⟨?_, h.1.2⟩
      have h1 := h.1.1.2
      split at h1
      · rename_i o ho
        simp only [Bool.and_eq_true, Bool.not_eq_true', Bool.or_eq_true] at h1
        exact ⟨o, ho, h1.1, fun hf => by rcases h1.2 with h2 | h2; (· rw [hf] at h2; cases h2); exact h2⟩
      · cases h1
    · exact planBs_mem more false h.2 i fl t hm
theorem planIx_mem : ∀ (tr : Tr) (i : Nat), i ∈ planIx tr → ∃ fl t, (i, fl, t) ∈ branches tr
  | .z, i, h => by simp [planIx] at h
  | .q _ _, i, h => by simp [planIx] at h
  | .e, i, h => by simp [planIx] at h
  | .n i' fl' t' more, i, h => by
    simp only [planIx, List.mem_cons] at h
    rcases h with rfl | h
    · exact ⟨fl', t', by simp [branches]⟩
    · obtain ⟨fl, t, hm⟩ := planIx_mem more i h
      exact ⟨fl, t, by simp [branches, hm]⟩
theorem evenBs_mem : ∀ (tr : Tr) (m : Nat), evenB tr (some m) = true → ∀ i fl t, (i, fl, t) ∈ branches tr → t.len = m ∧ evenB t none = true
  | .z, _, _, i, fl, t, hm => by simp [branches] at hm
  | .q _ _, _, _, i, fl, t, hm => by simp [branches] at hm
  | .e, _, _, i, fl, t, hm => by simp [branches] at hm
  | .n i' fl' t' more, m, h, i, fl, t, hm => by
    simp only [evenB, Bool.and_eq_true] at h
    have hl := Nat.eq_of_beq_eq_true h.1.1
    simp only [branches, List.mem_cons, Prod.mk.injEq] at hm
    rcases hm with ⟨rfl, rfl, rfl⟩ | hm
    · exact ⟨hl, h.1.2⟩
    · have := evenBs_mem more t'.len h.2 i fl t hm
      exact ⟨by omega, this.2⟩
theorem vcTr_sound {P : Program} {w : World} {T : Tab} {N : Nat} {all : List Oper} {Q : Exit → Act → World → Prop} {k : Env → List Ob → Nat → Prop} (hT : TabOk P T) (hsel : Region.noSelect all.toArray = true)
    (hQp : ∀ c a w, ¬ Q (.panic c) a w) (hQ : ∀ ρ env L nx a W, Kn w N ρ [] env L nx a W → k env L nx → Q .normal a W) :
    ∀ (fuel : Nat) (tr : Tr) (listed : Array Bool) (S : World → Prop) (ρ : Rho) (G : Gd) (env : Env) (L : List Ob) (nx : Nat) (a : Act) (W : World), tr.len = fuel → evenB tr none = true → Clo all.toArray listed →
      (∀ U U', S U → Below U.heap.size U U' → S U') → (∀ U, S U → Hp w ρ L nx U) → S W → Kn w N ρ G env L nx a W → planOk all.toArray tr listed true = true →
      vcTr P w T N all tr G env L nx k → wpAnyG P all.toArray Q (fun U => Below w.heap.size w U) fuel listed S a W := by
  intro fuel
  induction fuel with
  | zero =>
    intro tr listed S ρ G env L nx a W hlen hev hcl hst hSH hSW hk hpl h
    cases tr with
    | z =>
      have h' : clK env [] (fun env' => k env' L nx) := h
      obtain ⟨env', h1, h2⟩ := clK_sound h'
      refine ⟨by simpa [planOk] using hpl, ?_⟩
      exact hQ ρ env' L nx a W ⟨hk.fk.clean (fun t p v hl => ⟨(h2 t p v hl).1, (h2 t p v hl).2.2⟩), hk.hp, hk.dfr, hk.size⟩ h1
    | q i t => simp [Tr.len] at hlen
    | n i fl t more => simp [Tr.len] at hlen
    | e => simp [planOk] at hpl
  | succ fuel ih =>
    intro tr listed S ρ G env L nx a W hlen hev hclo hst hSH hSW hk hpl h
    have put_ok : ∀ (b : Act) (d : Option Tmp) (v : Value), (b.put d v).defers = b.defers ∧ (b.put d v).tmps.size = b.tmps.size := by
      intro b d v
      cases d <;> simp [Act.put]
    cases tr with
    | z => simp [Tr.len] at hlen
    | q i t =>
      have hlen' : t.len = fuel := by simpa [Tr.len] using hlen
      have hev' : evenB t none = true := by simpa [evenB] using hev
      have h' : nthK all i (fun o => gdK all env G o.guard (fun G cur => quietK T env (bif isM o.op then L else []) cur o.op (fun φ v => obG G cur φ (putK N G env o.dst cur v (fun env' => vcTr P w T N all t G env' L nx k))))) := h
      obtain ⟨o, hio, h0⟩ := nthK_sound h'
      clear h'
      obtain ⟨G', cur, h1, h2⟩ := gdK_sound h0
      obtain ⟨hf, hcl, hw⟩ := h2 ρ nx a hk.fk
      have hw := hw o rfl
      clear h h0 h2
      have hio' : all.toArray[i]? = some o := by simpa using hio
      simp only [planOk, hio', Bool.and_eq_true] at hpl
      obtain ⟨⟨hq, hpl1⟩, hpl2⟩ := hpl
      obtain ⟨φ, v, h3, h4⟩ := quietK_sound (P := P) (w := w) (nx := nx) hT h1
      obtain ⟨hφ, h5⟩ := obG_sound h4
      obtain ⟨env', h6, h7⟩ := putK_sound h5
      have hcut : ∀ U, Hp w ρ L nx U → Hp w ρ (bif isM o.op then L else []) nx U := by
        intro U hU
        cases isM o.op with
        | true => exact hU
        | false => exact ⟨hU.bel, by simp, .nil, by simp⟩
      have hy : YieldsIf P all.toArray S o (if holdsB G' cur then den ρ v else undef) a := by
        unfold YieldsIf
        rw [hw]
        cases hh : holdsB G' cur with
        | true => exact .inl ⟨rfl, fun U hU => (h3 ρ G' a U hf hh (hcut U (hSH U hU)) (hφ hh)).2 o rfl⟩
        | false => exact .inr ⟨rfl, by simp⟩
      have hyB : isM o.op = false → YieldsIf P all.toArray (fun U => Below w.heap.size w U) o (if holdsB G' cur then den ρ v else undef) a := by
        intro hM
        unfold YieldsIf
        rw [hw]
        cases hh : holdsB G' cur with
        | true => exact .inl ⟨rfl, fun U hU => (h3 ρ G' a U hf hh (by rw [hM]; exact ⟨hU, by simp, .nil, by simp⟩) (hφ hh)).2 o rfl⟩
        | false => exact .inr ⟨rfl, by simp⟩
      have hlt : holdsB G' cur = true → v.lt nx = true := fun hh => (h3 ρ G' a W hf hh (hcut W hk.hp) (hφ hh)).1
      have hf' := h7 ρ nx a hf hk.size hlt hcl
      have hir : i ∈ Region.ready .any all.toArray listed := by simpa using hpl1.1
      refine wpAnyG_first hio' (Region.noSelect_spec hsel) (fun c b u hb => absurd hb (hQp _ _ _)) fuel listed S a W (Region.free_spec hio' hpl1.2) hclo hir hy hyB (fun u hu => (hSH u hu).bel) hSW ?_
      exact ih t _ S ρ G' env' L nx _ W hlen' hev' (hclo.step hir) hst hSH hSW ⟨hf', hk.hp, (put_ok a _ _).1.trans hk.dfr, (put_ok a _ _).2.trans hk.size⟩ hpl2 h6
    | e => simp [planOk] at hpl
    | n i0 fl0 t0 more =>
      have hlen0 : t0.len = fuel := by simpa [Tr.len] using hlen
      have hev0 : evenB t0 none = true ∧ evenB more (some t0.len) = true := by simpa [evenB, Bool.and_eq_true] using hev
      have hr : Region.ready .any all.toArray listed = planIx (.n i0 fl0 t0 more) := by
        simp only [planOk, Bool.and_eq_true, Bool.not_true, Bool.false_or, beq_iff_eq] at hpl
        exact hpl.1.1.1
      refine ⟨(fun h0 => by rw [hr] at h0; simp [planIx] at h0), fun i hi => ?_⟩
      have hir := hi
      rw [hr] at hi
      obtain ⟨fl, t, hm⟩ := planIx_mem _ i hi
      have hB := vcBs_mem _ h i fl t hm
      obtain ⟨⟨o, hio', hq, hfl⟩, hpl2⟩ := planBs_mem _ true hpl i fl t hm
      have hle : t.len = fuel ∧ evenB t none = true := by
        simp only [branches, List.mem_cons, Prod.mk.injEq] at hm
        rcases hm with ⟨rfl, rfl, rfl⟩ | hm
        · exact ⟨hlen0, hev0.1⟩
        · have := evenBs_mem more t0.len hev0.2 i fl t hm
          exact ⟨by omega, this.2⟩
      obtain ⟨hlen', hev'⟩ := hle
      unfold oneK at hB
      obtain ⟨o2, hio, h0⟩ := nthK_sound hB
      have ho2 : o2 = o := by
        have : all[i]? = some o := by simpa using hio'
        rw [this] at hio
        injection hio with hio
        exact hio.symm
      subst ho2
      obtain ⟨G', cur, h1, h2⟩ := gdK_sound h0
      obtain ⟨hf, hcl, hw⟩ := h2 ρ nx a hk.fk
      have hw := hw o2 rfl
      clear h h0 h2 hB
      unfold wpOp
      simp only [hio']
      rw [hw]
      cases cur with
      | nil =>
        have h3 := nqK_sound hT h1
        rw [show holdsB G' [] = true from rfl, if_pos rfl]
        refine .inl (h3 ρ G' a W hf hk.hp _ _ ?_)
        rintro v W' ⟨hb, ρ', sv, L', nx', rfl, ha, hn, hlt, hp', hk'⟩
        obtain ⟨env', h6, h7⟩ := putK_sound hk'
        have hf' := h7 ρ' nx' a (hf.agree ha hn) hk.size (fun _ => hlt) (by simp)
        rw [show holdsB G' [] = true from rfl, if_pos rfl] at hf'
        have hkn : Kn w N ρ' G' env' L' nx' (a.put o2.dst (den ρ' sv)) W' := ⟨hf', hp', (put_ok a _ _).1.trans hk.dfr, (put_ok a _ _).2.trans hk.size⟩
        cases fl with
        | true =>
          refine ⟨fun U => Hp w ρ' L' nx' U, fun u hu => hu.bel, hp', .inr (hfl rfl), ?_⟩
          exact ih t _ _ ρ' G' env' L' nx' _ W' hlen' hev' (hclo.step hir) (fun U U' h h' => h.step h') (fun U h => h) hp' hkn hpl2 h6
        | false =>
          refine ⟨fun U => S U ∧ Hp w ρ' L' nx' U, fun u hu => hu.2.bel, ⟨hst W W' hSW (hb rfl), hp'⟩, .inl (fun u h => h.1), ?_⟩
          exact ih t _ _ ρ' G' env' L' nx' _ W' hlen' hev' (hclo.step hir) (fun U U' h h' => ⟨hst U U' h.1 h', h.2.step h'⟩) (fun U h => h.2) ⟨hst W W' hSW (hb rfl), hp'⟩ hkn hpl2 h6
      | cons c cs =>
        simp only at h1
        unfold gcK at h1
        split at h1
        · rename_i cc hop
          obtain ⟨callee, args, ts⟩ := cc
          simp only at h1
          split at h1
          · rename_i f
            obtain ⟨fv, h3, hfv⟩ := evK_sound h1
            split at h3
            · rename_i fn caps
              obtain ⟨vs, h4, hvs⟩ := evsK_sound h3
              have h5 := appK_sound h4
              obtain ⟨q, h6, hq6⟩ := condK_sound h5
              obtain ⟨v, hlt, hgo, h8⟩ := h6.go
              obtain ⟨env', h9, h10⟩ := putK_sound h8
              cases hh : holdsB G' (c :: cs) with
              | true =>
                have e1 := hfv ρ G' nx a hf hh
                have e2 := hvs ρ G' nx a hf hh
                have hlta : ltL nx (vs ++ caps) = true := by
                  rw [ltL_iff]
                  intro x hx
                  rcases List.mem_append.1 hx with hx | hx
                  · exact (ltL_iff _ _).1 e2.2 x hx
                  · exact (ltL_iff _ _).1 (by simpa [SV.lt] using e1.2) x hx
                have hargs : (args.map a.eval) ++ (denL ρ caps).toArray = (denL ρ (vs ++ caps)).toArray := by
                  apply Array.ext'
                  simp only [Array.toList_append, Array.toList_map, e2.1]
                  simp [denL_map]
                rw [if_pos rfl]
                refine .inl ?_
                unfold Oper.wp
                have hrun : (execOp a.eval o2).run P W = .ok (.enter fn (denL ρ (vs ++ caps)).toArray) W := by
                  simp only [execOp, hop, resolve, e1.1, den]
                  simp [Deferred.ofValue, invoke, hargs, h6.ent]
                rw [hrun]
                refine (hgo (hq6 hh) ρ W hk.hp hlta).mono fun e W' he => ?_
                obtain ⟨rfl, hb'⟩ := he
                have hp' := hk.hp.step hb'
                have hf' := h10 ρ nx a hf hk.size (fun _ => hlt) hcl
                rw [hh] at hf'
                refine ⟨S, fun u hu => (hSH u hu).bel, hst W W' hSW hb', .inl (fun _ h => h), ?_⟩
                exact ih t _ S ρ G' env' L nx _ W' hlen' hev' (hclo.step hir) hst hSH (hst W W' hSW hb') ⟨hf', hp', (put_ok a _ _).1.trans hk.dfr, (put_ok a _ _).2.trans hk.size⟩ hpl2 h9
              | false =>
                rw [if_neg (by simp)]
                have hf' := h10 ρ nx a hf hk.size (fun hb => by rw [hh] at hb; cases hb) hcl
                rw [hh] at hf'
                refine ⟨S, fun u hu => (hSH u hu).bel, hSW, .inl (fun _ h => h), ?_⟩
                exact ih t _ S ρ G' env' L nx _ W hlen' hev' (hclo.step hir) hst hSH hSW ⟨by simpa using hf', hk.hp, (put_ok a _ _).1.trans hk.dfr, (put_ok a _ _).2.trans hk.size⟩ hpl2 h9
            · exact h3.elim
          · exact h1.elim
        · exact h1.elim
abbrev K3 := Env → List Ob → Nat → Prop
/-- What is known in (e, l, n) is enough for (e0, l0, n0). -/
def Sub (e0 : Env) (l0 : List Ob) (n0 : Nat) (e : Env) (l : List Ob) (n : Nat) : Prop :=
  ∀ w N ρ a W, Kn w N ρ [] e l n a W → ∃ ρ0, Kn w N ρ0 [] e0 l0 n0 a W
theorem Sub.refl (e : Env) (l : List Ob) (n : Nat) : Sub e l n e l n := fun _ _ ρ _ _ h => ⟨ρ, h⟩
def Wk (k : K3) (e : Env) (l : List Ob) (n : Nat) : Prop := ∃ e0 l0 n0, k e0 l0 n0 ∧ Sub e0 l0 n0 e l n
theorem Wk.self {k : K3} {e : Env} {l : List Ob} {n : Nat} (h : k e l n) : Wk k e l n := ⟨e, l, n, h, Sub.refl e l n⟩

/-- A region whose order is drawn stands next: give orders, and what is known behind them. -/
structure EvDraw (P : Program) (w : World) (T : Tab) (N : Nat) (id : Nat) (ops : List Oper) (env : Env) (L : List Ob) (nx : Nat) (k : Env → List Ob → Nat → Prop) : Prop where
  go : ∃ tr, planB ops tr = true ∧ ∃ k' : K3, vcTr P w T N ops tr [] env L nx k' ∧ ∀ e l n, k' e l n → Wk k e l n
theorem EvDraw.sound {P : Program} {w : World} {T : Tab} {N id : Nat} {ops : List Oper} {env : Env} {L : List Ob} {nx : Nat} {k : Env → List Ob → Nat → Prop} (hT : TabOk P T) (hm : P.follows .mixedOrders = true)
    {Q : Exit → Act → World → Prop} (hQ : ∀ ρ env L nx a W, Kn w N ρ [] env L nx a W → k env L nx → Q .normal a W) (h : EvDraw P w T N id ops env L nx k) {ρ : Rho} {a : Act} {W : World} (hk : Kn w N ρ [] env L nx a W) :
    (Code.region id ops.toArray true).wp P Q a W := by
  obtain ⟨ord, hpl, k', h1, hwk⟩ := h.go
  have hQ' : ∀ ρ env L nx a W, Kn w N ρ [] env L nx a W → k' env L nx → Q .normal a W := by
    intro ρ env L nx a W hk hk'
    obtain ⟨e0, l0, n0, h4, h5⟩ := hwk env L nx hk'
    obtain ⟨ρ0, h6⟩ := h5 w N ρ a W hk
    exact hQ ρ0 e0 l0 n0 a W h6 h4
  simp only [planB, Bool.and_eq_true] at hpl
  obtain ⟨⟨⟨hl, hs⟩, hev⟩, hpo⟩ := hpl
  have hl := Nat.eq_of_beq_eq_true hl
  refine Code.wp_mono NoP.imp (wp_region_any hm (wpAny_of_G (B0 := fun U => Below w.heap.size w U) _ _ (fun U => Hp w ρ L nx U) _ _ ?_))
  have hd : Hp w ρ L nx { W with drawn := W.drawn + 1 } := hk.hp.drewN 1
  have := vcTr_sound (Q := NoP Q) hT hs (fun c a w h => h) (fun ρ env L nx a W hk h => hQ' ρ env L nx a W hk h) ord.len ord (Array.replicate ops.length false) (fun U => Hp w ρ L nx U) ρ [] env L nx a { W with drawn := W.drawn + 1 }
    rfl hev (Clo.start _ _) (fun U U' h h' => h.step h') (fun U h => h) hd ⟨hk.fk, hd, hk.dfr, hk.size⟩ hpo h1
  rw [hl] at this
  simpa using this
theorem EvDraw.one {P : Program} {w : World} {T : Tab} {N id : Nat} {ops : List Oper} {env : Env} {L : List Ob} {nx : Nat} {k : K3} (tr : Tr) (hp : planB ops tr = true) (h : vcTr P w T N ops tr [] env L nx k) : EvDraw P w T N id ops env L nx k :=
  ⟨tr, hp, k, h, fun _ _ _ h => Wk.self h⟩
/-- The states of a meeting of ways over x : α. -/
def JoinI {α : Type} (R : α → Prop) (E : α → Env) (O : α → List Ob) (n0 : Nat) : K3 := fun e l n => ∃ x, R x ∧ Sub (E x) (O x) n0 e l n
theorem EvDraw.meet {P : Program} {w : World} {T : Tab} {N id : Nat} {ops : List Oper} {env : Env} {L : List Ob} {nx : Nat} {k : K3} (tr : Tr) (hp : planB ops tr = true) {α : Type} (R : α → Prop) (E : α → Env) (O : α → List Ob) (n0 : Nat)
    (h : vcTr P w T N ops tr [] env L nx (JoinI R E O n0)) (h3 : ∀ x, R x → k (E x) (O x) n0) : EvDraw P w T N id ops env L nx k :=
  ⟨tr, hp, _, h, fun e l n ⟨x, hx, hs⟩ => ⟨_, _, _, h3 x hx, hs⟩⟩
end Go.Proofs.Ytofekfpbljihiaa
