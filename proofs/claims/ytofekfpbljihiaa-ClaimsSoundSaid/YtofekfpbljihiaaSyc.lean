/- The symbolic machine: a region in the order of its text. No program in sight. -/
import Derived.Test.YtofekfpbljihiaaSyb
import Derived.Tactics
namespace Go.Proofs.Ytofekfpbljihiaa
open Go.RowKit
set_option linter.unusedVariables false
set_option linter.unusedSimpArgs false
set_option linter.unnecessarySimpa false

/-- A call of a Go function that is made under a condition, and only yields a value. -/
structure EvCallC (c : Prop) (P : Program) (w : World) (f : FuncId) (args : List SV) (L : List Ob) (nx : Nat) (k : SV → Prop) : Prop where
  ent : ∀ args W, (callFunc f args).run P W = .ok (.enter f args) W
  go : ∃ v : SV, v.lt nx = true ∧ (c → ∀ ρ W, Hp w ρ L nx W → ltL nx args = true → Calls P f (denL ρ args).toArray W (fun e W' => e = .returned (den ρ v) ∧ Below W.heap.size W W')) ∧ k v

def condK (G : Gd) : Pth → (Prop → Prop) → Prop
  | [], k => k True
  | [(s, want)], k => ofK (lkG G s) (fun b => k (b = want))
  | (s, want) :: x :: r, k => ofK (lkG G s) (fun b => condK G (x :: r) (fun c => k (b = want ∧ c)))
theorem condK_sound {G : Gd} : ∀ {p : Pth} {k : Prop → Prop}, condK G p k → ∃ c, k c ∧ (holdsB G p = true → c)
  | [], k, h => ⟨True, h, fun _ => trivial⟩
  | [(s, want)], k, h => by
    obtain ⟨b, h1, h2⟩ := ofK_sound h
    exact ⟨_, h2, fun hh => by simpa [holdsB, h1] using hh⟩
  | (s, want) :: x :: r, k, h => by
    obtain ⟨b, h1, h2⟩ := ofK_sound h
    obtain ⟨c, h3, h4⟩ := condK_sound h2
    refine ⟨_, h3, fun hh => ?_⟩
    simp only [holdsB, List.all_cons, h1, Bool.and_eq_true] at hh
    exact ⟨by simpa using hh.1, h4 (by simpa [holdsB] using hh.2)⟩
def obG (G : Gd) (cur : Pth) (φ : Option Prop) (X : Prop) : Prop :=
  match φ with
  | none => X
  | some φ => (match cur with
    | [] => φ ∧ X
    | c :: cs => condK G (c :: cs) (fun q => (q → φ) ∧ X))
theorem obG_sound {G : Gd} {cur : Pth} {φ : Option Prop} {X : Prop} (h : obG G cur φ X) : (holdsB G cur = true → optP φ) ∧ X := by
  unfold obG at h
  split at h
  · exact ⟨fun _ => trivial, h⟩
  · split at h
    · exact ⟨fun _ => h.1, h.2⟩
    · obtain ⟨c, h1, h2⟩ := condK_sound h
      exact ⟨fun hh => h1.1 (h2 hh), h1.2⟩
def putK (N : Nat) (G : Gd) (env : Env) (dst : Option Tmp) (p : Pth) (v : SV) (k : Env → Prop) : Prop :=
  match dst with
  | none => k env
  | some d => bif Nat.blt d N && (lkG G d).isNone then k ((d, p, v) :: env) else False
theorem putK_sound {N : Nat} {G : Gd} {env : Env} {dst : Option Tmp} {p : Pth} {v : SV} {k : Env → Prop} (h : putK N G env dst p v k) : ∃ env', k env' ∧
    ∀ ρ nx a, Fk ρ G env nx a → a.tmps.size = N → (holdsB G p = true → v.lt nx = true) → (∀ x ∈ p, (lkG G x.1).isSome = true) → Fk ρ G env' nx (a.put dst (if holdsB G p then den ρ v else undef)) := by
  unfold putK at h
  split at h
  · exact ⟨env, h, fun ρ nx a hf _ _ _ => hf⟩
  · rename_i d
    cases hb : (Nat.blt d N && (lkG G d).isNone) with
    | false => rw [hb] at h; exact h.elim
    | true =>
      rw [hb] at h
      simp only [Bool.and_eq_true, blt_iff, Option.isNone_iff_eq_none] at hb
      exact ⟨_, h, fun ρ nx a hf hN hv hp => hf.put (by omega) hb.2 hv hp⟩
def gdK (all : List Oper) (env : Env) (G : Gd) (g : Option (Nat × Bool)) (k : Gd → Pth → Prop) : Prop :=
  match g with
  | none => k G []
  | some (j, want) => nthK all j (fun oj => match oj.dst with
    | some s => lkK env s (fun ps vs => asB vs (fun b => match lkG G s with
      | some _ => k G ((s, want) :: ps)
      | none => k ((s, b) :: G) ((s, want) :: ps)))
    | none => False)
theorem undef_nb (b : Bool) : undef ≠ .bool b := by
  simp [undef]
theorem gdK_sound {all : List Oper} {env : Env} {G : Gd} {g : Option (Nat × Bool)} {k : Gd → Pth → Prop} (h : gdK all env G g k) : ∃ G' cur, k G' cur ∧ ∀ ρ nx a, Fk ρ G env nx a →
    Fk ρ G' env nx a ∧ (∀ x ∈ cur, (lkG G' x.1).isSome = true) ∧ ∀ o : Oper, o.guard = g → Region.wanted o (yielded all.toArray a.tmps) = holdsB G' cur := by
  unfold gdK at h
  split at h
  · exact ⟨G, [], h, fun ρ nx a hf => ⟨hf, by simp, fun o ho => by simp [Region.wanted, ho, holdsB]⟩⟩
  · rename_i j want
    obtain ⟨oj, h1, h2⟩ := nthK_sound h
    clear h
    split at h2
    · rename_i s hs
      obtain ⟨ps, vs, h3, h4⟩ := lkK_sound h2
      obtain ⟨b, rfl, h5⟩ := asB_sound h4
      clear h2 h4
      have key : ∀ (G' : Gd) ρ nx a, Fk ρ G' env nx a → lkG G' s = some b → (∀ x ∈ ((s, want) :: ps : Pth), (lkG G' x.1).isSome = true) ∧ ∀ o : Oper, o.guard = some (j, want) → Region.wanted o (yielded all.toArray a.tmps) = holdsB G' ((s, want) :: ps) := by
        intro G' ρ nx a hf hb
        refine ⟨?_, fun o ho => ?_⟩
        · intro x hx
          rcases List.mem_cons.1 hx with rfl | hx
          · simp [hb]
          · exact hf.clo s ps _ h3 x hx
        · have hsl := hf.slots s ps _ h3
          have hy : yielded all.toArray a.tmps j = if holdsB G' ps then some b else none := by
            simp only [yielded, List.getElem?_toArray, h1, Option.bind_some, hs, hsl]
            cases holdsB G' ps with
            | true => simp [den]
            | false =>
              simp only [Bool.false_eq_true, if_false]
              rfl
          have hc : holdsB G' ((s, want) :: ps) = (b == want && holdsB G' ps) := by
            unfold holdsB
            simp only [List.all_cons, hb]
          rw [hc]
          simp only [Region.wanted, ho, hy]
          cases holdsB G' ps with
          | true => simp
          | false => simp
      split at h5
      · rename_i b' hb'
        refine ⟨G, _, h5, fun ρ nx a hf => ?_⟩
        have hbb : lkG G s = some b := by
          obtain ⟨p', hp'⟩ := hf.gok s b' hb'
          rw [h3] at hp'
          simp at hp'
          rw [hb', hp'.2]
        exact ⟨hf, key G ρ nx a hf hbb⟩
      · rename_i hb'
        refine ⟨_, _, h5, fun ρ nx a hf => ?_⟩
        have hf' := hf.addG hb' h3
        exact ⟨hf', key _ ρ nx a hf' (by simp [lkG])⟩
    · exact h2.elim
/-- Only what holds without condition is kept behind a region. -/
def clK : Env → List Nat → (Env → Prop) → Prop
  | [], _, k => k []
  | (t, p, v) :: r, dr, k => match p with
    | [] => (match dr with
      | [] => clK r [] (fun l => k ((t, [], v) :: l))
      | d :: ds => bif List.any (d :: ds) (Nat.beq t) then clK r (d :: ds) k else clK r (d :: ds) (fun l => k ((t, [], v) :: l)))
    | _ :: _ => clK r (t :: dr) k
theorem clK_sound : ∀ {env : Env} {dr : List Nat} {k : Env → Prop}, clK env dr k → ∃ env', k env' ∧ ∀ t p v, lk env' t = some (p, v) → p = [] ∧ t ∉ dr ∧ lk env t = some (p, v)
  | [], dr, k, h => ⟨[], h, fun t p v hl => by simp [lk] at hl⟩
  | (t, p, v) :: r, dr, k, h => by
    have lkc : ∀ (p : Pth) (v : SV) (r : Env) (t' : Nat), lk ((t, p, v) :: r) t' = if t = t' then some (p, v) else lk r t' := by
      intro p v r t'
      simp only [lk]
      cases hb : Nat.beq t t' with
      | true => simp [Nat.eq_of_beq_eq_true hb]
      | false => simp [Nat.ne_of_beq_eq_false hb]
    have keepC : ∀ (dr : List Nat), t ∉ dr → clK r dr (fun l => k ((t, [], v) :: l)) → ∃ env', k env' ∧ ∀ t' p' v', lk env' t' = some (p', v') → p' = [] ∧ t' ∉ dr ∧ lk ((t, [], v) :: r) t' = some (p', v') := by
      intro dr hdr h
      obtain ⟨env', h1, h2⟩ := clK_sound h
      refine ⟨_, h1, fun t' p' v' hl => ?_⟩
      rw [lkc] at hl ⊢
      split at hl
      · rename_i e
        subst e
        simp at hl
        obtain ⟨rfl, rfl⟩ := hl
        exact ⟨rfl, hdr, by simp⟩
      · rename_i e
        obtain ⟨a1, a2, a3⟩ := h2 t' p' v' hl
        exact ⟨a1, a2, by rw [if_neg e]; exact a3⟩
    cases p with
    | nil =>
      cases dr with
      | nil => exact keepC [] (by simp) h
      | cons d ds =>
        simp only [clK] at h
        cases hb : List.any (d :: ds) (Nat.beq t) with
        | true =>
          rw [hb] at h
          obtain ⟨env', h1, h2⟩ := clK_sound h
          refine ⟨env', h1, fun t' p' v' hl => ?_⟩
          obtain ⟨a1, a2, a3⟩ := h2 t' p' v' hl
          refine ⟨a1, a2, ?_⟩
          rw [lkc, if_neg]
          · exact a3
          · rintro rfl
            obtain ⟨y, hy, e⟩ := List.any_eq_true.1 hb
            have := Nat.eq_of_beq_eq_true e
            subst this
            exact a2 hy
        | false =>
          rw [hb] at h
          refine keepC (d :: ds) ?_ h
          intro hm
          have := List.any_eq_false.1 hb t hm
          simp at this
    | cons x xs =>
      simp only [clK] at h
      obtain ⟨env', h1, h2⟩ := clK_sound h
      refine ⟨env', h1, fun t' p' v' hl => ?_⟩
      obtain ⟨a1, a2, a3⟩ := h2 t' p' v' hl
      simp at a2
      refine ⟨a1, a2.2, ?_⟩
      rw [lkc, if_neg (fun e => a2.1 e.symm)]
      exact a3
theorem Fk.clean {ρ : Rho} {G : Gd} {env env' : Env} {nx : Nat} {a : Act} (h : Fk ρ G env nx a) (he : ∀ t p v, lk env' t = some (p, v) → p = [] ∧ lk env t = some (p, v)) : Fk ρ [] env' nx a := by
  refine ⟨?_, fun s b hs => by simp [lkG] at hs, ?_, ?_⟩
  · intro t p v hl
    obtain ⟨rfl, h1⟩ := he t p v hl
    have := h.slots t [] v h1
    simpa [holdsB] using this
  · intro t p v hl
    obtain ⟨rfl, h1⟩ := he t p v hl
    simp
  · intro t p v hl
    obtain ⟨rfl, h1⟩ := he t p v hl
    intro _
    exact h.lt t [] v h1 rfl

/-- A guarded call. -/
def gcK (P : Program) (w : World) (env : Env) (G : Gd) (L : List Ob) (nx : Nat) (cur : Pth) (o : Oper) (k : SV → Prop) : Prop :=
  match o.op with
  | .call c => (match c.callee with
    | .value f => evK env cur f (fun fv => match fv with
      | .f fn caps => evsK env cur c.args.toList (fun vs => appK vs caps (fun as => condK G cur (fun q => EvCallC q P w fn as L nx k)))
      | _ => False)
    | _ => False)
  | _ => False
/-- One operation, then ih. -/
def opK (P : Program) (w : World) (T : Tab) (N : Nat) (all : List Oper) (o : Oper) (ih : Gd → Env → List Ob → Nat → (Env → List Ob → Nat → Prop) → Prop) (G : Gd) (env : Env) (L : List Ob) (nx : Nat) (k : Env → List Ob → Nat → Prop) : Prop :=
  gdK all env G o.guard (fun G cur =>
    bif isQ o.op then quietK T env L cur o.op (fun φ v => obG G cur φ (putK N G env o.dst cur v (fun env' => ih G env' L nx k)))
    else match cur with
      | [] => nqK false P w T env L nx o (fun v L' nx' => putK N G env o.dst [] v (fun env' => ih G env' L' nx' k))
      | c :: cs => gcK P w env G L nx (c :: cs) o (fun v => putK N G env o.dst (c :: cs) v (fun env' => ih G env' L nx k)))
/-- (By the recursor itself: so that what is left of it reads alike to Lean and to its kernel.) -/
noncomputable def vcOps (P : Program) (w : World) (T : Tab) (N : Nat) (all : List Oper) (l : List Oper) : Gd → Env → List Ob → Nat → (Env → List Ob → Nat → Prop) → Prop :=
  @List.rec Oper (fun _ => Gd → Env → List Ob → Nat → (Env → List Ob → Nat → Prop) → Prop) (fun _ env L nx k => clK env [] (fun env' => k env' L nx)) (fun o _ ih => opK P w T N all o ih) l

theorem vcOps_sound {P : Program} {w : World} {T : Tab} {N : Nat} {all : List Oper} {Q : Exit → Act → World → Prop} {k : Env → List Ob → Nat → Prop} (hT : TabOk P T)
    (hQ : ∀ ρ env L nx a W, Kn w N ρ [] env L nx a W → k env L nx → Q .normal a W) :
    ∀ (l : List Oper) (ρ : Rho) (G : Gd) (env : Env) (L : List Ob) (nx : Nat) (a : Act) (W : World), Kn w N ρ G env L nx a W → vcOps P w T N all l G env L nx k → wpList P all.toArray Q l a W
  | [], ρ, G, env, L, nx, a, W, hk, h => by
    obtain ⟨env', h1, h2⟩ := clK_sound h
    exact hQ ρ env' L nx a W ⟨hk.fk.clean (fun t p v hl => ⟨(h2 t p v hl).1, (h2 t p v hl).2.2⟩), hk.hp, hk.dfr, hk.size⟩ h1
  | o :: r, ρ, G, env, L, nx, a, W, hk, h => by
    have h' : opK P w T N all o (vcOps P w T N all r) G env L nx k := h
    unfold opK at h'
    clear h
    obtain ⟨G', cur, h1, h2⟩ := gdK_sound h'
    obtain ⟨hf, hcl, hw⟩ := h2 ρ nx a hk.fk
    have hw := hw o rfl
    clear h' h2
    refine wpList_step fun K hK => ?_
    rw [hw]
    have put_ok : ∀ (b : Act) (d : Option Tmp) (v : Value), (b.put d v).defers = b.defers ∧ (b.put d v).tmps.size = b.tmps.size := by
      intro b d v
      cases d <;> simp [Act.put]
    cases hq : isQ o.op with
    | true =>
      rw [hq] at h1
      simp only [cond_true] at h1
      obtain ⟨φ, v, h3, h4⟩ := quietK_sound (P := P) (w := w) (nx := nx) hT h1
      obtain ⟨hφ, h5⟩ := obG_sound h4
      obtain ⟨env', h6, h7⟩ := putK_sound h5
      cases hh : holdsB G' cur with
      | true =>
        obtain ⟨hlt, hrun⟩ := h3 ρ G' a W hf hh hk.hp (hφ hh)
        have hf' := h7 ρ nx a hf hk.size (fun _ => hlt) hcl
        rw [hh] at hf'
        rw [if_pos rfl]
        unfold Oper.wp
        rw [hrun o rfl]
        exact hK _ _ (vcOps_sound hT hQ r ρ G' env' L nx _ W ⟨hf', hk.hp, (put_ok a _ _).1.trans hk.dfr, (put_ok a _ _).2.trans hk.size⟩ h6)
      | false =>
        rw [if_neg (by simp)]
        have hsk : Fk ρ G' env' nx (a.put o.dst undef) := by
          have := h7 ρ nx a hf hk.size (fun hb => by rw [hh] at hb; cases hb) hcl
          rw [hh] at this
          simpa using this
        exact hK _ _ (vcOps_sound hT hQ r ρ G' env' L nx _ W ⟨hsk, hk.hp, (put_ok a _ _).1.trans hk.dfr, (put_ok a _ _).2.trans hk.size⟩ h6)
    | false =>
      rw [hq] at h1
      simp only [cond_false] at h1
      cases cur with
      | nil =>
        have h3 := nqK_sound hT h1
        rw [show holdsB G' [] = true from rfl, if_pos rfl]
        refine h3 ρ G' a W hf hk.hp _ _ ?_
        rintro v W' ⟨-, ρ', sv, L', nx', rfl, ha, hn, hlt, hp', hk'⟩
        obtain ⟨env', h6, h7⟩ := putK_sound hk'
        have hf' := h7 ρ' nx' a (hf.agree ha hn) hk.size (fun _ => hlt) (by simp)
        rw [show holdsB G' [] = true from rfl, if_pos rfl] at hf'
        exact hK _ _ (vcOps_sound hT hQ r ρ' G' env' L' nx' _ W' ⟨hf', hp', (put_ok a _ _).1.trans hk.dfr, (put_ok a _ _).2.trans hk.size⟩ h6)
      | cons c cs =>
        simp only at h1
        unfold gcK at h1
        split at h1
        · rename_i cc hop
          obtain ⟨callee, args, ts⟩ := cc
          simp only at h1
          split at h1
          · rename_i f
            obtain ⟨fv, h3, hfv⟩ := evK_sound h1
            split at h3
            · rename_i fn caps
              obtain ⟨vs, h4, hvs⟩ := evsK_sound h3
              have h5 := appK_sound h4
              obtain ⟨q, h6, hq6⟩ := condK_sound h5
              obtain ⟨v, hlt, hgo, h8⟩ := h6.go
              obtain ⟨env', h9, h10⟩ := putK_sound h8
              cases hh : holdsB G' (c :: cs) with
              | true =>
                have e1 := hfv ρ G' nx a hf hh
                have e2 := hvs ρ G' nx a hf hh
                have hlta : ltL nx (vs ++ caps) = true := by
                  rw [ltL_iff]
                  intro x hx
                  rcases List.mem_append.1 hx with hx | hx
                  · exact (ltL_iff _ _).1 e2.2 x hx
                  · exact (ltL_iff _ _).1 (by simpa [SV.lt] using e1.2) x hx
                have hargs : (args.map a.eval) ++ (denL ρ caps).toArray = (denL ρ (vs ++ caps)).toArray := by
                  apply Array.ext'
                  simp only [Array.toList_append, Array.toList_map, e2.1]
                  simp [denL_map]
                rw [if_pos rfl]
                unfold Oper.wp
                have hrun : (execOp a.eval o).run P W = .ok (.enter fn (denL ρ (vs ++ caps)).toArray) W := by
                  simp only [execOp, hop, resolve, e1.1, den]
                  simp [Deferred.ofValue, invoke, hargs, h6.ent]
                rw [hrun]
                refine (hgo (hq6 hh) ρ W hk.hp hlta).mono fun e W' he => ?_
                obtain ⟨rfl, hb'⟩ := he
                have hp' := hk.hp.step hb'
                have hf' := h10 ρ nx a hf hk.size (fun _ => hlt) hcl
                rw [hh] at hf'
                exact hK _ _ (vcOps_sound hT hQ r ρ G' env' L nx _ W' ⟨hf', hp', (put_ok a _ _).1.trans hk.dfr, (put_ok a _ _).2.trans hk.size⟩ h9)
              | false =>
                rw [if_neg (by simp)]
                have hf' := h10 ρ nx a hf hk.size (fun hb => by rw [hh] at hb; cases hb) hcl
                rw [hh] at hf'
                exact hK _ _ (vcOps_sound hT hQ r ρ G' env' L nx _ W ⟨by simpa using hf', hk.hp, (put_ok a _ _).1.trans hk.dfr, (put_ok a _ _).2.trans hk.size⟩ h9)
            · exact h3.elim
          · exact h1.elim
        · exact h1.elim
end Go.Proofs.Ytofekfpbljihiaa
