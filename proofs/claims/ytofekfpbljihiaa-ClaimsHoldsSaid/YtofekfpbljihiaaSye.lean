/- The symbolic machine: code, loops, calls and returns. No program in sight. -/
import Derived.Test.YtofekfpbljihiaaSyd
import Derived.LoopN
namespace Go.Proofs.Ytofekfpbljihiaa
open Go.RowKit
set_option linter.unusedVariables false
set_option linter.unusedSimpArgs false
set_option linter.unnecessarySimpa false

/-- A test stands next. -/
structure EvIf (b : Bool) (X Y : K3 → Prop) (kn : K3) : Prop where
  go : ∃ k' : K3, (b = true → X k') ∧ (b = false → Y k') ∧ ∀ e l n, k' e l n → Wk kn e l n
theorem EvIf.split {b : Bool} {X Y : K3 → Prop} {kn : K3} (h1 : b = true → X kn) (h2 : b = false → Y kn) : EvIf b X Y kn := ⟨kn, h1, h2, fun _ _ _ h => Wk.self h⟩
theorem EvIf.pos {b : Bool} {X Y : K3 → Prop} {kn : K3} (hb : b = true) (h1 : X kn) : EvIf b X Y kn := .split (fun _ => h1) (fun h => by rw [hb] at h; cases h)
theorem EvIf.neg {b : Bool} {X Y : K3 → Prop} {kn : K3} (hb : b = false) (h1 : Y kn) : EvIf b X Y kn := .split (fun h => by rw [hb] at h; cases h) (fun _ => h1)
/-- The two ways meet again in k'. -/
theorem EvIf.join {b : Bool} {X Y : K3 → Prop} {kn : K3} (k' : K3) (h1 : b = true → X k') (h2 : b = false → Y k') (h3 : ∀ e l n, k' e l n → Wk kn e l n) : EvIf b X Y kn := ⟨k', h1, h2, h3⟩
/-- A few rounds of a loop, one by one. -/
def RoundN (body : K3 → K3) : Nat → K3
  | 0, _, _, _ => False
  | r + 1, e, l, n => body (fun e l n => RoundN body r e l n) e l n
/-- A loop stands next. -/
structure EvLoop (body : K3 → K3) (env : Env) (L : List Ob) (nx : Nat) : Prop where
  go : (∃ I : Nat → K3, (∃ m, Wk (I m) env L nx) ∧ ∀ m e l n, I m e l n → body (fun e' l' n' => ∃ m', m' < m ∧ Wk (I m') e' l' n') e l n) ∨ ∃ r, RoundN body r env L nx
theorem EvLoop.rounds {body : K3 → K3} {env : Env} {L : List Ob} {nx : Nat} (r : Nat) (h : RoundN body r env L nx) : EvLoop body env L nx := ⟨.inr ⟨r, h⟩⟩
/-- The states of a loop's head over x : α; everything that is known there is typed out. -/
def LoopI {α : Type} (R : α → Prop) (m : α → Nat) (E : α → Env) (O : α → List Ob) (n0 : Nat) (i : Nat) : K3 := fun e l n => ∃ x, R x ∧ m x = i ∧ e = E x ∧ l = O x ∧ n = n0
theorem EvLoop.inv {body : K3 → K3} {env : Env} {L : List Ob} {nx : Nat} {α : Type} (R : α → Prop) (m : α → Nat) (E : α → Env) (O : α → List Ob) (n0 : Nat)
    (x0 : α) (h0 : R x0) (hs : Sub (E x0) (O x0) n0 env L nx) (hb : ∀ x, R x → body (fun e l n => ∃ m', m' < m x ∧ Wk (LoopI R m E O n0 m') e l n) (E x) (O x) n0) : EvLoop body env L nx :=
  ⟨.inl ⟨LoopI R m E O n0, ⟨m x0, _, _, _, ⟨x0, h0, rfl, rfl, rfl, rfl⟩, hs⟩, by
    rintro i e l n ⟨x, hx, rfl, rfl, rfl, rfl⟩
    exact hb x hx⟩⟩
theorem LoopI.back {α : Type} {R : α → Prop} {m : α → Nat} {E : α → Env} {O : α → List Ob} {n0 i : Nat} {e : Env} {l : List Ob} {n : Nat} (y : α) (hy : R y) (hm : m y < i) (hs : Sub (E y) (O y) n0 e l n) :
    ∃ m', m' < i ∧ Wk (LoopI R m E O n0 m') e l n := ⟨m y, hm, _, _, _, ⟨y, hy, rfl, rfl, rfl, rfl⟩, hs⟩
theorem EvIf.meet {b : Bool} {X Y : K3 → Prop} {kn : K3} {α : Type} (R : α → Prop) (E : α → Env) (O : α → List Ob) (n0 : Nat) (h1 : b = true → X (JoinI R E O n0)) (h2 : b = false → Y (JoinI R E O n0))
    (h3 : ∀ x, R x → kn (E x) (O x) n0) : EvIf b X Y kn := .join _ h1 h2 fun e l n ⟨x, hx, hs⟩ => ⟨_, _, _, h3 x hx, hs⟩

noncomputable def vcC (P : Program) (w : World) (T : Tab) (N : Nat) (c : Code) : K3 → (Nat → K3) → K3 → K3 :=
  @Code.rec (fun _ => K3 → (Nat → K3) → K3 → K3)
    (fun kn _ _ env L nx => kn env L nx)
    (fun id ops draw kn _ _ env L nx => bif draw then EvDraw P w T N id ops.toList env L nx kn else vcOps P w T N ops.toList ops.toList [] env L nx kn)
    (fun _ _ iha ihb kn ke kr env L nx => iha (fun env L nx => ihb kn ke kr env L nx) ke kr env L nx)
    (fun c _ _ ihx ihy kn ke kr env L nx => evK env [] c (fun v => asB v (fun b => EvIf b (fun k => ihx k ke kr env L nx) (fun k => ihy k ke kr env L nx) kn)))
    (fun id _ ih kn ke kr env L nx => ih kn (fun i e l n => bif Nat.beq i id then kn e l n else ke i e l n) kr env L nx)
    (fun _ ih _ ke kr env L nx => EvLoop (fun k e l n => ih k ke kr e l n) env L nx)
    (fun _ _ _ _ _ _ _ _ _ _ _ _ => False)
    (fun id _ ke _ env L nx => ke id env L nx)
    (fun _ _ _ _ _ _ _ _ => False)
    (fun _ _ _ _ _ _ _ => False)
    (fun _ _ _ _ _ _ _ => False)
    (fun _ _ kr env L nx => kr env L nx)
    (fun _ _ _ _ _ _ _ => False) c

theorem least_of {p : Nat → Prop} (h : ∃ n, p n) : ∃ n, p n ∧ ∀ m, m < n → ¬ p m := by
  obtain ⟨n, hn⟩ := h
  induction n using Nat.strongRecOn with
  | _ n ih =>
    by_cases hm : ∃ m, m < n ∧ p m
    · obtain ⟨m, h1, h2⟩ := hm
      exact ih m h1 h2
    · exact ⟨n, hn, fun m h1 h2 => hm ⟨m, h1, h2⟩⟩
theorem wp_loop_ix {P : Program} {c : Code} {Q : Exit → Act → World → Prop} (I : Nat → Act → World → Prop) {a : Act} {w : World} (h0 : ∃ n, I n a w)
    (round : ∀ n a w, I n a w → c.wp P (Exit.then (fun a' w' => ∃ m, m < n ∧ I m a' w') Q) a w) : (Code.loop c).wp P Q a w := by
  classical
  have hex : ∀ a w, ∃ n : Nat, (∃ m, I m a w) → I n a w ∧ ∀ m, m < n → ¬ I m a w := by
    intro a w
    by_cases h : ∃ m, I m a w
    · obtain ⟨n, hn⟩ := least_of h
      exact ⟨n, fun _ => hn⟩
    · exact ⟨0, fun h' => absurd h' h⟩
  let μ : Act → World → Nat := fun a w => Classical.choose (hex a w)
  have hμ : ∀ a w, (∃ m, I m a w) → I (μ a w) a w ∧ ∀ m, m < μ a w → ¬ I m a w := fun a w => Classical.choose_spec (hex a w)
  refine wp_loop (fun a w => ∃ n, I n a w) μ h0 fun a w hI => ?_
  refine Code.wp_mono ?_ (round (μ a w) a w (hμ a w hI).1)
  intro e a' w' hq
  cases e <;> try exact hq
  obtain ⟨m, hm, hI'⟩ := hq
  refine ⟨⟨m, hI'⟩, ?_⟩
  rcases Nat.lt_or_ge m (μ a' w') with h | h
  · exact absurd hI' ((hμ a' w' ⟨m, hI'⟩).2 m h)
  · exact Nat.lt_of_le_of_lt h hm
theorem vcC_sound {P : Program} {w : World} {T : Tab} {N : Nat} (hT : TabOk P T) (hm : P.follows .mixedOrders = true) : ∀ (c : Code) (kn : K3) (ke : Nat → K3) (kr : K3) (Q : Exit → Act → World → Prop)
    (hn : ∀ ρ env L nx a W, Kn w N ρ [] env L nx a W → kn env L nx → Q .normal a W) (he : ∀ id ρ env L nx a W, Kn w N ρ [] env L nx a W → ke id env L nx → Q (.exit id) a W) (hr : ∀ ρ env L nx a W, Kn w N ρ [] env L nx a W → kr env L nx → Q .ret a W)
    (ρ : Rho) (env : Env) (L : List Ob) (nx : Nat) (a : Act) (W : World), Kn w N ρ [] env L nx a W → vcC P w T N c kn ke kr env L nx → c.wp P Q a W := by
  intro c
  induction c with
  | skip => intro kn ke kr Q hn he hr ρ env L nx a W hk h; exact wp_skip (hn ρ env L nx a W hk h)
  | region id ops draw =>
    intro kn ke kr Q hn he hr ρ env L nx a W hk h
    obtain ⟨ops, rfl⟩ : ∃ l : List Oper, ops = l.toArray := ⟨ops.toList, by simp⟩
    cases draw with
    | true => exact EvDraw.sound hT hm hn h hk
    | false => exact wp_region_lit (vcOps_sound hT hn ops ρ [] env L nx a W hk h)
  | seq x y ihx ihy =>
    intro kn ke kr Q hn he hr ρ env L nx a W hk h
    refine wp_seq (ihx _ ke kr (Exit.then (y.wp P Q) Q) ?_ (fun id ρ env L nx a W hk h => he id ρ env L nx a W hk h) (fun ρ env L nx a W hk h => hr ρ env L nx a W hk h) ρ env L nx a W hk h)
    intro ρ env L nx a W hk h
    exact ihy kn ke kr Q hn he hr ρ env L nx a W hk h
  | cond c x y ihx ihy =>
    intro kn ke kr Q hn he hr ρ env L nx a W hk h
    obtain ⟨v, h1, h2⟩ := evK_sound h
    obtain ⟨b, rfl, h3⟩ := asB_sound h1
    obtain ⟨k', hx, hy, hw⟩ := h3.go
    have e := (h2 ρ [] nx a hk.fk rfl).1
    have hn' : ∀ ρ env L nx a W, Kn w N ρ [] env L nx a W → k' env L nx → Q .normal a W := by
      intro ρ env L nx a W hk hk'
      obtain ⟨e0, l0, n0, h4, h5⟩ := hw env L nx hk'
      obtain ⟨ρ0, h6⟩ := h5 w N ρ a W hk
      exact hn ρ0 e0 l0 n0 a W h6 h4
    refine wp_cond_split (t := b) (by simpa [den] using e) (fun hb => ?_) (fun hb => ?_)
    · exact ihx k' ke kr Q hn' he hr ρ env L nx a W hk (hx hb)
    · exact ihy k' ke kr Q hn' he hr ρ env L nx a W hk (hy hb)
  | block id c ih =>
    intro kn ke kr Q hn he hr ρ env L nx a W hk h
    refine wp_block (ih kn _ kr (Exit.inBlock id Q) (fun ρ env L nx a W hk h => hn ρ env L nx a W hk h) ?_ (fun ρ env L nx a W hk h => hr ρ env L nx a W hk h) ρ env L nx a W hk h)
    intro i ρ env L nx a W hk h
    simp only [Exit.inBlock]
    cases hb : Nat.beq i id with
    | true =>
      rw [hb] at h
      rw [if_pos (Nat.eq_of_beq_eq_true hb)]
      exact hn ρ env L nx a W hk h
    | false =>
      rw [hb] at h
      rw [if_neg (Nat.ne_of_beq_eq_false hb)]
      exact he i ρ env L nx a W hk h
  | loop c ih =>
    intro kn ke kr Q hn he hr ρ env L nx a W hk h
    rcases h.go with ⟨I, ⟨m, e0, l0, n0, h1, h2⟩, h3⟩ | ⟨r, hr1⟩
    case inr =>
      refine wp_loop_rounds r ?_
      clear h
      induction r generalizing ρ env L nx a W with
      | zero => exact hr1.elim
      | succ r ihr =>
        refine ih _ ke kr (Exit.then (Code.rounds P c Q r) Q) ?_ (fun id ρ env L nx a W hk h => he id ρ env L nx a W hk h) (fun ρ env L nx a W hk h => hr ρ env L nx a W hk h) ρ env L nx a W hk hr1
        intro ρ env L nx a W hk h
        exact ihr ρ env L nx a W hk h
    refine wp_loop_ix (fun m a W => ∃ ρ e l n, I m e l n ∧ Kn w N ρ [] e l n a W) ?_ ?_
    · obtain ⟨ρ0, h4⟩ := h2 w N ρ a W hk
      exact ⟨m, ρ0, e0, l0, n0, h1, h4⟩
    · rintro m a W ⟨ρ, e, l, n, hI, hk⟩
      refine ih _ ke kr (Exit.then (fun a' w' => ∃ m', m' < m ∧ ∃ ρ e l n, I m' e l n ∧ Kn w N ρ [] e l n a' w') Q) ?_ (fun id ρ env L nx a W hk h => he id ρ env L nx a W hk h) (fun ρ env L nx a W hk h => hr ρ env L nx a W hk h) ρ e l n a W hk (h3 m e l n hI)
      rintro ρ e l n a W hk ⟨m', hm', e1, l1, n1, h5, h6⟩
      obtain ⟨ρ1, h7⟩ := h6 w N ρ a W hk
      exact ⟨m', hm', ρ1, e1, l1, n1, h5, h7⟩
  | exit id => intro kn ke kr Q hn he hr ρ env L nx a W hk h; exact wp_exit (he id ρ env L nx a W hk h)
  | ret => intro kn ke kr Q hn he hr ρ env L nx a W hk h; exact wp_ret (hr ρ env L nx a W hk h)
  | rangeFunc f ps as b iha ihb => intro kn ke kr Q hn he hr ρ env L nx a W hk h; exact h.elim
  | scope b ih => intro kn ke kr Q hn he hr ρ env L nx a W hk h; exact h.elim
  | label l => intro kn ke kr Q hn he hr ρ env L nx a W hk h; exact h.elim
  | goto l => intro kn ke kr Q hn he hr ρ env L nx a W hk h; exact h.elim
  | refuse w => intro kn ke kr Q hn he hr ρ env L nx a W hk h; exact h.elim

/-! return and entry -/
def resK (T : Tab) (env : Env) (L : List Ob) : List ResultVar → (List SV → Prop) → Prop
  | [], k => k []
  | .tmp t :: r, k => evK env [] (.tmp t) (fun v => resK T env L r (fun l => k (v :: l)))
  | .cell a t :: r, k => loadK T env L [] t (.tmp a) (fun φ v => obE φ (resK T env L r (fun l => k (v :: l))))
/-- The function returns. -/
structure EvRet (w : World) (R : Ending → World → Prop) (v : SV) (L : List Ob) (nx : Nat) : Prop where
  go : ∀ ρ W, Hp w ρ L nx W → v.lt nx = true → R (.returned (den ρ v)) W
def retK (w : World) (T : Tab) (R : Ending → World → Prop) (rs : List ResultVar) (env : Env) (L : List Ob) (nx : Nat) : Prop :=
  resK T env L rs (fun vs => match vs with
    | [v] => EvRet w R v L nx
    | vs => EvRet w R (.t vs) L nx)
theorem load_run {P : Program} {a : Act} {W : World} {o : Oper} {t : TypeId} {x : Operand} {u : Value} (h : (execOp a.eval o).run P W = .ok (.value u) W) (ho : o.op = .load t x) : ∃ A, a.eval x = .pointer (some A) ∧ (loadVar t A).run P W = .ok u W := by
  simp only [execOp, ho, Instr.loadAt] at h
  cases hv : a.eval x with
  | pointer p =>
    cases p with
    | none => simp [hv, Instr.sureAddr, stuck, Sem.run] at h
    | some A =>
      refine ⟨A, rfl, ?_⟩
      simp only [hv, Instr.sureAddr, pure_bind, Sem.run_bind] at h
      cases hr : (loadVar t A).run P W with
      | ok z W' => rw [hr] at h; simp at h; obtain ⟨rfl, rfl⟩ := h; rfl
      | halt z W' => rw [hr] at h; simp at h
  | _ => simp [hv, Instr.sureAddr, stuck, Sem.run] at h
/-- loadK_sound, the names' bound chosen later. -/
theorem loadK_sound' {P : Program} {w : World} {T : Tab} {env : Env} {L : List Ob} {cur : Pth} {k : Option Prop → SV → Prop} {t : TypeId} {x : Operand} (hT : TabOk P T) (h : loadK T env L cur t x k) : ∃ φ v, (∀ nx, QOk P w env L nx cur (.load t x) φ v) ∧ k φ v := by
  obtain ⟨ti, hti, h1⟩ := tyK_sound hT h
  obtain ⟨addr, h2, he⟩ := evK_sound h1
  clear h h1
  split at h2
  · rename_i n hn
    obtain ⟨o, ho, rfl, h3⟩ := obK_sound h2
    clear h2
    cases hb : Nat.blt 0 ti.size with
    | false => rw [hb] at h3; exact h3.elim
    | true =>
      rw [hb] at h3
      have hall : ∃ φ v, k φ v ∧ ∀ nx, ∀ B ρ W, ObOk B ρ o W → o.c.lt nx = true → optP φ → v.lt nx = true ∧
        (if aggD ti.d then (loadCells (((ρ o.n).getD default).add (offOf addr)) ti.size).run P W = .ok (den ρ v).cells W ∧ (∃ cs, den ρ v = .agg cs) else W.cell? (((ρ o.n).getD default).add (offOf addr)) = some (den ρ v)) := loadSV_sound_all (blt_iff.1 hb) hn h3
      obtain ⟨φ, v, hk, hv⟩ := hall
      refine ⟨φ, v, fun nx ρ G a W hf hc hp hφ => ?_, hk⟩
      obtain ⟨h4, h5⟩ := hv nx _ ρ W (hp.obj o ho) (hp.lt o ho).2 hφ
      refine ⟨h4, fun oper hop => ?_⟩
      have e := (he ρ G nx a hf hc).1
      rw [den_addr hn] at e
      split at h5
      · rename_i hag
        obtain ⟨h5, cs, h6⟩ := h5
        have e1 := hti.isAgg W
        rw [hag] at e1
        rw [h6] at h5 ⊢
        simp [execOp, hop, e, Instr.loadAt, Instr.sureAddr, loadVar, e1, hti.sizeOf W, h5, Value.cells]
      · rename_i hag
        have e1 := hti.isAgg W
        have hag : aggD ti.d = false := by simpa using hag
        rw [hag] at e1
        simp [execOp, hop, e, Instr.loadAt, Instr.sureAddr, loadVar, e1, Go.load, Sem.run, h5]
  · exact h2.elim
def env0 : List SV → Nat → Env
  | [], _ => []
  | v :: r, i => (i, [], v) :: env0 r (i + 1)
theorem lk_env0 : ∀ (as : List SV) (i : Nat) (t : Nat) (p : Pth) (v : SV), lk (env0 as i) t = some (p, v) → p = [] ∧ i ≤ t ∧ as[t - i]? = some v
  | [], i, t, p, v, h => by simp [env0, lk] at h
  | x :: r, i, t, p, v, h => by
    simp only [env0, lk] at h
    cases hb : Nat.beq i t with
    | true =>
      rw [hb] at h
      simp at h
      obtain ⟨rfl, rfl⟩ := h
      obtain rfl := Nat.eq_of_beq_eq_true hb
      exact ⟨rfl, Nat.le_refl _, by simp⟩
    | false =>
      rw [hb] at h
      obtain ⟨h1, h2, h3⟩ := lk_env0 r (i + 1) t p v h
      refine ⟨h1, by omega, ?_⟩
      have : t - i = (t - (i + 1)) + 1 := by omega
      rw [this]
      simpa using h3
theorem resK_sound {P : Program} {w : World} {T : Tab} (hT : TabOk P T) {env : Env} {L : List Ob} : ∀ {rs : List ResultVar} {k : List SV → Prop}, resK T env L rs k → ∃ vs, k vs ∧ vs.length = rs.length ∧ ∀ ρ nx a W, Fk ρ [] env nx a → Hp w ρ L nx W →
    (rs.mapM (fun
    | .tmp t => pure (a.tmps.getD t undef)
    | .cell b t => do loadVar t (← asAddr (a.tmps.getD b undef))) : Sem (List Value)).run P W = .ok (denL ρ vs) W ∧ ltL nx vs = true
  | [], k, h => ⟨[], h, rfl, fun ρ nx a W _ _ => ⟨by simp [denL], by simp [ltL]⟩⟩
  | .tmp t :: r, k, h => by
    obtain ⟨v, h1, hv⟩ := evK_sound h
    obtain ⟨vs, h2, hl, h3⟩ := resK_sound hT h1
    refine ⟨_, h2, by simp [hl], fun ρ nx a W hf hp => ?_⟩
    obtain ⟨e1, e2⟩ := h3 ρ nx a W hf hp
    obtain ⟨e3, e4⟩ := hv ρ [] nx a hf rfl
    simp only [Act.eval] at e3
    refine ⟨?_, by simp [ltL, e4, e2]⟩
    simp only [List.mapM_cons, denL]
    simp only [Sem.run_bind, Sem.run_pure, Result.andThen_ok]
    rw [e1, e3]
    simp
  | .cell b t :: r, k, h => by
    obtain ⟨φ, v, h1, h2⟩ := loadK_sound' (P := P) (w := w) hT h
    obtain ⟨hφ, h3⟩ := obE_sound h2
    obtain ⟨vs, h4, hl, h5⟩ := resK_sound hT h3
    refine ⟨_, h4, by simp [hl], fun ρ nx a W hf hp => ?_⟩
    obtain ⟨e1, e2⟩ := h5 ρ nx a W hf hp
    obtain ⟨e3, e4⟩ := h1 nx ρ [] a W hf rfl hp hφ
    have e5 := load_run (e4 { dst := none, op := .load t (.tmp b), type := t, pos := "", after := #[], guard := none } rfl) rfl
    obtain ⟨A, e6, e7⟩ := e5
    simp only [Act.eval] at e6
    refine ⟨?_, by simp [ltL, e3, e2]⟩
    simp only [List.mapM_cons, denL]
    have e8 : (asAddr (a.tmps.getD b undef)).run P W = .ok A W := by rw [e6]; rfl
    simp only [Sem.run_bind, Sem.run_pure, Result.andThen_ok, e8, e7]
    rw [e1]
    simp
theorem enter_sv {P : Program} {w : World} {T : Tab} (hT : TabOk P T) (hm : P.follows .mixedOrders = true) {f : FuncId} {fn : Func} {c : Code} (hf : P.funcs[f]? = some fn) (hb : fn.body = some c) {N : Nat} (hN : fn.ntmps = N)
    {rs : Array ResultVar} (hrs : fn.results = rs) {R : Ending → World → Prop} (as : List SV) (ρ : Rho) (L : List Ob) (nx : Nat) (hl : Nat.ble as.length N = true) (hlt : ltL nx as = true) (hp : Hp w ρ L nx w)
    (h : vcC P w T N c (retK w T R rs.toList) (fun _ _ _ _ => False) (retK w T R rs.toList) (env0 as 0) L nx) : Calls P f (denL ρ as).toArray w R := by
  refine calls_of_wp hf hb ?_
  have hlen : (denL ρ as).length = as.length := by simp [denL_map]
  have hl := Nat.le_of_ble_eq_true hl
  have hret : ∀ e, (e = .normal ∨ e = .ret) → ∀ ρ env L nx a W, Kn w N ρ [] env L nx a W → retK w T R rs.toList env L nx → bodyPost P fn R e a W := by
    intro e he ρ env L nx a W hk h
    obtain ⟨vs, h1, h2, h3⟩ := resK_sound (P := P) (w := w) hT h
    obtain ⟨h4, h5⟩ := h3 ρ nx a W hk.fk hk.hp
    have h6 : ∃ v, (results fn a.tmps).run P W = .ok (den ρ v) W ∧ R (.returned (den ρ v)) W := by
      have hmap : (fn.results.mapM (fun
          | .tmp t => pure (a.tmps.getD t undef)
          | .cell b t => do loadVar t (← asAddr (a.tmps.getD b undef))) : Sem (Array Value)).run P W = .ok (denL ρ vs).toArray W := by
        rw [hrs, Array.mapM_eq_mapM_toList]
        simp only [Sem.run_map, h4]
        simp
      have hres : (results fn a.tmps).run P W = .ok (if h : (denL ρ vs).toArray.size = 1 then (denL ρ vs).toArray[0] else .tuple (denL ρ vs).toArray) W := by
        unfold results
        rw [Sem.run_bind]
        refine (congrArg (fun r : Result (Array Value) => r.andThen _) hmap).trans ?_
        simp
      split at h1
      · rename_i v
        refine ⟨v, ?_, h1.go ρ W hk.hp (by simpa [ltL] using h5)⟩
        rw [hres]
        simp [denL]
      · rename_i vs' hne
        refine ⟨.t vs, ?_, h1.go ρ W hk.hp (by simpa [SV.lt] using h5)⟩
        rw [hres]
        have hne1 : (denL ρ vs).length ≠ 1 := by
          intro hh
          rw [denL_map, List.length_map] at hh
          obtain ⟨v, rfl⟩ := List.length_eq_one_iff.1 hh
          exact hne v rfl
        simp [hne1, den]
    obtain ⟨v, h7, h8⟩ := h6
    rcases he with rfl | rfl
    · exact ⟨hk.dfr, _, h7, h8⟩
    · exact ⟨hk.dfr, _, h7, h8⟩
  refine vcC_sound hT hm c _ _ _ _ (fun ρ env L nx a W hk h => hret .normal (.inl rfl) ρ env L nx a W hk h) (fun _ _ _ _ _ _ _ _ h => h.elim) (fun ρ env L nx a W hk h => hret .ret (.inr rfl) ρ env L nx a W hk h) ρ (env0 as 0) L nx _ w ?_ h
  refine ⟨?_, hp, rfl, ?_⟩
  · have hlk := lk_env0 as 0
    refine ⟨?_, fun s b hs => by simp [lkG] at hs, ?_, ?_⟩
    · intro t p v hv
      obtain ⟨rfl, h1, h2⟩ := hlk t p v hv
      have h3 : (denL ρ as)[t]? = some (den ρ v) := by
        rw [denL_map, List.getElem?_map]
        simp at h2
        rw [h2]
        rfl
      have h4 : t < (denL ρ as).length := (List.getElem?_eq_some_iff.1 h3).1
      simp [holdsB, Array.getElem?_append, h4]
      exact (List.getElem?_eq_some_iff.1 h3).2
    · intro t p v hv
      obtain ⟨rfl, _⟩ := hlk t p v hv
      simp
    · intro t p v hv _
      obtain ⟨rfl, h1, h2⟩ := hlk t p v hv
      exact (ltL_iff _ _).1 hlt v (List.mem_of_getElem? h2)
  · simp [hlen, hN]
    omega
end Go.Proofs.Ytofekfpbljihiaa
