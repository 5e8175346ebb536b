
/- The symbolic machine: code, loops, calls and returns. No program in sight. The symbolic machine: how its events are met. No program in sight. The symbolic machine: slices of ints that come in. No program in sight. The symbolic machine: rows that come in or are handed on, append, make. No program in sight. The symbolic machine: append and make. No program in sight. The symbolic machine: copy; slices of slices. No program in sight. The symbolic machine: rows and a number returned. No program in sight. The symbolic machine: an object's contents said in other words; parts of slices. No program in sight. -/
import Derived.Test.YtebfhljamoapjaaDoorSyB
import Derived.LoopN
namespace Go.Proofs.YtebfhljamoapjaaDoor
open Go.RowKit
set_option linter.unusedVariables false
set_option linter.unusedSimpArgs false
set_option linter.unnecessarySimpa false

/-- A test stands next. -/
structure EvIf (m : Nat) (b : Bool) (X Y : K3 → Prop) (kn : K3) : Prop where
  go : ∃ k' : K3, (b = true → X k') ∧ (b = false → Y k') ∧ ∀ e l n, k' e l n → Wk m kn e l n
theorem EvIf.split {m : Nat} {b : Bool} {X Y : K3 → Prop} {kn : K3} (h1 : b = true → X kn) (h2 : b = false → Y kn) : EvIf m b X Y kn := ⟨kn, h1, h2, fun _ _ _ h => Wk.self h⟩
theorem EvIf.pos {m : Nat} {b : Bool} {X Y : K3 → Prop} {kn : K3} (hb : b = true) (h1 : X kn) : EvIf m b X Y kn := .split (fun _ => h1) (fun h => by rw [hb] at h; cases h)
theorem EvIf.neg {m : Nat} {b : Bool} {X Y : K3 → Prop} {kn : K3} (hb : b = false) (h1 : Y kn) : EvIf m b X Y kn := .split (fun h => by rw [hb] at h; cases h) (fun _ => h1)
/-- The two ways meet again in k'. -/
theorem EvIf.join {m : Nat} {b : Bool} {X Y : K3 → Prop} {kn : K3} (k' : K3) (h1 : b = true → X k') (h2 : b = false → Y k') (h3 : ∀ e l n, k' e l n → Wk m kn e l n) : EvIf m b X Y kn := ⟨k', h1, h2, h3⟩
/-- A few rounds of a loop, one by one. -/
def RoundN (body : K3 → K3) : Nat → K3
  | 0, _, _, _ => False
  | r + 1, e, l, n => body (fun e l n => RoundN body r e l n) e l n
/-- A loop stands next. -/
structure EvLoop (q : Nat) (body : K3 → K3) (env : Env) (L : List Ob) (nx : Nat) : Prop where
  go : (∃ I : Nat → K3, (∃ m, Wk q (I m) env L nx) ∧ ∀ m e l n, I m e l n → body (fun e' l' n' => ∃ m', m' < m ∧ Wk q (I m') e' l' n') e l n) ∨ ∃ r, RoundN body r env L nx
theorem EvLoop.rounds {q : Nat} {body : K3 → K3} {env : Env} {L : List Ob} {nx : Nat} (r : Nat) (h : RoundN body r env L nx) : EvLoop q body env L nx := ⟨.inr ⟨r, h⟩⟩
/-- The states of a loop's head over x : α; everything that is known there is typed out. -/
def LoopI {α : Type} (R : α → Prop) (m : α → Nat) (E : α → Env) (O : α → List Ob) (n0 : Nat) (i : Nat) : K3 := fun e l n => ∃ x, R x ∧ m x = i ∧ e = E x ∧ l = O x ∧ n = n0
theorem EvLoop.inv {q : Nat} {body : K3 → K3} {env : Env} {L : List Ob} {nx : Nat} {α : Type} (R : α → Prop) (m : α → Nat) (E : α → Env) (O : α → List Ob) (n0 : Nat)
    (x0 : α) (h0 : R x0) (hs : Sub q (E x0) (O x0) n0 env L nx) (hb : ∀ x, R x → body (fun e l n => ∃ m', m' < m x ∧ Wk q (LoopI R m E O n0 m') e l n) (E x) (O x) n0) : EvLoop q body env L nx :=
  ⟨.inl ⟨LoopI R m E O n0, ⟨m x0, _, _, _, ⟨x0, h0, rfl, rfl, rfl, rfl⟩, hs⟩, by
    rintro i e l n ⟨x, hx, rfl, rfl, rfl, rfl⟩
    exact hb x hx⟩⟩
theorem LoopI.back {q : Nat} {α : Type} {R : α → Prop} {m : α → Nat} {E : α → Env} {O : α → List Ob} {n0 i : Nat} {e : Env} {l : List Ob} {n : Nat} (y : α) (hy : R y) (hm : m y < i) (hs : Sub q (E y) (O y) n0 e l n) :
    ∃ m', m' < i ∧ Wk q (LoopI R m E O n0 m') e l n := ⟨m y, hm, _, _, _, ⟨y, hy, rfl, rfl, rfl, rfl⟩, hs⟩
theorem EvIf.meet {m : Nat} {b : Bool} {X Y : K3 → Prop} {kn : K3} {α : Type} (R : α → Prop) (E : α → Env) (O : α → List Ob) (n0 : Nat) (h1 : b = true → X (JoinI m R E O n0)) (h2 : b = false → Y (JoinI m R E O n0))
    (h3 : ∀ x, R x → kn (E x) (O x) n0) : EvIf m b X Y kn := .join _ h1 h2 fun e l n ⟨x, hx, hs⟩ => ⟨_, _, _, h3 x hx, hs⟩

noncomputable def vcC (P : Program) (w : Ref) (T : Tab) (N : Nat) (c : Code) : K3 → (Nat → K3) → K3 → K3 :=
  @Code.rec (fun _ => K3 → (Nat → K3) → K3 → K3)
    (fun kn _ _ env L nx => kn env L nx)
    (fun id ops draw kn _ _ env L nx => bif draw then EvDraw P w T N id ops.toList env L nx kn else vcOps P w T N ops.toList ops.toList [] env L nx kn)
    (fun _ _ iha ihb kn ke kr env L nx => iha (fun env L nx => ihb kn ke kr env L nx) ke kr env L nx)
    (fun c _ _ ihx ihy kn ke kr env L nx => evK env [] c (fun v => asB v (fun b => EvIf w.n0 b (fun k => ihx k ke kr env L nx) (fun k => ihy k ke kr env L nx) kn)))
    (fun id _ ih kn ke kr env L nx => ih kn (fun i e l n => bif Nat.beq i id then kn e l n else ke i e l n) kr env L nx)
    (fun _ ih _ ke kr env L nx => EvLoop w.n0 (fun k e l n => ih k ke kr e l n) env L nx)
    (fun _ _ _ _ _ _ _ _ _ _ _ _ => False)
    (fun id _ ke _ env L nx => ke id env L nx)
    (fun _ _ _ _ _ _ _ _ => False)
    (fun _ _ _ _ _ _ _ => False)
    (fun _ _ _ _ _ _ _ => False)
    (fun _ _ kr env L nx => kr env L nx)
    (fun _ _ _ _ _ _ _ => False) c

theorem least_of {p : Nat → Prop} (h : ∃ n, p n) : ∃ n, p n ∧ ∀ m, m < n → ¬ p m := by
  obtain ⟨n, hn⟩ := h
  induction n using Nat.strongRecOn with
  | _ n ih =>
    by_cases hm : ∃ m, m < n ∧ p m
    · obtain ⟨m, h1, h2⟩ := hm
      exact ih m h1 h2
    · exact ⟨n, hn, fun m h1 h2 => hm ⟨m, h1, h2⟩⟩
theorem wp_loop_ix {P : Program} {c : Code} {Q : Exit → Act → World → Prop} (I : Nat → Act → World → Prop) {a : Act} {w : World} (h0 : ∃ n, I n a w)
    (round : ∀ n a w, I n a w → c.wp P (Exit.then (fun a' w' => ∃ m, m < n ∧ I m a' w') Q) a w) : (Code.loop c).wp P Q a w := by
  classical
  have hex : ∀ a w, ∃ n : Nat, (∃ m, I m a w) → I n a w ∧ ∀ m, m < n → ¬ I m a w := by
    intro a w
    by_cases h : ∃ m, I m a w
    · obtain ⟨n, hn⟩ := least_of h
      exact ⟨n, fun _ => hn⟩
    · exact ⟨0, fun h' => absurd h' h⟩
  let μ : Act → World → Nat := fun a w => Classical.choose (hex a w)
  have hμ : ∀ a w, (∃ m, I m a w) → I (μ a w) a w ∧ ∀ m, m < μ a w → ¬ I m a w := fun a w => Classical.choose_spec (hex a w)
  refine wp_loop (fun a w => ∃ n, I n a w) μ h0 fun a w hI => ?_
  refine Code.wp_mono ?_ (round (μ a w) a w (hμ a w hI).1)
  intro e a' w' hq
  cases e <;> try exact hq
  obtain ⟨m, hm, hI'⟩ := hq
  refine ⟨⟨m, hI'⟩, ?_⟩
  rcases Nat.lt_or_ge m (μ a' w') with h | h
  · exact absurd hI' ((hμ a' w' ⟨m, hI'⟩).2 m h)
  · exact Nat.lt_of_le_of_lt h hm
theorem vcC_sound {P : Program} {w : Ref} {T : Tab} {N : Nat} (hT : TabOk P T) (hm : P.follows .mixedOrders = true) : ∀ (c : Code) (kn : K3) (ke : Nat → K3) (kr : K3) (Q : Exit → Act → World → Prop)
    (hn : ∀ ρ env L nx a W, Kn w N ρ [] env L nx a W → kn env L nx → Q .normal a W) (he : ∀ id ρ env L nx a W, Kn w N ρ [] env L nx a W → ke id env L nx → Q (.exit id) a W) (hr : ∀ ρ env L nx a W, Kn w N ρ [] env L nx a W → kr env L nx → Q .ret a W)
    (ρ : Rho) (env : Env) (L : List Ob) (nx : Nat) (a : Act) (W : World), Kn w N ρ [] env L nx a W → vcC P w T N c kn ke kr env L nx → c.wp P Q a W := by
  intro c
  induction c with
  | skip => intro kn ke kr Q hn he hr ρ env L nx a W hk h; exact wp_skip (hn ρ env L nx a W hk h)
  | region id ops draw =>
    intro kn ke kr Q hn he hr ρ env L nx a W hk h
    obtain ⟨ops, rfl⟩ : ∃ l : List Oper, ops = l.toArray := ⟨ops.toList, by simp⟩
    cases draw with
    | true => exact EvDraw.sound hT hm hn h hk
    | false => exact wp_region_lit (vcOps_sound hT hn ops ρ [] env L nx a W hk h)
  | seq x y ihx ihy =>
    intro kn ke kr Q hn he hr ρ env L nx a W hk h
    refine wp_seq (ihx _ ke kr (Exit.then (y.wp P Q) Q) ?_ (fun id ρ env L nx a W hk h => he id ρ env L nx a W hk h) (fun ρ env L nx a W hk h => hr ρ env L nx a W hk h) ρ env L nx a W hk h)
    intro ρ env L nx a W hk h
    exact ihy kn ke kr Q hn he hr ρ env L nx a W hk h
  | cond c x y ihx ihy =>
    intro kn ke kr Q hn he hr ρ env L nx a W hk h
    obtain ⟨v, h1, h2⟩ := evK_sound h
    obtain ⟨b, rfl, h3⟩ := asB_sound h1
    obtain ⟨k', hx, hy, hw⟩ := h3.go
    have e := (h2 ρ [] nx a hk.fk rfl).1
    have hn' : ∀ ρ env L nx a W, Kn w N ρ [] env L nx a W → k' env L nx → Q .normal a W := by
      intro ρ env L nx a W hk hk'
      obtain ⟨e0, l0, n0, h4, h5⟩ := hw env L nx hk'
      obtain ⟨ρ0, h6⟩ := h5 w N ρ a W rfl hk
      exact hn ρ0 e0 l0 n0 a W h6 h4
    refine wp_cond_split (t := b) (by simpa [den] using e) (fun hb => ?_) (fun hb => ?_)
    · exact ihx k' ke kr Q hn' he hr ρ env L nx a W hk (hx hb)
    · exact ihy k' ke kr Q hn' he hr ρ env L nx a W hk (hy hb)
  | block id c ih =>
    intro kn ke kr Q hn he hr ρ env L nx a W hk h
    refine wp_block (ih kn _ kr (Exit.inBlock id Q) (fun ρ env L nx a W hk h => hn ρ env L nx a W hk h) ?_ (fun ρ env L nx a W hk h => hr ρ env L nx a W hk h) ρ env L nx a W hk h)
    intro i ρ env L nx a W hk h
    simp only [Exit.inBlock]
    cases hb : Nat.beq i id with
    | true =>
      rw [hb] at h
      rw [if_pos (Nat.eq_of_beq_eq_true hb)]
      exact hn ρ env L nx a W hk h
    | false =>
      rw [hb] at h
      rw [if_neg (Nat.ne_of_beq_eq_false hb)]
      exact he i ρ env L nx a W hk h
  | loop c ih =>
    intro kn ke kr Q hn he hr ρ env L nx a W hk h
    rcases h.go with ⟨I, ⟨m, e0, l0, n0, h1, h2⟩, h3⟩ | ⟨r, hr1⟩
    case inr =>
      refine wp_loop_rounds r ?_
      clear h
      induction r generalizing ρ env L nx a W with
      | zero => exact hr1.elim
      | succ r ihr =>
        refine ih _ ke kr (Exit.then (Code.rounds P c Q r) Q) ?_ (fun id ρ env L nx a W hk h => he id ρ env L nx a W hk h) (fun ρ env L nx a W hk h => hr ρ env L nx a W hk h) ρ env L nx a W hk hr1
        intro ρ env L nx a W hk h
        exact ihr ρ env L nx a W hk h
    refine wp_loop_ix (fun m a W => ∃ ρ e l n, I m e l n ∧ Kn w N ρ [] e l n a W) ?_ ?_
    · obtain ⟨ρ0, h4⟩ := h2 w N ρ a W rfl hk
      exact ⟨m, ρ0, e0, l0, n0, h1, h4⟩
    · rintro m a W ⟨ρ, e, l, n, hI, hk⟩
      refine ih _ ke kr (Exit.then (fun a' w' => ∃ m', m' < m ∧ ∃ ρ e l n, I m' e l n ∧ Kn w N ρ [] e l n a' w') Q) ?_ (fun id ρ env L nx a W hk h => he id ρ env L nx a W hk h) (fun ρ env L nx a W hk h => hr ρ env L nx a W hk h) ρ e l n a W hk (h3 m e l n hI)
      rintro ρ e l n a W hk ⟨m', hm', e1, l1, n1, h5, h6⟩
      obtain ⟨ρ1, h7⟩ := h6 w N ρ a W rfl hk
      exact ⟨m', hm', ρ1, e1, l1, n1, h5, h7⟩
  | exit id => intro kn ke kr Q hn he hr ρ env L nx a W hk h; exact wp_exit (he id ρ env L nx a W hk h)
  | ret => intro kn ke kr Q hn he hr ρ env L nx a W hk h; exact wp_ret (hr ρ env L nx a W hk h)
  | rangeFunc f ps as b iha ihb => intro kn ke kr Q hn he hr ρ env L nx a W hk h; exact h.elim
  | scope b ih => intro kn ke kr Q hn he hr ρ env L nx a W hk h; exact h.elim
  | label l => intro kn ke kr Q hn he hr ρ env L nx a W hk h; exact h.elim
  | goto l => intro kn ke kr Q hn he hr ρ env L nx a W hk h; exact h.elim
  | refuse w => intro kn ke kr Q hn he hr ρ env L nx a W hk h; exact h.elim

/-! return and entry -/
def resK (T : Tab) (env : Env) (L : List Ob) : List ResultVar → (List SV → Prop) → Prop
  | [], k => k []
  | .tmp t :: r, k => evK env [] (.tmp t) (fun v => resK T env L r (fun l => k (v :: l)))
  | .cell a t :: r, k => loadK T env L [] t (.tmp a) (fun φ v => obE φ (resK T env L r (fun l => k (v :: l))))
/-- The function returns. -/
structure EvRet (w : Ref) (R : Ending → World → Prop) (v : SV) (L : List Ob) (nx : Nat) : Prop where
  go : ∀ ρ W, Hp w ρ L nx W → v.lt nx = true → R (.returned (den ρ v)) W
def retK (w : Ref) (T : Tab) (R : Ending → World → Prop) (rs : List ResultVar) (env : Env) (L : List Ob) (nx : Nat) : Prop :=
  resK T env L rs (fun vs => match vs with
    | [v] => EvRet w R v L nx
    | vs => EvRet w R (.t vs) L nx)
theorem load_run {P : Program} {a : Act} {W : World} {o : Oper} {t : TypeId} {x : Operand} {u : Value} (h : (execOp a.eval o).run P W = .ok (.value u) W) (ho : o.op = .load t x) : ∃ A, a.eval x = .pointer (some A) ∧ (loadVar t A).run P W = .ok u W := by
  simp only [execOp, ho, Instr.loadAt] at h
  cases hv : a.eval x with
  | pointer p =>
    cases p with
    | none => simp [hv, Instr.sureAddr, stuck, Sem.run] at h
    | some A =>
      refine ⟨A, rfl, ?_⟩
      simp only [hv, Instr.sureAddr, pure_bind, Sem.run_bind] at h
      cases hr : (loadVar t A).run P W with
      | ok z W' => rw [hr] at h; simp at h; obtain ⟨rfl, rfl⟩ := h; rfl
      | halt z W' => rw [hr] at h; simp at h
  | _ => simp [hv, Instr.sureAddr, stuck, Sem.run] at h
/-- loadK_sound, the names' bound chosen later. -/
theorem loadK_sound' {P : Program} {w : Ref} {T : Tab} {env : Env} {L : List Ob} {cur : Pth} {k : Option Prop → SV → Prop} {t : TypeId} {x : Operand} (hT : TabOk P T) (h : loadK T env L cur t x k) : ∃ φ v, (∀ nx, QOk P w env L nx cur (.load t x) φ v) ∧ k φ v := by
  obtain ⟨ti, hti, h1⟩ := tyK_sound hT h
  obtain ⟨addr, h2, he⟩ := evK_sound h1
  clear h h1
  split at h2
  · rename_i n hn
    obtain ⟨o, ho, rfl, h3⟩ := obK_sound h2
    clear h2
    cases hb : Nat.blt 0 ti.size with
    | false => rw [hb] at h3; exact h3.elim
    | true =>
      rw [hb] at h3
      have hall : ∃ φ v, k φ v ∧ ∀ nx, ∀ B ρ W, ObOk B ρ o W → o.c.lt nx = true → optP φ → v.lt nx = true ∧
        (if aggD ti.d then (loadCells (((ρ o.n).getD default).add (offOf addr)) ti.size).run P W = .ok (den ρ v).cells W ∧ (∃ cs, den ρ v = .agg cs) else W.cell? (((ρ o.n).getD default).add (offOf addr)) = some (den ρ v)) := loadSV_sound_all (blt_iff.1 hb) hn h3
      obtain ⟨φ, v, hk, hv⟩ := hall
      refine ⟨φ, v, fun nx ρ G a W hf hc hp hφ => ?_, hk⟩
      obtain ⟨h4, h5⟩ := hv nx _ ρ W (hp.obj o ho) (hp.lt o ho).2 hφ
      refine ⟨h4, fun oper hop => ?_⟩
      have e := (he ρ G nx a hf hc).1
      rw [den_addr hn] at e
      split at h5
      · rename_i hag
        obtain ⟨h5, cs, h6⟩ := h5
        have e1 := hti.isAgg W
        rw [hag] at e1
        rw [h6] at h5 ⊢
        simp [execOp, hop, e, Instr.loadAt, Instr.sureAddr, loadVar, e1, hti.sizeOf W, h5, Value.cells]
      · rename_i hag
        have e1 := hti.isAgg W
        have hag : aggD ti.d = false := by simpa using hag
        rw [hag] at e1
        simp [execOp, hop, e, Instr.loadAt, Instr.sureAddr, loadVar, e1, Go.load, Sem.run, h5]
  · exact h2.elim
def env0 : List SV → Nat → Env
  | [], _ => []
  | v :: r, i => (i, [], v) :: env0 r (i + 1)
theorem lk_env0 : ∀ (as : List SV) (i : Nat) (t : Nat) (p : Pth) (v : SV), lk (env0 as i) t = some (p, v) → p = [] ∧ i ≤ t ∧ as[t - i]? = some v
  | [], i, t, p, v, h => by simp [env0, lk] at h
  | x :: r, i, t, p, v, h => by
    simp only [env0, lk] at h
    cases hb : Nat.beq i t with
    | true =>
      rw [hb] at h
      simp at h
      obtain ⟨rfl, rfl⟩ := h
      obtain rfl := Nat.eq_of_beq_eq_true hb
      exact ⟨rfl, Nat.le_refl _, by simp⟩
    | false =>
      rw [hb] at h
      obtain ⟨h1, h2, h3⟩ := lk_env0 r (i + 1) t p v h
      refine ⟨h1, by omega, ?_⟩
      have : t - i = (t - (i + 1)) + 1 := by omega
      rw [this]
      simpa using h3
theorem resK_sound {P : Program} {w : Ref} {T : Tab} (hT : TabOk P T) {env : Env} {L : List Ob} : ∀ {rs : List ResultVar} {k : List SV → Prop}, resK T env L rs k → ∃ vs, k vs ∧ vs.length = rs.length ∧ ∀ ρ nx a W, Fk ρ [] env nx a → Hp w ρ L nx W →
    (rs.mapM (fun
    | .tmp t => pure (a.tmps.getD t undef)
    | .cell b t => do loadVar t (← asAddr (a.tmps.getD b undef))) : Sem (List Value)).run P W = .ok (denL ρ vs) W ∧ ltL nx vs = true
  | [], k, h => ⟨[], h, rfl, fun ρ nx a W _ _ => ⟨by simp [denL], by simp [ltL]⟩⟩
  | .tmp t :: r, k, h => by
    obtain ⟨v, h1, hv⟩ := evK_sound h
    obtain ⟨vs, h2, hl, h3⟩ := resK_sound hT h1
    refine ⟨_, h2, by simp [hl], fun ρ nx a W hf hp => ?_⟩
    obtain ⟨e1, e2⟩ := h3 ρ nx a W hf hp
    obtain ⟨e3, e4⟩ := hv ρ [] nx a hf rfl
    simp only [Act.eval] at e3
    refine ⟨?_, by simp [ltL, e4, e2]⟩
    simp only [List.mapM_cons, denL]
    simp only [Sem.run_bind, Sem.run_pure, Result.andThen_ok]
    rw [e1, e3]
    simp
  | .cell b t :: r, k, h => by
    obtain ⟨φ, v, h1, h2⟩ := loadK_sound' (P := P) (w := w) hT h
    obtain ⟨hφ, h3⟩ := obE_sound h2
    obtain ⟨vs, h4, hl, h5⟩ := resK_sound hT h3
    refine ⟨_, h4, by simp [hl], fun ρ nx a W hf hp => ?_⟩
    obtain ⟨e1, e2⟩ := h5 ρ nx a W hf hp
    obtain ⟨e3, e4⟩ := h1 nx ρ [] a W hf rfl hp hφ
    have e5 := load_run (e4 { dst := none, op := .load t (.tmp b), type := t, pos := "", after := #[], guard := none } rfl) rfl
    obtain ⟨A, e6, e7⟩ := e5
    simp only [Act.eval] at e6
    refine ⟨?_, by simp [ltL, e3, e2]⟩
    simp only [List.mapM_cons, denL]
    have e8 : (asAddr (a.tmps.getD b undef)).run P W = .ok A W := by rw [e6]; rfl
    simp only [Sem.run_bind, Sem.run_pure, Result.andThen_ok, e8, e7]
    rw [e1]
    simp
/-- The results of a frame. -/
theorem ret_run {P : Program} {w : Ref} {T : Tab} (hT : TabOk P T) {fn : Func} {rs : Array ResultVar} (hrs : fn.results = rs) {R : Ending → World → Prop} {ρ : Rho} {env : Env} {L : List Ob} {nx : Nat} {a : Act} {W : World}
    (hfk : Fk ρ [] env nx a) (hhp : Hp w ρ L nx W) (h : retK w T R rs.toList env L nx) : ∃ v, (results fn a.tmps).run P W = .ok v W ∧ R (.returned v) W := by
  obtain ⟨vs, h1, h2, h3⟩ := resK_sound (P := P) (w := w) hT h
  obtain ⟨h4, h5⟩ := h3 ρ nx a W hfk hhp
  have hmap : (fn.results.mapM (fun
      | .tmp t => pure (a.tmps.getD t undef)
      | .cell b t => do loadVar t (← asAddr (a.tmps.getD b undef))) : Sem (Array Value)).run P W = .ok (denL ρ vs).toArray W := by
    rw [hrs, Array.mapM_eq_mapM_toList]
    simp only [Sem.run_map, h4]
    simp
  have hres : (results fn a.tmps).run P W = .ok (if h : (denL ρ vs).toArray.size = 1 then (denL ρ vs).toArray[0] else .tuple (denL ρ vs).toArray) W := by
    unfold results
    rw [Sem.run_bind]
    refine (congrArg (fun r : Result (Array Value) => r.andThen _) hmap).trans ?_
    simp
  split at h1
  · rename_i v
    refine ⟨den ρ v, ?_, h1.go ρ W hhp (by simpa [ltL] using h5)⟩
    rw [hres]
    simp [denL]
  · rename_i vs' hne
    refine ⟨den ρ (.t vs), ?_, h1.go ρ W hhp (by simpa [SV.lt] using h5)⟩
    rw [hres]
    have hne1 : (denL ρ vs).length ≠ 1 := by
      intro hh
      rw [denL_map, List.length_map] at hh
      obtain ⟨v, rfl⟩ := List.length_eq_one_iff.1 hh
      exact hne v rfl
    simp [hne1, den]
theorem enter_sv {P : Program} {w : Ref} {T : Tab} (hT : TabOk P T) (hm : P.follows .mixedOrders = true) {f : FuncId} {fn : Func} {c : Code} (hf : P.funcs[f]? = some fn) (hb : fn.body = some c) {N : Nat} (hN : fn.ntmps = N)
    {rs : Array ResultVar} (hrs : fn.results = rs) {R : Ending → World → Prop} (as : List SV) (ρ : Rho) (L : List Ob) (nx : Nat) (hl : Nat.ble as.length N = true) (hlt : ltL nx as = true) {W0 : World} (hp : Hp w ρ L nx W0) (hd0 : w.dfr = [])
    (h : vcC P w T N c (retK w T R rs.toList) (fun _ _ _ _ => False) (retK w T R rs.toList) (env0 as 0) L nx) : Calls P f (denL ρ as).toArray W0 R := by
  refine calls_of_wp hf hb ?_
  have hlen : (denL ρ as).length = as.length := by simp [denL_map]
  have hl := Nat.le_of_ble_eq_true hl
  have hret : ∀ e, (e = .normal ∨ e = .ret) → ∀ ρ env L nx a W, Kn w N ρ [] env L nx a W → retK w T R rs.toList env L nx → bodyPost P fn R e a W := by
    intro e he ρ env L nx a W hk h
    obtain ⟨vs, h1, h2, h3⟩ := resK_sound (P := P) (w := w) hT h
    obtain ⟨h4, h5⟩ := h3 ρ nx a W hk.fk hk.hp
    have h6 : ∃ v, (results fn a.tmps).run P W = .ok (den ρ v) W ∧ R (.returned (den ρ v)) W := by
      have hmap : (fn.results.mapM (fun
          | .tmp t => pure (a.tmps.getD t undef)
          | .cell b t => do loadVar t (← asAddr (a.tmps.getD b undef))) : Sem (Array Value)).run P W = .ok (denL ρ vs).toArray W := by
        rw [hrs, Array.mapM_eq_mapM_toList]
        simp only [Sem.run_map, h4]
        simp
      have hres : (results fn a.tmps).run P W = .ok (if h : (denL ρ vs).toArray.size = 1 then (denL ρ vs).toArray[0] else .tuple (denL ρ vs).toArray) W := by
        unfold results
        rw [Sem.run_bind]
        refine (congrArg (fun r : Result (Array Value) => r.andThen _) hmap).trans ?_
        simp
      split at h1
      · rename_i v
        refine ⟨v, ?_, h1.go ρ W hk.hp (by simpa [ltL] using h5)⟩
        rw [hres]
        simp [denL]
      · rename_i vs' hne
        refine ⟨.t vs, ?_, h1.go ρ W hk.hp (by simpa [SV.lt] using h5)⟩
        rw [hres]
        have hne1 : (denL ρ vs).length ≠ 1 := by
          intro hh
          rw [denL_map, List.length_map] at hh
          obtain ⟨v, rfl⟩ := List.length_eq_one_iff.1 hh
          exact hne v rfl
        simp [hne1, den]
    obtain ⟨v, h7, h8⟩ := h6
    rcases he with rfl | rfl
    · exact ⟨hk.dfr.trans hd0, _, h7, h8⟩
    · exact ⟨hk.dfr.trans hd0, _, h7, h8⟩
  refine vcC_sound hT hm c _ _ _ _ (fun ρ env L nx a W hk h => hret .normal (.inl rfl) ρ env L nx a W hk h) (fun _ _ _ _ _ _ _ _ h => h.elim) (fun ρ env L nx a W hk h => hret .ret (.inr rfl) ρ env L nx a W hk h) ρ (env0 as 0) L nx _ W0 ?_ h
  refine ⟨?_, hp, hd0.symm, ?_⟩
  · have hlk := lk_env0 as 0
    refine ⟨?_, fun s b hs => by simp [lkG] at hs, ?_, ?_⟩
    · intro t p v hv
      obtain ⟨rfl, h1, h2⟩ := hlk t p v hv
      have h3 : (denL ρ as)[t]? = some (den ρ v) := by
        rw [denL_map, List.getElem?_map]
        simp at h2
        rw [h2]
        rfl
      have h4 : t < (denL ρ as).length := (List.getElem?_eq_some_iff.1 h3).1
      simp [holdsB, Array.getElem?_append, h4]
      exact (List.getElem?_eq_some_iff.1 h3).2
    · intro t p v hv
      obtain ⟨rfl, _⟩ := hlk t p v hv
      simp
    · intro t p v hv _
      obtain ⟨rfl, h1, h2⟩ := hlk t p v hv
      exact (ltL_iff _ _).1 hlt v (List.mem_of_getElem? h2)
  · simp [hlen, hN]
    omega
end Go.Proofs.YtebfhljamoapjaaDoor
namespace Go.Proofs.YtebfhljamoapjaaDoor
open Go.RowKit
set_option linter.unusedVariables false
set_option linter.unusedSimpArgs false
set_option linter.unnecessarySimpa false

theorem hp0 (w : World) (ρ : Rho) (nx : Nat) : Hp (refOf w) ρ [] nx w := ⟨Below.refl _ _, by simp, .nil, by simp, Nat.zero_le _, fun n hn => absurd hn (Nat.not_lt_zero n)⟩
/-- A contract (Calls, kept shut). -/
structure Con (P : Program) (f : FuncId) (args : Array Value) (w : World) (R : Ending → World → Prop) : Prop where
  out : Calls P f args w R
theorem enter {P : Program} {w : World} {T : Tab} (hT : TabOk P T) (hm : P.follows .mixedOrders = true) {f : FuncId} {fn : Func} {c : Code} (hf : P.funcs[f]? = some fn) (hb : fn.body = some c) {N : Nat} (hN : fn.ntmps = N)
    {rs : Array ResultVar} (hrs : fn.results = rs) {R : Ending → World → Prop} (as : List SV) (ρ : Rho) (L : List Ob) (nx : Nat) (hl : Nat.ble as.length N = true) (hlt : ltL nx as = true) (hp : Hp (refOf w) ρ L nx w)
    (h : vcC P (refOf w) T N c (retK (refOf w) T R rs.toList) (fun _ _ _ _ => False) (retK (refOf w) T R rs.toList) (env0 as 0) L nx) : Con P f (denL ρ as).toArray w R := ⟨enter_sv hT hm hf hb hN hrs as ρ L nx hl hlt hp rfl h⟩
/-- A call hands back v, and leaves all that was as it was. -/
def Ret (w : World) (v : Value) (e : Ending) (w' : World) : Prop := e = .returned v ∧ Below w.heap.size w w'

section
variable {P : Program} {w : Ref} {f : FuncId} {args : List SV} {L : List Ob} {nx : Nat}
theorem EvCall.plain {kp : Bool} {k : SV → List Ob → Nat → Prop} (ent : ∀ args W, (callFunc f args).run P W = .ok (.enter f args) W) (v : SV) (hv : v.lt nx = true)
    (h : ∀ ρ W, Hp w ρ L nx W → Con P f (denL ρ args).toArray W (Ret W (den ρ v))) (hk : k v L nx) : EvCall kp P w f args L nx k :=
  ⟨ent, fun ρ W hp _ => (h ρ W hp).out.mono fun e W' ⟨he, hb⟩ => ⟨_, he, fun _ => hb, ρ, v, L, nx, rfl, fun _ _ => rfl, Nat.le_refl _, hv, hp.step hb, hk⟩⟩
theorem EvCallC.plain {c : Prop} {kp : Bool} {k : SV → List Ob → Nat → Prop} (ent : ∀ args W, (callFunc f args).run P W = .ok (.enter f args) W) (v : SV) (hv : v.lt nx = true)
    (h : c → ∀ ρ W, Hp w ρ L nx W → Con P f (denL ρ args).toArray W (Ret W (den ρ v))) (hk : k v L nx) : EvCallC c kp P w f args L nx k :=
  ⟨ent, .inl ⟨v, hv, fun hc ρ W hp _ => (h hc ρ W hp).out, hk⟩⟩
/-- The call is made. -/
theorem EvCallC.on {c : Prop} {kp : Bool} {k : SV → List Ob → Nat → Prop} (hc : c) (h : EvCall kp P w f args L nx k) : EvCallC c kp P w f args L nx k := ⟨h.ent, .inr ⟨hc, h.go⟩⟩
/-- The call is not made: any value will do. -/
theorem EvCallC.off {c : Prop} {kp : Bool} {k : SV → List Ob → Nat → Prop} (ent : ∀ args W, (callFunc f args).run P W = .ok (.enter f args) W) (hc : ¬ c) (v : SV) (hv : v.lt nx = true) (hk : k v L nx) : EvCallC c kp P w f args L nx k :=
  ⟨ent, .inl ⟨v, hv, fun h => absurd h hc, hk⟩⟩
theorem EvRet.ret {v : SV} {V : Value} (h : ∀ ρ : Rho, den ρ v = V) : EvRet w (Ret w.toWorld V) v L nx := ⟨fun ρ W hp _ => ⟨by rw [h], hp.bel⟩⟩
/-- A call that hands back a new slice (perhaps nil) of rows: it becomes an object of the caller's. -/
def RetRows {α : Type} (R : RowS α) (ty : TypeId) (w : World) (xs : List α) (e : Ending) (w' : World) : Prop :=
  ∃ A cap, e = .returned (.slice A xs.length cap) ∧ Below w.heap.size w w' ∧ xs.length ≤ cap ∧
    OwnOk w.heap.size (fun _ => A) ⟨0, true, ty, R.cols.length, cap, .rows α R xs⟩ w'
theorem OwnOk.rename {B : Nat} {ρ ρ' : Rho} {o : Ob} {W : World} {n : Nat} {α : Type} {R : RowS α} {xs : List α} (hc : o.c = .rows α R xs) (he : ρ' n = ρ o.n) (h : OwnOk B ρ o W) : OwnOk B ρ' ⟨n, true, o.ty, o.size, o.cap, o.c⟩ W := by
  unfold OwnOk at *
  simp only [hc, Ct.cells] at *
  rw [he]
  exact h
theorem EvCall.rows {kp : Bool} {k : SV → List Ob → Nat → Prop} {α : Type} {R : RowS α} {ty : TypeId} {xs : List α} (ent : ∀ args W, (callFunc f args).run P W = .ok (.enter f args) W)
    (h : ∀ ρ W, Hp w ρ L nx W → Con P f (denL ρ args).toArray W (RetRows R ty W xs)) (hk : ∀ cap, xs.length ≤ cap → cap ≤ 9223372036854775807 → k (.s nx R.cols.length xs.length cap) (⟨nx, true, ty, R.cols.length, cap, .rows α R xs⟩ :: L) (nx + 1)) : EvCall kp P w f args L nx k := by
  refine ⟨ent, fun ρ W hp _ => (h ρ W hp).out.mono fun e W' he => ?_⟩
  obtain ⟨A, cap, he, hb, hc, hok⟩ := he
  have hcm : cap ≤ 9223372036854775807 := by
    rcases hok with ⟨_, _, hx⟩ | ⟨_, _, _, _, _, hx, _⟩
    · simp only at hx; omega
    · simpa [maxLen] using hx
  refine ⟨_, he, fun _ => hb, upd ρ nx A, .s nx R.cols.length xs.length cap, _, nx + 1, by simp [den, upd_same], agree_upd ρ nx A, by omega, by simp [SV.lt, blt_iff], ?_, hk cap hc hcm⟩
  exact hp.new hb _ A rfl rfl rfl (OwnOk.rename (o := ⟨0, true, ty, R.cols.length, cap, .rows α R xs⟩) (n := nx) rfl (upd_same _ _ _) hok)
theorem EvRet.rows {α : Type} {R : RowS α} {ty : TypeId} {xs ys : List α} {n len cap : Nat} (hl : len = ys.length) (hc : ys.length ≤ cap) (hxy : xs = ys) (hn : fnd L n = some ⟨n, true, ty, R.cols.length, cap, .rows α R xs⟩) : EvRet w (RetRows R ty w.toWorld ys) (.s n R.cols.length len cap) L nx := by
  subst hxy
  subst hl
  obtain ⟨_, l1, l2, hL, _⟩ := fnd_split hn
  refine ⟨fun ρ W hp _ => ⟨ρ n, cap, by simp [den], hp.bel, hc, ?_⟩⟩
  have h1 := hp.obj _ (show (⟨n, true, ty, R.cols.length, cap, .rows α R xs⟩ : Ob) ∈ L by rw [hL]; simp)
  simp only [ObOk, if_true] at h1
  exact OwnOk.rename (o := ⟨n, true, ty, R.cols.length, cap, .rows α R xs⟩) (n := 0) rfl rfl h1
theorem EvRet.rows_nil {α : Type} {R : RowS α} {ty : TypeId} {ys : List α} (h : ys = []) : EvRet w (RetRows R ty w.toWorld ys) (.v (.slice none 0 0)) L nx := by
  subst h
  exact ⟨fun ρ W hp _ => ⟨none, 0, rfl, hp.bel, Nat.le_refl _, .inl ⟨rfl, rfl, rfl⟩⟩⟩
end

/-! what is known, forgotten -/
def σK (σ : List (Nat × Nat)) (n : Nat) : Nat :=
  match σ with
  | [] => n
  | (a, b) :: r => bif Nat.beq a n then b else σK r n
mutual
def eqSV (σ : List (Nat × Nat)) (gh : List Nat) : SV → SV → Prop
  | .v x, .v y => (match x, y with
    | .int k1 a, .int k2 b => Nat.beq (kb k1) (kb k2) = true ∧ b = a
    | .bool a, .bool b => b = a
    | x, y => y = x)
  | .p n off, .p n' off' => (gh.any (Nat.beq n) = false ∧ Nat.beq (σK σ n) n' = true) ∧ off' = off
  | .e n sz i j, .e n' sz' i' j' => (gh.any (Nat.beq n) = false ∧ Nat.beq (σK σ n) n' = true) ∧ sz' = sz ∧ i' = i ∧ j' = j
  | .s n sz len cap, .s n' sz' len' cap' => (gh.any (Nat.beq n) = false ∧ Nat.beq (σK σ n) n' = true) ∧ len' = len ∧ cap' = cap
  | .s n sz len cap, .v y => gh.any (Nat.beq n) = true ∧ y = .slice none 0 0 ∧ len = 0 ∧ cap = 0
  | .so n sz eo len cap, .so n' sz' eo' len' cap' => (gh.any (Nat.beq n) = false ∧ Nat.beq (σK σ n) n' = true) ∧ sz' = sz ∧ eo' = eo ∧ len' = len ∧ cap' = cap
  | .a l, .a l' => eqSVs σ gh l l'
  | .t l, .t l' => eqSVs σ gh l l'
  | .f fn l, .f fn' l' => fn' = fn ∧ eqSVs σ gh l l'
  | .m fn l, .m fn' l' => fn' = fn ∧ eqSVs σ gh l l'
  | _, _ => False
def eqSVs (σ : List (Nat × Nat)) (gh : List Nat) : List SV → List SV → Prop
  | [], [] => True
  | x :: r, y :: s => eqSV σ gh x y ∧ eqSVs σ gh r s
  | _, _ => False
end
def ρσ (σ : List (Nat × Nat)) (gh : List Nat) (ρ : Rho) : Rho := fun n => if gh.any (Nat.beq n) then none else ρ (σK σ n)
theorem ρσ_name {σ : List (Nat × Nat)} {gh : List Nat} {ρ : Rho} {n n' : Nat} (h : gh.any (Nat.beq n) = false ∧ Nat.beq (σK σ n) n' = true) : ρσ σ gh ρ n = ρ n' := by
  simp only [ρσ, h.1, Bool.false_eq_true, if_false]
  rw [Nat.eq_of_beq_eq_true h.2]
mutual
theorem eqSV_den {σ : List (Nat × Nat)} {gh : List Nat} {ρ : Rho} : ∀ (x y : SV), eqSV σ gh x y → den (ρσ σ gh ρ) x = den ρ y := by
  intro x y h
  cases x with
  | v x =>
    cases y <;> try exact h.elim
    rename_i y
    simp only [eqSV] at h
    split at h
    · obtain ⟨h1, rfl⟩ := h
      obtain rfl := kb_eq h1
      rfl
    · subst h; rfl
    · subst h; rfl
  | p n off =>
    cases y <;> try exact h.elim
    obtain ⟨h1, rfl⟩ := h
    simp [den, ρσ_name h1]
  | e n sz i j =>
    cases y <;> try exact h.elim
    obtain ⟨h1, rfl, rfl, rfl⟩ := h
    simp [den, ρσ_name h1]
  | s n sz len cap =>
    cases y <;> try exact h.elim
    · obtain ⟨h1, rfl, rfl, rfl⟩ := h
      simp only [den, ρσ, h1]
      rfl
    · obtain ⟨h1, rfl, rfl⟩ := h
      simp [den, ρσ_name h1]
  | so n sz eo len cap =>
    cases y <;> try exact h.elim
    obtain ⟨h1, rfl, rfl, rfl, rfl⟩ := h
    simp [den, ρσ_name h1]
  | a l =>
    cases y <;> try exact h.elim
    rename_i l'
    simp [den, eqSVs_den l l' h]
  | t l =>
    cases y <;> try exact h.elim
    rename_i l'
    simp [den, eqSVs_den l l' h]
  | f fn l =>
    cases y <;> try exact h.elim
    rename_i fn' l'
    obtain ⟨rfl, h⟩ := h
    simp [den, eqSVs_den l l' h]
  | m fn l =>
    cases y <;> try exact h.elim
    rename_i fn' l'
    obtain ⟨rfl, h⟩ := h
    simp [den, eqSVs_den l l' h]
theorem eqSVs_den {σ : List (Nat × Nat)} {gh : List Nat} {ρ : Rho} : ∀ (l l' : List SV), eqSVs σ gh l l' → denL (ρσ σ gh ρ) l = denL ρ l' := by
  intro l l' h
  cases l with
  | nil =>
    cases l' with
    | nil => rfl
    | cons y s => exact h.elim
  | cons x r =>
    cases l' with
    | nil => exact h.elim
    | cons y s =>
      obtain ⟨h1, h2⟩ := h
      simp [denL, eqSV_den x y h1, eqSVs_den r s h2]
end

def subE (σ : List (Nat × Nat)) (gh : List Nat) (n0 : Nat) : Env → Env → Prop
  | [], _ => True
  | (t, p, v) :: r, e => lkK e t (fun p' v' => bif List.isEmpty p && (List.isEmpty p' && v.lt n0) then eqSV σ gh v v' ∧ subE σ gh n0 r e else False)
def ctNil : Ct → Prop
  | .cs l => l = []
  | .rows _ _ xs => xs = []
def ctEq (σ : List (Nat × Nat)) (gh : List Nat) : Ct → Ct → Prop
  | .cs l0, .cs l => eqSVs σ gh l0 l
  | .rows α R xs, .rows β R' ys => Ct.rows β R' ys = .rows α R xs
  | .rows α R xs, .cs l => ∀ ρ : Rho, denL ρ l = (Ct.rows α R xs).cells ρ
  | _, _ => False
def subO (σ : List (Nat × Nat)) (gh : List Nat) (n0 : Nat) : List Ob → List Ob → Prop
  | [], _ => True
  | o0 :: r, l => (bif Nat.blt o0.n n0 && o0.c.lt n0 then
      (bif gh.any (Nat.beq o0.n) then o0.own = true ∧ ctNil o0.c ∧ o0.cap = 0
       else obK l (σK σ o0.n) (fun o => (o.own = o0.own ∧ o.ty = o0.ty ∧ o.size = o0.size ∧ o.cap = o0.cap) ∧ ctEq σ gh o0.c o.c)) else False) ∧ subO σ gh n0 r l
def apartB (σ : List (Nat × Nat)) (gh : List Nat) : List Ob → Bool
  | [] => true
  | o :: r => (gh.any (Nat.beq o.n) || r.all (fun o' => gh.any (Nat.beq o'.n) || !(Nat.beq (σK σ o.n) (σK σ o'.n)))) && apartB σ gh r
theorem subE_sound {σ : List (Nat × Nat)} {gh : List Nat} {n0 : Nat} {e : Env} : ∀ {e0 : Env}, subE σ gh n0 e0 e → ∀ t p v, lk e0 t = some (p, v) → p = [] ∧ v.lt n0 = true ∧ ∃ v', lk e t = some ([], v') ∧ eqSV σ gh v v'
  | [], h, t, p, v, hl => by simp [lk] at hl
  | (t', p', v') :: r, h, t, p, v, hl => by
    obtain ⟨p1, v1, h1, h2⟩ := lkK_sound h
    cases hb : (List.isEmpty p' && (List.isEmpty p1 && v'.lt n0)) with
    | false => rw [hb] at h2; exact h2.elim
    | true =>
      rw [hb] at h2
      simp only [Bool.and_eq_true, List.isEmpty_iff] at hb
      obtain ⟨rfl, rfl, hlt⟩ := hb
      obtain ⟨h3, h4⟩ := h2
      simp only [lk] at hl
      cases hbb : Nat.beq t' t with
      | true =>
        rw [hbb] at hl
        simp at hl
        obtain ⟨rfl, rfl⟩ := hl
        obtain rfl := Nat.eq_of_beq_eq_true hbb
        exact ⟨rfl, hlt, v1, h1, h3⟩
      | false =>
        rw [hbb] at hl
        exact subE_sound h4 t p v hl
theorem ctEq_cells {σ : List (Nat × Nat)} {gh : List Nat} {ρ : Rho} {c0 c : Ct} (h : ctEq σ gh c0 c) : c0.cells (ρσ σ gh ρ) = c.cells ρ := by
  cases c0 with
  | cs l0 =>
    cases c with
    | cs l => exact eqSVs_den l0 l h
    | rows _ _ _ => exact h.elim
  | rows α R xs =>
    cases c with
    | cs l => exact (h ρ).symm
    | rows β R' ys =>
      have h' : Ct.rows β R' ys = .rows α R xs := h
      rw [h']
      rfl
theorem ctNil_cells {ρ : Rho} {c : Ct} (h : ctNil c) : c.cells ρ = [] := by
  cases c with
  | cs l => simp only [ctNil] at h; subst h; rfl
  | rows _ _ xs => simp only [ctNil] at h; subst h; rfl
theorem subO_sound {σ : List (Nat × Nat)} {gh : List Nat} {n0 : Nat} {l : List Ob} : ∀ {l0 : List Ob}, subO σ gh n0 l0 l → ∀ o0 ∈ l0, (o0.n < n0 ∧ o0.c.lt n0 = true) ∧
    ((gh.any (Nat.beq o0.n) = true ∧ o0.own = true ∧ ctNil o0.c ∧ o0.cap = 0) ∨ (gh.any (Nat.beq o0.n) = false ∧ ∃ o ∈ l, o.n = σK σ o0.n ∧ (o.own = o0.own ∧ o.ty = o0.ty ∧ o.size = o0.size ∧ o.cap = o0.cap) ∧ ctEq σ gh o0.c o.c))
  | [], h, o0, ho => by simp at ho
  | x :: r, h, o0, ho => by
    obtain ⟨h1, h2⟩ := h
    rcases List.mem_cons.1 ho with rfl | ho
    · cases hb : (Nat.blt o0.n n0 && o0.c.lt n0) with
      | false => rw [hb] at h1; exact h1.elim
      | true =>
        rw [hb] at h1
        simp only [Bool.and_eq_true, blt_iff] at hb
        refine ⟨hb, ?_⟩
        cases hg : gh.any (Nat.beq o0.n) with
        | true => rw [hg] at h1; exact .inl ⟨rfl, h1⟩
        | false =>
          rw [hg] at h1
          obtain ⟨o, ho, hn, h3⟩ := obK_sound h1
          exact .inr ⟨rfl, o, ho, hn, h3⟩
    · exact subO_sound h2 o0 ho
theorem apart_symm {ρ : Rho} {o o' : Ob} (h : Apart ρ o o') : Apart ρ o' o := by
  intro h1 h2 h3 h4
  by_cases h5 : ρ o.n = none
  · exact h3 (h4.trans h5)
  · exact h h2 h1 h5 h4.symm
theorem apart_of {ρ : Rho} : ∀ {L : List Ob}, L.Pairwise (Apart ρ) → ∀ o ∈ L, ∀ o' ∈ L, o.n ≠ o'.n → Apart ρ o o'
  | [], _, o, ho, _, _, _ => by simp at ho
  | x :: r, h, o, ho, o', ho', hne => by
    obtain ⟨h1, h2⟩ := List.pairwise_cons.1 h
    rcases List.mem_cons.1 ho with rfl | hq
    · rcases List.mem_cons.1 ho' with rfl | hq'
      · exact absurd rfl hne
      · exact h1 o' hq'
    · rcases List.mem_cons.1 ho' with rfl | hq'
      · exact apart_symm (h1 o hq)
      · exact apart_of h2 o hq o' hq' hne
/-- The names below m are left alone. -/
def pinB (m : Nat) (σ : List (Nat × Nat)) (gh : List Nat) (n0 : Nat) : Bool := Nat.ble m n0 && (σ.all (fun x => Nat.ble m x.1) && gh.all (fun x => Nat.ble m x))
theorem σK_pin {m : Nat} : ∀ {σ : List (Nat × Nat)}, σ.all (fun x => Nat.ble m x.1) = true → ∀ n, n < m → σK σ n = n
  | [], _, n, _ => rfl
  | (a, b) :: r, h, n, hn => by
    simp only [List.all_cons, Bool.and_eq_true] at h
    simp only [σK]
    cases hb : Nat.beq a n with
    | true =>
      have h1 := Nat.le_of_ble_eq_true h.1
      have h2 := Nat.eq_of_beq_eq_true hb
      omega
    | false => exact σK_pin h.2 n hn
theorem Sub.of {m : Nat} {e0 : Env} {l0 : List Ob} {n0 : Nat} {e : Env} {l : List Ob} {n : Nat} (σ : List (Nat × Nat)) (gh : List Nat) (hap0 : (apartB σ gh l0 && pinB m σ gh n0) = true) (h : subE σ gh n0 e0 e ∧ subO σ gh n0 l0 l) : Sub m e0 l0 n0 e l n := by
  intro w N ρ a W hw hk
  rw [Bool.and_eq_true] at hap0
  obtain ⟨hap, hpin⟩ := hap0
  simp only [pinB, Bool.and_eq_true] at hpin
  obtain ⟨hp1, hp2, hp3⟩ := hpin
  have hp1 := Nat.le_of_ble_eq_true hp1
  have hpins : w.n0 ≤ n0 ∧ ∀ n, n < w.n0 → ρσ σ gh ρ n = w.ρ0 n := by
    refine ⟨by omega, fun n hn => ?_⟩
    have hg : gh.any (Nat.beq n) = false := by
      rw [List.any_eq_false]
      intro x hx hb
      have h1 := Nat.le_of_ble_eq_true (List.all_eq_true.1 hp3 x hx)
      have h2 := Nat.eq_of_beq_eq_true hb
      omega
    simp only [ρσ, hg, Bool.false_eq_true, if_false]
    rw [σK_pin hp2 n (by omega)]
    exact hk.hp.pin.2 n hn
  obtain ⟨hE, hO⟩ := h
  refine ⟨ρσ σ gh ρ, ⟨?_, ?_, ?_, ?_⟩, ⟨hk.hp.bel, ?_, ?_, ?_, hpins⟩, hk.dfr, hk.size⟩
  · intro t p v hl
    obtain ⟨rfl, h1, v', h2, h3⟩ := subE_sound hE t p v hl
    have := hk.fk.slots t [] v' h2
    rw [this]
    simp [holdsB, eqSV_den v v' h3]
  · intro s b hs
    simp [lkG] at hs
  · intro t p v hl
    obtain ⟨rfl, _⟩ := subE_sound hE t p v hl
    simp
  · intro t p v hl _
    exact (subE_sound hE t p v hl).2.1
  · intro o0 ho0
    obtain ⟨_, h1⟩ := subO_sound hO o0 ho0
    rcases h1 with ⟨g1, g2, g3, g4⟩ | ⟨g0, o, ho, hn, ⟨g1, g2, g3, g4⟩, g5⟩
    · unfold ObOk
      rw [if_pos g2]
      exact .inl ⟨by simp [ρσ, g1], ctNil_cells g3, g4⟩
    · have h2 := hk.hp.obj o ho
      have hc := ctEq_cells (ρ := ρ) g5
      have hr : ρσ σ gh ρ o0.n = ρ o.n := by simp [ρσ, g0, hn]
      unfold ObOk OwnOk RoOk at *
      rw [hr, hc, ← g1, ← g2, ← g3, ← g4]
      exact h2
  · have key : ∀ (l1 : List Ob), (∀ o ∈ l1, o ∈ l0) → apartB σ gh l1 = true → l1.Pairwise (Apart (ρσ σ gh ρ)) := by
      intro l1
      induction l1 with
      | nil => intro _ _; exact .nil
      | cons x r ih =>
        intro hm hb
        simp only [apartB, Bool.and_eq_true, Bool.or_eq_true, List.all_eq_true] at hb
        refine List.pairwise_cons.2 ⟨fun y hy hox hoy hne heq => ?_, ih (fun o ho => hm o (List.mem_cons_of_mem _ ho)) hb.2⟩
        obtain ⟨_, hx⟩ := subO_sound hO x (hm x (List.mem_cons_self ..))
        obtain ⟨_, hy'⟩ := subO_sound hO y (hm y (List.mem_cons_of_mem _ hy))
        rcases hx with ⟨g1, _⟩ | ⟨g0, o, ho, hn, ⟨g1, _⟩, _⟩
        · exact hne (by simp [ρσ, g1])
        · rcases hy' with ⟨k1, _⟩ | ⟨k0, o', ho', hn', ⟨k1, _⟩, _⟩
          · rw [heq] at hne
            exact hne (by simp [ρσ, k1])
          · have hne2 : o.n ≠ o'.n := by
              rw [hn, hn']
              rcases hb.1 with hb | hb
              · rw [g0] at hb; cases hb
              · rcases hb y hy with hb | hb
                · rw [k0] at hb; cases hb
                · intro hh
                  rw [hh] at hb
                  simp at hb
            have hap := apart_of hk.hp.dis o ho o' ho' hne2
            have e1 : ρσ σ gh ρ x.n = ρ o.n := by simp [ρσ, g0, hn]
            have e2 : ρσ σ gh ρ y.n = ρ o'.n := by simp [ρσ, k0, hn']
            rw [e1] at hne heq
            rw [e2] at heq
            exact hap (g1.trans hox) (k1.trans hoy) hne heq
    exact key l0 (fun _ h => h) hap
  · intro o0 ho0
    exact (subO_sound hO o0 ho0).1
end Go.Proofs.YtebfhljamoapjaaDoor
namespace Go.Proofs.YtebfhljamoapjaaDoor
open Go.RowKit
set_option linter.unusedVariables false
set_option linter.unusedSimpArgs false

/-- An int as an element. -/
def ofI (cs : List Value) : Option Int :=
  match cs with
  | [.int .i64 z] => some z
  | _ => none
theorem ofI_law (cs : List Value) (x : Int) (h : ofI cs = some x) : [Value.int .i64 x] = cs := by
  unfold ofI at h
  split at h
  · simp at h
    subst h
    rfl
  · cases h
def rI : RowS Int := { cols := [fun z => .int .i64 z], d := 0, of := ofI, law := fun cs x h => ofI_law cs x h, one := fun x f hf => by simp at hf; subst hf; rfl }
theorem Hp.ro {w : Ref} {ρ : Rho} {L : List Ob} {nx : Nat} (h : Hp w ρ L nx w.toWorld) (o : Ob) (ho : o.own = false) (hn : Nat.blt o.n nx = true) (hc : o.c.lt nx = true) (hr : RoOk w.heap.size ρ o w.toWorld) : Hp w ρ (o :: L) nx w.toWorld := by
  refine ⟨h.bel, ?_, List.pairwise_cons.2 ⟨fun x _ h1 => (by rw [ho] at h1; cases h1), h.dis⟩, ?_, h.pin⟩
  · intro x hx
    rcases List.mem_cons.1 hx with rfl | hx
    · simp only [ObOk, ho]
      exact hr
    · exact h.obj x hx
  · intro x hx
    rcases List.mem_cons.1 hx with rfl | hx
    · exact ⟨blt_iff.1 hn, hc⟩
    · exact h.lt x hx
theorem cells_ints (ρ : Rho) (zs : List Int) : (Ct.rows Int rI zs).cells ρ = zs.map (Value.int .i64) := by
  simp only [Ct.cells, rI, List.map_cons, List.map_nil]
  induction zs with
  | nil => rfl
  | cons z r ih => simp [ih]
theorem ro_ints {w : World} {zs : List Int} {A : Option Addr} {len c n : Nat} {ρ : Rho} (h : Ints w (.slice A len c) zs) (hρ : ρ n = A) (ty : TypeId) : RoOk w.heap.size ρ ⟨n, false, ty, 1, c, .rows Int rI zs⟩ w := by
  intro hl
  obtain ⟨⟨A', c', e, _, _, _, h4⟩, _⟩ := h
  simp at e
  obtain ⟨rfl, rfl, rfl⟩ := e
  simp only [cells_ints, List.length_map] at hl ⊢
  obtain ⟨b, off, rfl, hb, hcell⟩ := h4 hl
  exact ⟨b, off, hρ, .inl hb, hcell⟩
/-- What a slice of ints that came in is, for a walk. -/
theorem Ints.form {w : World} {v : Value} {zs : List Int} (h : Ints w v zs) : ∃ A c, v = .slice A zs.length c ∧ zs.length ≤ c ∧ c ≤ 9223372036854775807 := by
  obtain ⟨⟨A, c, e, h1, h2, _⟩, _⟩ := h
  exact ⟨A, c, e, h1, by simpa [maxLen] using h2⟩
/-- An object of ints reads as a slice of ints. -/
theorem Hp.ints {w : Ref} {ρ : Rho} {L : List Ob} {nx : Nat} {W : World} (h : Hp w ρ L nx W) {n c : Nat} {own : Bool} {ty : TypeId} {cap : Nat} {zs : List Int} (hf : fnd L n = some ⟨n, own, ty, 1, cap, .rows Int rI zs⟩) (hc : zs.length ≤ c) (hm : c ≤ 9223372036854775807) (hz : ∀ z ∈ zs, I64 z) :
    Ints W (den ρ (.s n 1 zs.length c)) zs := by
  obtain ⟨_, l1, l2, hL, _⟩ := fnd_split hf
  have hok := h.obj _ (show (⟨n, own, ty, 1, cap, .rows Int rI zs⟩ : Ob) ∈ L by rw [hL]; simp)
  refine ⟨⟨ρ n, c, by simp [den], hc, by simpa [maxLen] using hm, by simp, fun h0 => ?_⟩, hz⟩
  have hcell := hok.cell (j := 0) (u := .int .i64 (zs.getD 0 0)) (by
    simp only [cells_ints]
    cases zs with
    | nil => simp at h0
    | cons z r => simp)
  obtain ⟨b, off, h1, h2⟩ := hcell
  refine ⟨b, off, h1, World.block_lt_of_cell? W _ h2, fun j u hu => ?_⟩
  obtain ⟨b', off', h1', h2'⟩ := hok.cell (j := j) (u := u) (by simp only [cells_ints]; exact hu)
  simp only at h1 h1'
  rw [h1] at h1'
  injection h1' with h1'
  injection h1' with e1 e2
  subst e1; subst e2
  exact h2'
end Go.Proofs.YtebfhljamoapjaaDoor
namespace Go.Proofs.YtebfhljamoapjaaDoor
open Go.RowKit
set_option linter.unusedVariables false
set_option linter.unusedSimpArgs false

/-- The cells of rows. -/
def rowC {α : Type} (R : RowS α) (xs : List α) : List Value := xs.flatMap (fun x => R.cols.map (fun f => f x))
theorem rowC_len {α : Type} (R : RowS α) (xs : List α) : (rowC R xs).length = xs.length * R.cols.length := by
  simp [rowC, List.length_flatMap, List.map_const', List.sum_replicate_nat]
theorem rowC_app {α : Type} (R : RowS α) (xs ys : List α) : rowC R (xs ++ ys) = rowC R xs ++ rowC R ys := by simp [rowC]
/-- A slice that reads as rows. -/
def RowsIn {α : Type} (R : RowS α) (w : World) (v : Value) (xs : List α) : Prop := Sl w R.cols.length v xs.length (rowC R xs)
theorem RowsIn.form {α : Type} {R : RowS α} {w : World} {v : Value} {xs : List α} (h : RowsIn R w v xs) : ∃ A c, v = .slice A xs.length c ∧ xs.length ≤ c ∧ c ≤ 9223372036854775807 := by
  obtain ⟨A, c, e, h1, h2, _⟩ := h
  exact ⟨A, c, e, h1, by simpa [maxLen] using h2⟩
theorem RowsIn.below {α : Type} {R : RowS α} {w w' : World} {v : Value} {xs : List α} (h : RowsIn R w v xs) (hb : Below w.heap.size w w') : RowsIn R w' v xs := Sl.below h hb
theorem ro_rows {α : Type} {R : RowS α} {w : World} {xs : List α} {A : Option Addr} {len c n : Nat} {ρ : Rho} (h : RowsIn R w (.slice A len c) xs) (hρ : ρ n = A) (ty : TypeId) : RoOk w.heap.size ρ ⟨n, false, ty, R.cols.length, c, .rows α R xs⟩ w := by
  intro hl
  obtain ⟨A', c', e, _, _, hlen, h4⟩ := h
  simp at e
  obtain ⟨rfl, rfl, rfl⟩ := e
  have hl' : 0 < (rowC R xs).length := hl
  rw [rowC_len] at hl'
  have h0 : 0 < xs.length := by
    rcases Nat.eq_zero_or_pos xs.length with h | h
    · rw [h] at hl'; simp at hl'
    · exact h
  obtain ⟨b, off, rfl, hb, hcell⟩ := h4 h0
  exact ⟨b, off, hρ, .inl hb, hcell⟩
theorem Hp.rowsIn {α : Type} {R : RowS α} {w : Ref} {ρ : Rho} {L : List Ob} {nx : Nat} {W : World} (h : Hp w ρ L nx W) {n c size : Nat} {own : Bool} {ty : TypeId} {cap : Nat} {xs : List α} (hf : fnd L n = some ⟨n, own, ty, size, cap, .rows α R xs⟩) (hR : 0 < R.cols.length) (hc : xs.length ≤ c) (hm : c ≤ 9223372036854775807) (sz : Nat) :
    RowsIn R W (den ρ (.s n sz xs.length c)) xs := by
  obtain ⟨_, l1, l2, hL, _⟩ := fnd_split hf
  have hok := h.obj _ (show (⟨n, own, ty, size, cap, .rows α R xs⟩ : Ob) ∈ L by rw [hL]; simp)
  refine ⟨ρ n, c, by simp [den], hc, by simpa [maxLen] using hm, rowC_len R xs, fun h0 => ?_⟩
  have hpos : 0 < (rowC R xs).length := by rw [rowC_len]; exact Nat.mul_pos h0 hR
  obtain ⟨b, off, h1, h2⟩ := hok.cell (j := 0) (u := (rowC R xs)[0]) (List.getElem?_eq_getElem hpos)
  refine ⟨b, off, h1, World.block_lt_of_cell? W _ h2, fun j u hu => ?_⟩
  obtain ⟨b', off', h1', h2'⟩ := hok.cell (j := j) (u := u) hu
  simp only at h1 h1'
  rw [h1] at h1'
  injection h1' with h1'
  injection h1' with e1 e2
  subst e1; subst e2
  exact h2'
theorem ints_rows {w : World} {v : Value} {zs : List Int} (h : RowsIn rI w v zs) (hz : ∀ z ∈ zs, I64 z) : Ints w v zs := by
  refine ⟨?_, hz⟩
  have : rowC rI zs = zs.map (Value.int .i64) := cells_ints (fun _ => none) zs
  rw [← this]
  exact h
theorem rows_ints {w : World} {v : Value} {zs : List Int} (h : Ints w v zs) : RowsIn rI w v zs := by
  have : rowC rI zs = zs.map (Value.int .i64) := cells_ints (fun _ => none) zs
  unfold RowsIn
  rw [this]
  exact h.1

/-- An object is taken out. -/
def rmL : List Ob → Nat → List Ob
  | [], _ => []
  | o :: r, n => bif Nat.beq o.n n then r else o :: rmL r n
theorem rmL_split {n : Nat} {o : Ob} : ∀ {L : List Ob}, fnd L n = some o → ∃ l1 l2, L = l1 ++ o :: l2 ∧ rmL L n = l1 ++ l2
  | [], h => by cases h
  | x :: r, h => by
    simp only [fnd] at h
    cases hb : Nat.beq x.n n with
    | true =>
      rw [hb] at h
      simp at h
      subst h
      exact ⟨[], r, rfl, by simp [rmL, hb]⟩
    | false =>
      rw [hb] at h
      obtain ⟨l1, l2, h2, h3⟩ := rmL_split (L := r) h
      exact ⟨x :: l1, l2, by simp [h2], by simp [rmL, hb, h3]⟩
/-- Blocks outside row stay; all objects but n stay. -/
theorem Hp.grown {w : Ref} {ρ : Rho} {L : List Ob} {nx : Nat} {W W' : World} (h : Hp w ρ L nx W) {n : Nat} {o : Ob} (ho : fnd L n = some o) (hown : o.own = true) {v : Value} (hv : v.ownBlock = (ρ n).map (·.block)) (hg : W.grownBy W' v.ownBlock) : Hp w ρ (rmL L n) nx W' := by
  obtain ⟨l1, l2, hL, hR⟩ := rmL_split ho
  obtain ⟨hn, _⟩ := fnd_split ho
  have hmem : o ∈ L := by rw [hL]; simp
  have hdis := h.dis
  rw [hL] at hdis
  have hd1 := List.pairwise_append.1 hdis
  have hd2 := List.pairwise_cons.1 hd1.2.1
  have hrow : ∀ k, v.ownBlock = some k → w.heap.size ≤ k := by
    intro k hk
    have hok := h.obj o hmem
    unfold ObOk at hok
    rw [if_pos hown] at hok
    rcases hok with ⟨hx, _⟩ | ⟨g, _, hx, hB, _⟩
    · rw [hv, ← hn, hx] at hk; cases hk
    · rw [hv, ← hn, hx] at hk
      simp at hk
      omega
  have hbel : Below w.heap.size w.toWorld W' := by
    refine ⟨hg.os.trans h.bel.os, hg.tape.trans h.bel.tape, hg.output.trans h.bel.output, Nat.le_trans h.bel.size hg.size, fun k hk => ?_⟩
    rw [hg.block k (Nat.lt_of_lt_of_le hk h.bel.size) (fun e => by have := hrow k e.symm; omega)]
    exact h.bel.block k hk
  rw [hR]
  refine ⟨hbel, ?_, ?_, fun o' ho' => h.lt o' (by rw [hL]; rcases List.mem_append.1 ho' with h' | h' <;> simp [h']), h.pin⟩
  · intro o' ho'
    have hm' : o' ∈ L := by rw [hL]; rcases List.mem_append.1 ho' with h' | h' <;> simp [h']
    have hok := h.obj o' hm'
    unfold ObOk at *
    split
    · rename_i hw'
      rw [if_pos hw'] at hok
      rcases hok with hok | ⟨g, junk, e1, e2, e3, e4, e5⟩
      · exact .inl hok
      · refine .inr ⟨g, junk, e1, e2, e3, e4, ?_⟩
        unfold Blk at *
        rw [hg.block g (Array.getElem?_eq_some_iff.1 e5).1 (fun e => ?_)]
        · exact e5
        · rw [hv] at e
          cases hr : ρ n with
          | none => rw [hr] at e; cases e
          | some A =>
            have hok2 := h.obj o hmem
            unfold ObOk at hok2
            rw [if_pos hown] at hok2
            rcases hok2 with ⟨hx, _⟩ | ⟨g2, _, hx, _⟩
            · rw [hn, hr] at hx; cases hx
            · rw [hn] at hx
              rw [hx] at e
              simp at e
              subst e
              rcases List.mem_append.1 ho' with h' | h'
              · exact hd1.2.2 o' h' o (by simp) hw' hown (by rw [e1]; simp) (by rw [e1, hn, hx])
              · exact hd2.1 o' h' hown hw' (by rw [hn, hx]; simp) (by rw [e1, hn, hx])
    · rename_i hw'
      rw [if_neg hw'] at hok
      intro hl
      obtain ⟨b, off, e1, e2, e3⟩ := hok hl
      have hb : b < W.heap.size := by
        rcases e2 with e2 | e2
        · exact Nat.lt_of_lt_of_le e2 h.bel.size
        · exact e2.lt
      have hne : some b ≠ v.ownBlock := fun e => by
        rcases e2 with e2 | e2
        · have := hrow b e.symm; omega
        · have hok2 := h.obj o hmem
          unfold ObOk at hok2
          rw [if_pos hown] at hok2
          rcases hok2 with ⟨hx, _⟩ | ⟨g2, _, hx, _, _, _, hblk⟩
          · rw [hv, ← hn, hx] at e; cases e
          · rw [hv, ← hn, hx] at e
            simp at e
            exact e2.ne hblk e
      refine ⟨b, off, e1, e2.imp id (fun h => h.kept (hg.block b hb hne)), fun j u hu => ?_⟩
      rw [World.cell?_of_block (w := W) (a := ⟨b, off + j, none⟩) (hg.block b hb hne)]
      exact e3 j u hu
  · refine List.pairwise_append.2 ⟨hd1.1, hd2.2, fun a ha b hb => hd1.2.2 a ha b (by simp [hb])⟩
end Go.Proofs.YtebfhljamoapjaaDoor
namespace Go.Proofs.YtebfhljamoapjaaDoor
open Go.RowKit
set_option linter.unusedVariables false
set_option linter.unusedSimpArgs false

theorem Hp.add {w : Ref} {ρ : Rho} {L : List Ob} {nx : Nat} {W : World} (h : Hp w ρ L nx W) (o : Ob) (A : Option Addr) (hn : o.n = nx) (ho : o.own = true) (hc : o.c.lt (nx + 1) = true)
    (hok : OwnOk w.heap.size (upd ρ nx A) o W) (hap : ∀ B, A = some B → ∀ o' ∈ L, o'.own = true → ρ o'.n ≠ some B) : Hp w (upd ρ nx A) (o :: L) (nx + 1) W := by
  have h1 := h.agree (agree_upd ρ nx A)
  refine ⟨h1.bel, ?_, ?_, ?_, Nat.le_succ_of_le h1.pin.1, h1.pin.2⟩
  · intro o' ho'
    rcases List.mem_cons.1 ho' with rfl | ho'
    · unfold ObOk
      rw [if_pos ho]
      exact hok
    · exact h1.obj o' ho'
  · refine List.pairwise_cons.2 ⟨fun o' ho' _ hw' hne => ?_, h1.dis⟩
    intro he
    rw [hn, upd_same] at hne he
    cases hA : A with
    | none => exact hne hA
    | some B =>
      refine hap B hA o' ho' hw' ?_
      rw [← upd_lt (ρ := ρ) (A := A) (h.lt o' ho').1, ← he, hA]
  · intro o' ho'
    rcases List.mem_cons.1 ho' with rfl | ho'
    · exact ⟨by omega, hc⟩
    · obtain ⟨a1, a2⟩ := h.lt o' ho'
      refine ⟨by omega, ?_⟩
      cases h5 : o'.c with
      | cs l => rw [h5] at a2; exact ltL_mono (Nat.le_succ _) l a2
      | rows _ _ _ => rfl
theorem own_to_row {α : Type} {R : RowS α} {B : Nat} {ρ : Rho} {W : World} {n cap : Nat} {ty : TypeId} {xs : List α} (hR : 0 < R.cols.length) (h : OwnOk B ρ ⟨n, true, ty, R.cols.length, cap, .rows α R xs⟩ W) (hc : xs.length ≤ cap) :
    W.ownsRow B ty R.cols.length (.slice (ρ n) xs.length cap) xs.length (rowC R xs) := by
  refine ⟨rowC_len R xs, ?_⟩
  rcases h with ⟨h1, h2, h3⟩ | ⟨g, junk, h1, h2, h3, h4, h5⟩
  · simp only at h1 h2 h3
    have : xs.length = 0 := by omega
    exact .inl ⟨by rw [h1, this, h3], this⟩
  · simp only at h1 h3 h4 h5
    refine .inr ⟨g, cap, _, by rw [h1], h2, h5, hc, h4, ?_, ?_⟩
    · simpa using h3
    · have hl := rowC_len R xs
      have : (Ct.rows α R xs).cells ρ = rowC R xs := rfl
      rw [this]
      simp [← hl]
theorem row_to_own {α : Type} {R : RowS α} {B : Nat} {ρ : Rho} {W : World} {n cap len : Nat} {ty : TypeId} {xs : List α} {A : Option Addr} (hl : len = xs.length) (h : W.ownsRow B ty R.cols.length (.slice A len cap) len (rowC R xs)) (hρ : ρ n = A) :
    OwnOk B ρ ⟨n, true, ty, R.cols.length, cap, .rows α R xs⟩ W ∧ len ≤ cap := by
  subst hl
  rcases h.2 with ⟨h1, h2⟩ | ⟨g, cap', cur, h1, h2, h3, h4, h5, h6, h7⟩
  · simp at h1
    obtain ⟨rfl, h1, rfl⟩ := h1
    refine ⟨.inl ⟨hρ, ?_, rfl⟩, by omega⟩
    have : (Ct.rows α R xs).cells ρ = rowC R xs := rfl
    simp only [this]
    exact List.eq_nil_of_length_eq_zero (by rw [rowC_len, h2]; simp)
  · simp at h1
    obtain ⟨rfl, rfl⟩ := h1
    refine ⟨.inr ⟨g, cur.toList.drop (rowC R xs).length, hρ, h2, ?_, h5, ?_⟩, h4⟩
    · have : (Ct.rows α R xs).cells ρ = rowC R xs := rfl
      have hle : xs.length * R.cols.length ≤ cap * R.cols.length := Nat.mul_le_mul_right _ h4
      simp only [this, List.length_drop, Array.length_toList, h6, rowC_len]
      omega
    · have hcell : (Ct.rows α R xs).cells ρ = rowC R xs := rfl
      simp only [hcell]
      have : rowC R xs ++ cur.toList.drop (rowC R xs).length = cur.toList := by
        have e : cur.toList.take (rowC R xs).length = rowC R xs := by rw [rowC_len]; exact h7
        conv => lhs; lhs; rw [← e]
        exact List.take_append_drop _ _
      rw [this]
      exact h3
theorem ownBlock_eq (A : Option Addr) (n c : Nat) : (Value.slice A n c).ownBlock = A.map (·.block) := by cases A <;> rfl
section
variable {P : Program} {w : Ref} {L : List Ob} {nx : Nat} {k : SV → List Ob → Nat → Prop} {kp : Bool} {α : Type} {R : RowS α}
theorem rowC_one (R : RowS α) (ys : List α) : ∀ u ∈ rowC R ys, u.oneCell' = true := by
  intro u hu
  simp only [rowC, List.mem_flatMap, List.mem_map] at hu
  obtain ⟨x, _, f, hf, rfl⟩ := hu
  exact R.one x f hf
theorem EvBi.append {t ty : TypeId} {ti te : TI} (ht : TyOk P t ti) (hd : ti.d = .slice ty) (hty : TyOk P ty te) (hsz : te.size = R.cols.length) (hpos : 0 < R.cols.length) (hzs : te.zero.cells.size = te.size)
    {n len cap sz : Nat} {xs : List α} (hn : fnd L n = some ⟨n, true, ty, R.cols.length, cap, .rows α R xs⟩) (hl : len = xs.length) (hc : xs.length ≤ cap) {src : SV} (ys : List α) (hsrc : ∀ ρ W, Hp w ρ L nx W → RowsIn R W (den ρ src) ys)
    (hmax : (xs.length + ys.length) * te.bytes ≤ 140737488355328) (hmx : xs.length + ys.length ≤ 9223372036854775807)
    (hk : ∀ cap', xs.length + ys.length ≤ cap' → cap' ≤ 9223372036854775807 → k (.s nx R.cols.length (xs.length + ys.length) cap') (⟨nx, true, ty, R.cols.length, cap', .rows α R (xs ++ ys)⟩ :: rmL L n) (nx + 1)) :
    EvBi false P w .append [.s n sz len cap, src] [t, t] L nx k := by
  subst hl
  refine ⟨fun ρ W hp hlt tt c => ?_⟩
  obtain ⟨hnn, l1, l2, hL, _⟩ := fnd_split hn
  have hok := hp.obj _ (show (⟨n, true, ty, R.cols.length, cap, .rows α R xs⟩ : Ob) ∈ L by rw [hL]; simp)
  simp only [ObOk, if_true] at hok
  have hrow := own_to_row hpos hok hc
  obtain ⟨_, j, hj1, hj2, hj3, hj4, _⟩ := hty
  have hS := hsrc ρ W hp
  obtain ⟨A, cap', W', h1, h2, h3, h4⟩ := run_append_sl (P := P) W w.heap.size t tt ty j te.zero R.cols.length te.bytes (by rw [ht.1, hd]) hj1 hj4 (hj2.trans hsz) hj3 (hzs.trans hsz) hpos
    (.slice (ρ n) xs.length cap) xs.length (rowC R xs) hrow (den ρ src) ys.length (rowC R ys) hS (rowC_one R ys) (by simpa [maxLen] using hmx) hmax hp.bel.size
  rw [← rowC_app] at h2
  have hG := hp.grown hn rfl (v := .slice (ρ n) xs.length cap) (ownBlock_eq _ _ _) h3
  obtain ⟨hown, hcc⟩ := row_to_own (R := R) (ρ := upd ρ nx A) (n := nx) (xs := xs ++ ys) (by simp) h2 (upd_same _ _ _)
  refine ⟨.slice A (xs.length + ys.length) cap', W', ?_, (fun h => by cases h), upd ρ nx A, .s nx R.cols.length (xs.length + ys.length) cap', _, nx + 1, by simp [den, upd_same], agree_upd ρ nx A, by omega, by simp [SV.lt, blt_iff], ?_, hk cap' hcc ?_⟩
  · simp only [builtin, denL, den]
    simp only [Sem.run_bind]
    have : #[t, t] = [t, t].toArray := rfl
    rw [← this]
    have e2 : #[Value.slice (ρ n) xs.length cap, den ρ src] = [Value.slice (ρ n) xs.length cap, den ρ src].toArray := rfl
    rw [← e2, h1]
    rfl
  · refine hG.add _ A rfl rfl rfl hown ?_
    intro B hB o' ho' hw'
    subst hB
    obtain ⟨m1, m2, hL2, hR2⟩ := rmL_split hn
    rw [hR2] at ho'
    have hmem' : o' ∈ L := by rw [hL2]; rcases List.mem_append.1 ho' with h | h <;> simp [h]
    have hobj' := hp.obj o' hmem'
    unfold ObOk at hobj'
    rw [if_pos hw'] at hobj'
    intro he
    have hblt := hobj'.blk_lt he
    rcases h4 B.block (by simp [ownBlock_eq]) with h5 | h5
    · have hdis := hp.dis
      rw [hL2] at hdis
      have hd1 := List.pairwise_append.1 hdis
      have hd2 := List.pairwise_cons.1 hd1.2.1
      rw [ownBlock_eq, Option.map_eq_some_iff] at h5
      obtain ⟨A0, hA0, hA1⟩ := h5
      have hBA : B = A0 := by
        rcases hok with ⟨hx, _⟩ | ⟨g, _, hx, _⟩
        · simp only at hx; rw [hx] at hA0; cases hA0
        · simp only at hx
          rw [hx] at hA0
          cases hA0
          rcases hobj' with ⟨hy, _⟩ | ⟨g', _, hy, _⟩
          · rw [hy] at he; cases he
          · rw [hy] at he
            cases he
            simp at hA1
            rw [hA1]
      subst hBA
      rcases List.mem_append.1 ho' with h' | h'
      · exact hd1.2.2 o' h' ⟨n, true, ty, R.cols.length, cap, .rows α R xs⟩ (by simp) hw' rfl (by rw [he]; simp) (by rw [he]; exact hA0.symm)
      · exact hd2.1 o' h' rfl hw' (by simp [hA0]) (by simp only [hA0]; exact he.symm)
    · omega
  · rcases hown with ⟨_, _, hx⟩ | ⟨_, _, _, _, _, hx, _⟩
    · simp only at hx; omega
    · simpa [maxLen] using hx
theorem EvBi.append_nil {t ty : TypeId} {ti te : TI} (ht : TyOk P t ti) (hd : ti.d = .slice ty) (hty : TyOk P ty te) (hsz : te.size = R.cols.length) (hpos : 0 < R.cols.length) (hzs : te.zero.cells.size = te.size)
    {src : SV} (ys : List α) (hsrc : ∀ ρ W, Hp w ρ L nx W → RowsIn R W (den ρ src) ys)
    (hmax : ys.length * te.bytes ≤ 140737488355328) (hmx : ys.length ≤ 9223372036854775807)
    (hk : ∀ cap', ys.length ≤ cap' → cap' ≤ 9223372036854775807 → k (.s nx R.cols.length ys.length cap') (⟨nx, true, ty, R.cols.length, cap', .rows α R ys⟩ :: L) (nx + 1)) :
    EvBi kp P w .append [.v (.slice none 0 0), src] [t, t] L nx k := by
  refine ⟨fun ρ W hp hlt tt c => ?_⟩
  have hrow : W.ownsRow w.heap.size ty R.cols.length (.slice none 0 0) 0 (rowC R ([] : List α)) := ⟨by simp [rowC], .inl ⟨rfl, rfl⟩⟩
  obtain ⟨_, j, hj1, hj2, hj3, hj4, _⟩ := hty
  have hS := hsrc ρ W hp
  obtain ⟨A, cap', W', h1, h2, h3, h4⟩ := run_append_sl (P := P) W w.heap.size t tt ty j te.zero R.cols.length te.bytes (by rw [ht.1, hd]) hj1 hj4 (hj2.trans hsz) hj3 (hzs.trans hsz) hpos
    (.slice none 0 0) 0 (rowC R ([] : List α)) hrow (den ρ src) ys.length (rowC R ys) hS (rowC_one R ys) (by simpa [maxLen] using hmx) (by simpa using hmax) hp.bel.size
  simp only [Nat.zero_add] at h1 h2 h4
  have h2' : W'.ownsRow w.heap.size ty R.cols.length (.slice A ys.length cap') ys.length (rowC R ys) := by simpa [rowC] using h2
  have hbel : Below W.heap.size W W' := ⟨h3.os, h3.tape, h3.output, h3.size, fun k hk => h3.block k hk (by simp [Value.ownBlock])⟩
  obtain ⟨hown, hcc⟩ := row_to_own (R := R) (ρ := upd ρ nx A) (n := nx) (xs := ys) rfl h2' (upd_same _ _ _)
  refine ⟨.slice A ys.length cap', W', ?_, (fun _ => hbel), upd ρ nx A, .s nx R.cols.length ys.length cap', _, nx + 1, by simp [den, upd_same], agree_upd ρ nx A, by omega, by simp [SV.lt, blt_iff], ?_, hk cap' hcc ?_⟩
  · simp only [builtin, denL, den]
    simp only [Sem.run_bind]
    have : #[t, t] = [t, t].toArray := rfl
    rw [← this]
    have e2 : #[Value.slice none 0 0, den ρ src] = [Value.slice none 0 0, den ρ src].toArray := rfl
    rw [← e2, h1]
    rfl
  · refine (hp.step hbel).add _ A rfl rfl rfl hown ?_
    intro B hB o' ho' hw' he
    subst hB
    have hobj' := hp.obj o' ho'
    unfold ObOk at hobj'
    rw [if_pos hw'] at hobj'
    have hblt := hobj'.blk_lt he
    rcases h4 B.block (by simp [ownBlock_eq]) with h5 | h5
    · simp [Value.ownBlock] at h5
    · omega
  · rcases hown with ⟨_, _, hx⟩ | ⟨_, _, _, _, _, hx, _⟩
    · simp only at hx; omega
    · simpa [maxLen] using hx
/-- Cells one by one read as rows. -/
theorem Hp.lit {ρ : Rho} {W : World} (h : Hp w ρ L nx W) {n size cap sz c : Nat} {own : Bool} {ty : TypeId} {cs : List SV} {ys : List α} (hf : fnd L n = some ⟨n, own, ty, size, cap, .cs cs⟩) (hpos : 0 < R.cols.length) (hc : ys.length ≤ c) (hm : c ≤ 9223372036854775807) (hy : denL ρ cs = rowC R ys) :
    RowsIn R W (den ρ (.s n sz ys.length c)) ys := by
  obtain ⟨_, l1, l2, hL, _⟩ := fnd_split hf
  have hok := h.obj _ (show (⟨n, own, ty, size, cap, .cs cs⟩ : Ob) ∈ L by rw [hL]; simp)
  have hcell : (Ct.cs cs).cells ρ = rowC R ys := hy
  refine ⟨ρ n, c, by simp [den], hc, by simpa [maxLen] using hm, rowC_len R ys, fun h0 => ?_⟩
  have hpos : 0 < (rowC R ys).length := by rw [rowC_len]; exact Nat.mul_pos h0 hpos
  obtain ⟨b, off, h1, h2⟩ := hok.cell (j := 0) (u := (rowC R ys)[0]) (by simp only [hcell]; exact List.getElem?_eq_getElem hpos)
  refine ⟨b, off, h1, World.block_lt_of_cell? W _ h2, fun j u hu => ?_⟩
  obtain ⟨b', off', h1', h2'⟩ := hok.cell (j := j) (u := u) (by simp only [hcell]; exact hu)
  simp only at h1 h1'
  rw [h1] at h1'
  injection h1' with h1'
  injection h1' with e1 e2
  subst e1; subst e2
  exact h2'
/-- make([]T, n). -/
theorem EvMake.full {t ty : TypeId} {ti te : TI} (ht : TyOk P t ti) (hd : ti.d = .slice ty) (hty : TyOk P ty te) (hsz : te.size = R.cols.length) (hpos : 0 < R.cols.length) (z : α) (hz : te.zero.cells.toList = R.cols.map (fun f => f z)) (n : Nat) (hb : te.bytes * n ≤ 140737488355328) (hn : n ≤ 9223372036854775807)
    (hk : k (.s nx R.cols.length n n) (⟨nx, true, ty, R.cols.length, n, .rows α R (List.replicate n z)⟩ :: L) (nx + 1)) : EvMake kp P w t (.v (.int .i64 (n : Int))) (.v (.int .i64 (n : Int))) L nx k := by
  refine ⟨fun ρ W hp => ?_⟩
  obtain ⟨_, j, hj1, hj2, hj3, hj4, _⟩ := hty
  have hrun := make_row (P := P) t ty j te.zero (by rw [ht.1, hd]) hj1 hj4 n (by rw [hj3]; omega) hn W
  have hzl : te.zero.cells.toList.length = R.cols.length := by rw [hz]; simp
  have hcells : (madeCells te.zero.cells (n * j.size)).toList = rowC R (List.replicate n z) := by
    have := range_rep te.zero.cells.toList (by rw [hzl]; exact hpos) n
    rw [hzl] at this
    have e : n * j.size = n * R.cols.length := by rw [hj2, hsz]
    rw [e]
    unfold madeCells
    simp only [Array.toArray_toList] at this
    rw [this, hz]
    simp [rowC, List.flatMap_replicate]
  have hblk : Blk (W.alloc (.cells (madeCells te.zero.cells (n * j.size)) ty)) W.heap.size ty (rowC R (List.replicate n z)).toArray := by
    have := Blk.new W ty (madeCells te.zero.cells (n * j.size))
    rw [← hcells]
    simpa using this
  refine ⟨_, _, hrun, (fun _ => (Below.refl _ _).alloc (Nat.le_refl _) _), upd ρ nx (some ⟨W.heap.size, 0, none⟩), .s nx R.cols.length n n, _, nx + 1, by simp [den, upd_same], agree_upd ρ nx _, by omega, by simp [SV.lt, blt_iff], ?_, hk⟩
  refine hp.new ((Below.refl _ _).alloc (Nat.le_refl _) _) _ _ rfl rfl rfl (.inr ⟨W.heap.size, [], upd_same _ _ _, Nat.le_refl _, ?_, by simpa [maxLen] using hn, ?_⟩)
  · have : (Ct.rows α R (List.replicate n z)).cells (upd ρ nx (some ⟨W.heap.size, 0, none⟩)) = rowC R (List.replicate n z) := rfl
    simp only [this, rowC_len]
    simp
  · have : (Ct.rows α R (List.replicate n z)).cells (upd ρ nx (some ⟨W.heap.size, 0, none⟩)) = rowC R (List.replicate n z) := rfl
    simp only [this, List.append_nil]
    exact hblk
end
end Go.Proofs.YtebfhljamoapjaaDoor
namespace Go.Proofs.YtebfhljamoapjaaDoor
open Go.RowKit
set_option linter.unusedVariables false
set_option linter.unusedSimpArgs false

theorem rowC_take {α : Type} (R : RowS α) (xs : List α) : ∀ n, rowC R (xs.take n) = (rowC R xs).take (n * R.cols.length) := by
  induction xs with
  | nil => intro n; simp [rowC]
  | cons x r ih =>
    intro n
    cases n with
    | zero => simp [rowC]
    | succ n =>
      have e : (n + 1) * R.cols.length = (R.cols.map (fun f => f x)).length + n * R.cols.length := by rw [Nat.succ_mul]; simp; omega
      have h1 : rowC R (x :: r) = R.cols.map (fun f => f x) ++ rowC R r := by simp [rowC]
      have h2 : rowC R (x :: r.take n) = R.cols.map (fun f => f x) ++ rowC R (r.take n) := by simp [rowC]
      rw [List.take_succ_cons, h2, h1, e, List.take_length_add_append, ih]
theorem rowC_drop {α : Type} (R : RowS α) (xs : List α) : ∀ n, rowC R (xs.drop n) = (rowC R xs).drop (n * R.cols.length) := by
  induction xs with
  | nil => intro n; simp [rowC]
  | cons x r ih =>
    intro n
    cases n with
    | zero => simp [rowC]
    | succ n =>
      have e : (n + 1) * R.cols.length = (R.cols.map (fun f => f x)).length + n * R.cols.length := by rw [Nat.succ_mul]; simp; omega
      have h1 : rowC R (x :: r) = R.cols.map (fun f => f x) ++ rowC R r := by simp [rowC]
      rw [List.drop_succ_cons, h1, e, ih]
      simp [List.drop_append]
theorem rowC_splice {α : Type} (R : RowS α) (xs : List α) (n : Nat) (ys : List α) : rowC R (splice xs n ys) = splice (rowC R xs) (n * R.cols.length) (rowC R ys) := by
  simp only [splice, rowC_app, rowC_take, rowC_drop, rowC_len, Nat.add_mul]
/-- A part of a slice of rows. -/
theorem RowsIn.part {α : Type} {R : RowS α} {w : World} {A : Option Addr} {len c : Nat} {xs : List α} (h : RowsIn R w (.slice A len c) xs) (lo hi m : Nat) (h1 : lo ≤ hi) (h2 : hi ≤ xs.length) (h3 : hi ≤ m) (h4 : m ≤ c) :
    RowsIn R w (.slice (A.map (·.add (sOff 0 m lo * R.cols.length))) (hi - lo) (m - lo)) ((xs.drop lo).take (hi - lo)) := by
  obtain ⟨A', c', e, g1, g2, g3, g4⟩ := h
  simp at e
  obtain ⟨rfl, rfl, rfl⟩ := e
  have hl : ((xs.drop lo).take (hi - lo)).length = hi - lo := by simp; omega
  refine ⟨_, m - lo, by rw [hl], by omega, by omega, by rw [rowC_len], fun h0 => ?_⟩
  rw [hl] at h0
  obtain ⟨b, off, rfl, hb, hc⟩ := g4 (by omega)
  have hs : sOff 0 m lo = lo := by
    unfold sOff
    rw [if_neg (by omega)]
    omega
  refine ⟨b, off + lo * R.cols.length, by simp [add_none, hs], hb, fun j u hu => ?_⟩
  rw [rowC_take, rowC_drop, List.getElem?_take] at hu
  split at hu
  · rw [List.getElem?_drop] at hu
    rw [Nat.add_assoc]
    exact hc _ u hu
  · cases hu
theorem RowsIn.cut {α : Type} {R : RowS α} {w : World} {A : Option Addr} {len c : Nat} {xs : List α} (h : RowsIn R w (.slice A len c) xs) (hi m : Nat) (h2 : hi ≤ xs.length) (h3 : hi ≤ m) (h4 : m ≤ c) : RowsIn R w (.slice A hi m) (xs.take hi) := by
  obtain ⟨A', c', e, g1, g2, g3, g4⟩ := h
  simp at e
  obtain ⟨rfl, rfl, rfl⟩ := e
  have hl : (xs.take hi).length = hi := by simp; omega
  refine ⟨A, m, by rw [hl], by omega, by omega, by rw [rowC_len], fun h0 => ?_⟩
  rw [hl] at h0
  obtain ⟨b, off, rfl, hb, hc⟩ := g4 (by omega)
  refine ⟨b, off, rfl, hb, fun j u hu => ?_⟩
  rw [rowC_take, List.getElem?_take] at hu
  split at hu
  · exact hc _ u hu
  · cases hu
section
variable {P : Program} {w : Ref} {L : List Ob} {nx : Nat} {k : SV → List Ob → Nat → Prop} {kp : Bool} {α : Type} {R : RowS α}
/-- copy into an object of the walk's own. -/
theorem EvBi.copy {t t2 ty : TypeId} {ti te : TI} (ht : TyOk P t ti) (hd : ti.d = .slice ty) (hty : TyOk P ty te) (hsz : te.size = R.cols.length) (hpos : 0 < R.cols.length)
    {n len cap c2 : Nat} {eo : Option Nat} {xs : List α} (hn : fnd L n = some ⟨n, true, ty, R.cols.length, cap, .rows α R xs⟩) (hle : eo.getD 0 + len ≤ xs.length) {src : SV} (ys : List α) (hsrc : ∀ ρ W, Hp w ρ L nx W → RowsIn R W (den ρ src) ys)
    (hk : k (.v (.int .i64 ((min ys.length len : Nat) : Int))) (updL L n (.rows α R (splice xs (eo.getD 0) (ys.take (min ys.length len))))) nx) :
    EvBi false P w .copy [slV n R.cols.length eo len c2, src] [t, t2] L nx k := by
  refine ⟨fun ρ W hp hlt tt c => ?_⟩
  have hS := hsrc ρ W hp
  obtain ⟨A2, c3, e2, g1, g2, g3, g4⟩ := hS
  have hm : Nat.min ys.length len = min ys.length len := rfl
  have hload : (Builtin.firstCells R.cols.length (min ys.length len) (den ρ src)).run P W = .ok (rowC R (ys.take (min ys.length len))).toArray W := by
    rw [e2]
    cases A2 with
    | none =>
      have : ys.length = 0 := by
        rcases Nat.eq_zero_or_pos ys.length with h | h
        · exact h
        · obtain ⟨b, off, h1, _⟩ := g4 h
          cases h1
      have hy : ys = [] := List.eq_nil_of_length_eq_zero this
      subst hy
      simp [Builtin.firstCells, rowC]
    | some A2 =>
      have hl : (rowC R (ys.take (min ys.length len))).length = min ys.length len * R.cols.length := by
        rw [rowC_len, List.length_take]
        congr 1
        omega
      have := run_loadCells_list (P := P) W A2 (rowC R (ys.take (min ys.length len))) (by
        intro j u hu
        have hj := (List.getElem?_eq_some_iff.1 hu).1
        have h0 : 0 < ys.length := by
          rcases Nat.eq_zero_or_pos ys.length with h | h
          · rw [hl, h] at hj; simp at hj
          · exact h
        obtain ⟨b, off, hA, _, hc⟩ := g4 h0
        injection hA with hA
        subst hA
        rw [add_none]
        apply hc
        rw [rowC_take, List.getElem?_take] at hu
        split at hu
        · exact hu
        · cases hu)
      rw [hl] at this
      simp only [Builtin.firstCells]
      exact this
  have hstore : ∃ W', (match (ρ n).map (·.add (eo.getD 0 * R.cols.length)) with | some a => storeCells a (rowC R (ys.take (min ys.length len))) | none => pure () : Sem Unit).run P W = .ok () W' ∧ Hp w ρ (updL L n (.rows α R (splice xs (eo.getD 0) (ys.take (min ys.length len))))) nx W' := by
    by_cases h0 : min ys.length len = 0
    · refine ⟨W, ?_, ?_⟩
      · rw [h0]
        cases (ρ n) <;> simp [rowC, storeCells]
      · rw [h0]
        have hx : splice xs (eo.getD 0) (ys.take 0) = xs := by simp [splice]
        rw [hx]
        obtain ⟨_, l1, l2, hL, hU⟩ := fnd_split hn
        rw [hU]
        rw [hL] at hp
        exact hp
    · obtain ⟨_, l1, l2, hL, _⟩ := fnd_split hn
      have hyl : (ys.take (min ys.length len)).length = min ys.length len := by rw [List.length_take]; omega
      have hcl : (rowC R (ys.take (min ys.length len))).length = min ys.length len * R.cols.length := by rw [rowC_len, hyl]
      have hobj := hp.obj _ (show (⟨n, true, ty, R.cols.length, cap, .rows α R xs⟩ : Ob) ∈ L by rw [hL]; simp)
      have hmul : (eo.getD 0 + min ys.length len) * R.cols.length ≤ xs.length * R.cols.length := Nat.mul_le_mul_right _ (by omega)
      rw [Nat.add_mul] at hmul
      obtain ⟨W', h8, h9⟩ := hp.store hn rfl (c' := .rows α R (splice xs (eo.getD 0) (ys.take (min ys.length len)))) rfl (off := eo.getD 0 * R.cols.length) (vs := rowC R (ys.take (min ys.length len)))
        (by rw [hcl]; exact Nat.mul_pos (by omega) hpos) (by
          have : (Ct.rows α R xs).cells ρ = rowC R xs := rfl
          simp only [this, rowC_len, hyl]
          omega) (by
          have e1 : (Ct.rows α R xs).cells ρ = rowC R xs := rfl
          have e3 : (Ct.rows α R (splice xs (eo.getD 0) (ys.take (min ys.length len)))).cells ρ = rowC R (splice xs (eo.getD 0) (ys.take (min ys.length len))) := rfl
          simp only [e1]
          rw [e3, rowC_splice]) (rowC_one R _) P
      simp only [ObOk, if_true] at hobj
      rcases hobj with ⟨_, hx, _⟩ | ⟨g, junk, hg, _⟩
      · have : (Ct.rows α R xs).cells ρ = rowC R xs := rfl
        simp only [this] at hx
        have := rowC_len R xs
        rw [hx] at this
        have hz := Nat.mul_pos (show 0 < xs.length by omega) hpos
        simp at this
        omega
      · simp only at hg
        refine ⟨W', ?_, h9⟩
        rw [hg] at h8 ⊢
        simpa using h8
  obtain ⟨W', h5, h6⟩ := hstore
  refine ⟨.int .i64 ((min ys.length len : Nat) : Int), W', ?_, (fun h => by cases h), ρ, .v (.int .i64 ((min ys.length len : Nat) : Int)), _, nx, by simp [den], fun _ _ => rfl, Nat.le_refl _, rfl, h6, hk⟩
  have u := ht.under W
  rw [hd] at u
  have hsz' := hty.sizeOf W
  rw [hsz] at hsz'
  have hlen : (Builtin.lenOf (den ρ src)).run P W = .ok ys.length W := by rw [e2]; simp [Builtin.lenOf]
  simp only [builtin, denL, den_slV]
  simp only [Builtin.copy_, Sem.run_bind]
  simp [u, hlen, hsz', hm, hload]
  cases hρ : (ρ n) with
  | none =>
    rw [hρ] at h5
    simp at h5
    simp [h5, goInt]
  | some B =>
    rw [hρ] at h5
    have h5' : (storeCells (B.add (eo.getD 0 * R.cols.length)) (rowC R (ys.take (min ys.length len)))).run P W = .ok () W' := h5
    simp [h5', goInt]
end
end Go.Proofs.YtebfhljamoapjaaDoor
namespace Go.Proofs.YtebfhljamoapjaaDoor
open Go.RowKit
set_option linter.unusedVariables false
set_option linter.unusedSimpArgs false

def RetRowsE {α : Type} (R : RowS α) (ty : TypeId) (w : World) (xs : List α) (k : Int) (e : Ending) (w' : World) : Prop :=
  ∃ A cap, e = .returned (.tuple #[.slice A xs.length cap, .int .i64 k]) ∧ Below w.heap.size w w' ∧ xs.length ≤ cap ∧ OwnOk w.heap.size (fun _ => A) ⟨0, true, ty, R.cols.length, cap, .rows α R xs⟩ w'
section
variable {P : Program} {w : Ref} {f : FuncId} {args : List SV} {L : List Ob} {nx : Nat}
theorem EvCall.rowsE {kp : Bool} {k : SV → List Ob → Nat → Prop} {α : Type} {R : RowS α} {ty : TypeId} {xs : List α} {z : Int} (ent : ∀ args W, (callFunc f args).run P W = .ok (.enter f args) W)
    (h : ∀ ρ W, Hp w ρ L nx W → Con P f (denL ρ args).toArray W (RetRowsE R ty W xs z)) (hk : ∀ cap, xs.length ≤ cap → cap ≤ 9223372036854775807 → k (.t [.s nx R.cols.length xs.length cap, .v (.int .i64 z)]) (⟨nx, true, ty, R.cols.length, cap, .rows α R xs⟩ :: L) (nx + 1)) : EvCall kp P w f args L nx k := by
  refine ⟨ent, fun ρ W hp _ => (h ρ W hp).out.mono fun e W' he => ?_⟩
  obtain ⟨A, cap, he, hb, hc, hok⟩ := he
  have hcm : cap ≤ 9223372036854775807 := by
    rcases hok with ⟨_, _, hx⟩ | ⟨_, _, _, _, _, hx, _⟩
    · simp only at hx; omega
    · simpa [maxLen] using hx
  refine ⟨_, he, fun _ => hb, upd ρ nx A, .t [.s nx R.cols.length xs.length cap, .v (.int .i64 z)], _, nx + 1, by simp [den, denL, upd_same], agree_upd ρ nx A, by omega, by simp [SV.lt, ltL, blt_iff], ?_, hk cap hc hcm⟩
  exact hp.new hb _ A rfl rfl rfl (OwnOk.rename (o := ⟨0, true, ty, R.cols.length, cap, .rows α R xs⟩) (n := nx) rfl (upd_same _ _ _) hok)
theorem EvRet.rowsE {α : Type} {R : RowS α} {ty : TypeId} {xs ys : List α} {z z' : Int} {n len cap : Nat} (hl : len = ys.length) (hc : ys.length ≤ cap) (hxy : xs = ys) (hz : z' = z) (hn : fnd L n = some ⟨n, true, ty, R.cols.length, cap, .rows α R xs⟩) : EvRet w (RetRowsE R ty w.toWorld ys z) (.t [.s n R.cols.length len cap, .v (.int .i64 z')]) L nx := by
  subst hxy
  subst hl
  subst hz
  obtain ⟨_, l1, l2, hL, _⟩ := fnd_split hn
  refine ⟨fun ρ W hp _ => ⟨ρ n, cap, by simp [den, denL], hp.bel, hc, ?_⟩⟩
  have h1 := hp.obj _ (show (⟨n, true, ty, R.cols.length, cap, .rows α R xs⟩ : Ob) ∈ L by rw [hL]; simp)
  simp only [ObOk, if_true] at h1
  exact OwnOk.rename (o := ⟨n, true, ty, R.cols.length, cap, .rows α R xs⟩) (n := 0) rfl rfl h1
theorem EvRet.rowsE_nil {α : Type} {R : RowS α} {ty : TypeId} {ys : List α} {z z' : Int} (h : ys = []) (hz : z' = z) : EvRet w (RetRowsE R ty w.toWorld ys z) (.t [.v (.slice none 0 0), .v (.int .i64 z')]) L nx := by
  subst h
  subst hz
  exact ⟨fun ρ W hp _ => ⟨none, 0, rfl, hp.bel, Nat.le_refl _, .inl ⟨rfl, rfl, rfl⟩⟩⟩
end
end Go.Proofs.YtebfhljamoapjaaDoor
namespace Go.Proofs.YtebfhljamoapjaaDoor
open Go.RowKit
set_option linter.unusedVariables false
set_option linter.unusedSimpArgs false

theorem Hp.recast {w : Ref} {ρ : Rho} {L : List Ob} {nx : Nat} {W : World} (h : Hp w ρ L nx W) {n : Nat} {o : Ob} (hn : fnd L n = some o) (c' : Ct) (hc : c'.cells ρ = o.c.cells ρ) (hlt : c'.lt nx = true) : Hp w ρ (updL L n c') nx W := by
  obtain ⟨hnn, l1, l2, hL, hU⟩ := fnd_split hn
  rw [hU]
  subst hL
  obtain ⟨hb, ho, hd, hl, hpn⟩ := h
  have hdd := hd
  rw [List.pairwise_append, List.pairwise_cons] at hdd
  refine ⟨hb, ?_, ?_, ?_, hpn⟩
  · intro x hx
    rcases List.mem_append.1 hx with hx | hx
    · exact ho x (by simp [hx])
    · rcases List.mem_cons.1 hx with rfl | hx
      · have := ho o (by simp)
        unfold ObOk OwnOk RoOk at *
        simp only [hc]
        exact this
      · exact ho x (by simp [hx])
  · rw [List.pairwise_append, List.pairwise_cons]
    refine ⟨hdd.1, ⟨fun x hx => hdd.2.1.1 x hx, hdd.2.1.2⟩, fun a ha b hb => ?_⟩
    rcases List.mem_cons.1 hb with rfl | hb
    · exact hdd.2.2 a ha o (by simp)
    · exact hdd.2.2 a ha b (by simp [hb])
  · intro x hx
    rcases List.mem_append.1 hx with hx | hx
    · exact hl x (by simp [hx])
    · rcases List.mem_cons.1 hx with rfl | hx
      · exact ⟨(hl o (by simp)).1, hlt⟩
      · exact hl x (by simp [hx])
theorem EvBi.recast {kp : Bool} {P : Program} {w : Ref} {b : Builtin} {args : List SV} {ts : List TypeId} {L : List Ob} {nx : Nat} {k : SV → List Ob → Nat → Prop} {n : Nat} {o : Ob} (hn : fnd L n = some o) (c' : Ct) (hc : ∀ ρ, c'.cells ρ = o.c.cells ρ) (hlt : c'.lt nx = true)
    (h : EvBi kp P w b args ts (updL L n c') nx k) : EvBi kp P w b args ts L nx k := ⟨fun ρ W hp => h.go ρ W (hp.recast hn c' (hc ρ) hlt)⟩
theorem EvCall.recast {kp : Bool} {P : Program} {w : Ref} {f : FuncId} {args : List SV} {L : List Ob} {nx : Nat} {k : SV → List Ob → Nat → Prop} {n : Nat} {o : Ob} (hn : fnd L n = some o) (c' : Ct) (hc : ∀ ρ, c'.cells ρ = o.c.cells ρ) (hlt : c'.lt nx = true)
    (h : EvCall kp P w f args (updL L n c') nx k) : EvCall kp P w f args L nx k := ⟨h.ent, fun ρ W hp => h.go ρ W (hp.recast hn c' (hc ρ) hlt)⟩
/-- The first of a slice of rows. -/
theorem Hp.cut {α : Type} {R : RowS α} {w : Ref} {ρ : Rho} {L : List Ob} {nx : Nat} {W : World} (h : Hp w ρ L nx W) {n c size : Nat} {own : Bool} {ty : TypeId} {cap : Nat} {xs : List α} (hf : fnd L n = some ⟨n, own, ty, size, cap, .rows α R xs⟩) (hR : 0 < R.cols.length) (hc : xs.length ≤ c) (hm : c ≤ 9223372036854775807) (hi : Nat) (hh : hi ≤ xs.length) (sz : Nat) :
    RowsIn R W (den ρ (.s n sz hi c)) (xs.take hi) := by
  have := h.rowsIn (R := R) hf hR hc hm sz
  simp only [den] at this ⊢
  exact this.cut hi c hh (by omega) (by omega)
/-- A part of a slice of rows. -/
theorem Hp.part {α : Type} {R : RowS α} {w : Ref} {ρ : Rho} {L : List Ob} {nx : Nat} {W : World} (h : Hp w ρ L nx W) {n c size : Nat} {own : Bool} {ty : TypeId} {cap : Nat} {xs : List α} (hf : fnd L n = some ⟨n, own, ty, size, cap, .rows α R xs⟩) (hR : 0 < R.cols.length) (hc : xs.length ≤ c) (hm : c ≤ 9223372036854775807) (lo hi : Nat) (hl : lo ≤ hi) (hh : hi ≤ xs.length) :
    RowsIn R W (den ρ (.so n R.cols.length (sOff (Option.getD none 0) c lo) (hi - lo) (c - lo))) ((xs.drop lo).take (hi - lo)) := by
  have := h.rowsIn (R := R) hf hR hc hm R.cols.length
  simp only [den] at this ⊢
  exact this.part lo hi c hl hh (by omega) (Nat.le_refl _)
end Go.Proofs.YtebfhljamoapjaaDoor
namespace Go.Proofs.YtebfhljamoapjaaDoor
open Go.RowKit
set_option linter.unusedVariables false
set_option linter.unusedSimpArgs false

/-! a call walked in place -/
/-- All names are fixed. -/
abbrev Ref.pin (w : Ref) (nx : Nat) (ρ : Rho) : Ref := ⟨w.toWorld, nx, ρ, []⟩
theorem Hp.pinned {w : Ref} {ρ : Rho} {L : List Ob} {nx : Nat} {W : World} (h : Hp w ρ L nx W) : Hp (w.pin nx ρ) ρ L nx W := ⟨h.bel, h.obj, h.dis, h.lt, Nat.le_refl _, fun _ _ => rfl⟩
theorem Hp.unpin {w : Ref} {ρ ρ' : Rho} {L L' : List Ob} {nx nx' : Nat} {W W' : World} (h0 : Hp w ρ L nx W) (h : Hp (w.pin nx ρ) ρ' L' nx' W') : Hp w ρ' L' nx' W' ∧ Agree nx ρ ρ' ∧ nx ≤ nx' :=
  ⟨⟨h.bel, h.obj, h.dis, h.lt, Nat.le_trans h0.pin.1 h.pin.1, fun n hn => (h.pin.2 n (Nat.lt_of_lt_of_le hn h0.pin.1)).trans (h0.pin.2 n hn)⟩, h.pin.2, h.pin.1⟩
def InlR (w : Ref) (ρ : Rho) (nx : Nat) (k : SV → List Ob → Nat → Prop) (e : Ending) (W' : World) : Prop :=
  ∃ v ρ' L' nx', e = .returned (den ρ' v) ∧ v.lt nx' = true ∧ Hp (w.pin nx ρ) ρ' L' nx' W' ∧ k v L' nx'
theorem EvRet.back {w : Ref} {ρ : Rho} {nx : Nat} {k : SV → List Ob → Nat → Prop} {v : SV} {L : List Ob} {n : Nat} (h : k v L n) : EvRet (w.pin nx ρ) (InlR w ρ nx k) v L n := ⟨fun ρ' W' hp hlt => ⟨v, ρ', L, n, rfl, hlt, hp, h⟩⟩
/-- A call walked in place: what it does to the caller's objects is seen. -/
theorem EvCall.inline {P : Program} {w : Ref} {T : Tab} (hT : TabOk P T) (hm : P.follows .mixedOrders = true) {f : FuncId} {fn : Func} {c : Code} (hf : P.funcs[f]? = some fn) (hb : fn.body = some c) {N : Nat} (hN : fn.ntmps = N)
    {rs : Array ResultVar} (hrs : fn.results = rs) {args : List SV} {L : List Ob} {nx : Nat} {k : SV → List Ob → Nat → Prop} (ent : ∀ args W, (callFunc f args).run P W = .ok (.enter f args) W) (hl : Nat.ble args.length N = true)
    (h : ∀ ρ, vcC P (w.pin nx ρ) T N c (retK (w.pin nx ρ) T (InlR w ρ nx k) rs.toList) (fun _ _ _ _ => False) (retK (w.pin nx ρ) T (InlR w ρ nx k) rs.toList) (env0 args 0) L nx) : EvCall false P w f args L nx k := by
  refine ⟨ent, fun ρ W hp hlt => (enter_sv hT hm hf hb hN hrs args ρ L nx hl hlt hp.pinned rfl (h ρ)).mono fun e W' he => ?_⟩
  obtain ⟨v, ρ', L', nx', rfl, hv, hp', hk⟩ := he
  obtain ⟨h1, h2, h3⟩ := hp.unpin hp'
  exact ⟨_, rfl, (fun h => by cases h), ρ', v, L', nx', rfl, h2, h3, hv, h1, hk⟩
end Go.Proofs.YtebfhljamoapjaaDoor
