/- The symbolic machine: the operations that leave the heap as it is, one by one. No program in sight. -/
import Derived.Test.YtofekfpbljihiaaSy2
namespace Go.Proofs.Ytofekfpbljihiaa
open Go.RowKit
set_option linter.unusedVariables false
set_option linter.unusedSimpArgs false

def optP : Option Prop → Prop
  | none => True
  | some φ => φ
/-- An operation yields v under the condition φ, and leaves the world alone. -/
def QOk (P : Program) (w : World) (env : Env) (L : List Ob) (nx : Nat) (cur : Pth) (o : Op) (φ : Option Prop) (v : SV) : Prop :=
  ∀ ρ G a W, Fk ρ G env nx a → holdsB G cur = true → Hp w ρ L nx W → optP φ → v.lt nx = true ∧ ∀ oper : Oper, oper.op = o → (execOp a.eval oper).run P W = .ok (.value (den ρ v)) W

section
variable {P : Program} {w : World} {T : Tab} {env : Env} {L : List Ob} {nx : Nat} {cur : Pth} {k : Option Prop → SV → Prop}

/-! move, assign -/
theorem moveK_sound {x : Operand} (h : evK env cur x (fun v => k none v)) : ∃ φ v, QOk P w env L nx cur (.move x) φ v ∧ k φ v := by
  obtain ⟨v, h1, h2⟩ := evK_sound h
  refine ⟨none, v, fun ρ G a W hf hc _ _ => ⟨(h2 ρ G nx a hf hc).2, fun o ho => ?_⟩, h1⟩
  simp [execOp, ho, (h2 ρ G nx a hf hc).1]
theorem assignK_sound {x : Operand} (h : evK env cur x (fun v => k none v)) : ∃ φ v, QOk P w env L nx cur (.assign x) φ v ∧ k φ v := by
  obtain ⟨v, h1, h2⟩ := evK_sound h
  refine ⟨none, v, fun ρ G a W hf hc _ _ => ⟨(h2 ρ G nx a hf hc).2, fun o ho => ?_⟩, h1⟩
  simp [execOp, ho, (h2 ρ G nx a hf hc).1]

/-! pick -/
def asB (v : SV) (k : Bool → Prop) : Prop :=
  match v with
  | .v (.bool b) => k b
  | _ => False
theorem asB_sound {v : SV} {k : Bool → Prop} (h : asB v k) : ∃ b, v = .v (.bool b) ∧ k b := by
  unfold asB at h
  split at h
  · exact ⟨_, rfl, h⟩
  · exact h.elim
def pickB (x y : Operand) (b bx c : Bool) (k : Option Prop → SV → Prop) : Prop :=
  match x, y with
  | .const (.bool x'), _ => bif x' then k none (.v (.bool (b || c))) else False
  | _, .const (.bool y') => bif y' then False else k none (.v (.bool (b && bx)))
  | _, _ => k none (.v (.bool (if b then bx else c)))
def pickK (env : Env) (cur : Pth) (c x y : Operand) (k : Option Prop → SV → Prop) : Prop :=
  match c with
  | .tmp s => lkK env s (fun ps vs => bif subP ps cur then
      asB vs (fun b => evK env ((s, true) :: cur) x (fun vx => evK env ((s, false) :: cur) y (fun vy => asB vx (fun bx => asB vy (fun c => pickB x y b bx c k))))) else False)
  | _ => False
theorem pickB_sound {x y : Operand} {b bx c : Bool} (h : pickB x y b bx c k) (hx : ∀ q, x = .const (.bool q) → b = true → bx = q) (hy : ∀ q, y = .const (.bool q) → b = false → c = q) :
    ∃ r, r = (if b then bx else c) ∧ k none (.v (.bool r)) := by
  unfold pickB at h
  split at h
  · rename_i x'
    cases x' with
    | false => exact h.elim
    | true =>
      refine ⟨_, ?_, h⟩
      cases b with
      | true => simp [hx true rfl rfl]
      | false => simp
  · rename_i y' _
    cases y' with
    | true => exact h.elim
    | false =>
      refine ⟨_, ?_, h⟩
      cases b with
      | true => simp
      | false => simp [hy false rfl rfl]
  · exact ⟨_, rfl, h⟩
theorem evK_sound2 {s : Nat} {ps : Pth} {b want : Bool} {x : Operand} {k : SV → Prop} (hs : lk env s = some (ps, .v (.bool b))) (he : evK env ((s, want) :: cur) x k) :
    ∃ v, k v ∧ ∀ ρ G nx a, Fk ρ G env nx a → holdsB G cur = true → b = want → a.eval x = den ρ v ∧ v.lt nx = true := by
  cases x with
  | tmp t =>
    obtain ⟨p, v, h1, h2⟩ := lkK_sound he
    cases hsb : subP p ((s, want) :: cur) with
    | false => rw [hsb] at h2; exact h2.elim
    | true =>
      rw [hsb] at h2
      refine ⟨v, h2, fun ρ G nx a h hc hb => ?_⟩
      have hh : holdsB G p = true := by
        simp only [holdsB, List.all_eq_true] at *
        intro z hz
        have hcl := h.clo t p v h1 z hz
        simp only [subP, List.all_eq_true, List.any_eq_true, Bool.and_eq_true] at hsb
        obtain ⟨y, hy, e1, e2⟩ := hsb z hz
        have e1 : z.1 = y.1 := Nat.eq_of_beq_eq_true e1
        have e2 : z.2 = y.2 := by simpa using e2
        rcases List.mem_cons.1 hy with rfl | hy
        · obtain ⟨b', hb'⟩ := Option.isSome_iff_exists.1 hcl
          obtain ⟨p', hp'⟩ := h.gok z.1 b' hb'
          rw [e1] at hp'
          simp only [] at hp'
          rw [hs] at hp'
          simp at hp'
          rw [hb', e2]
          simp [← hp'.2, hb]
        · rw [e1, e2]; exact hc y hy
      have := h.slots t p v h1
      rw [hh] at this
      exact ⟨by simp [Act.eval, this], h.lt t p v h1 hh⟩
  | const c => exact ⟨_, he, fun _ _ _ _ _ _ _ => ⟨by simp [Act.eval, den], rfl⟩⟩
  | global g => exact ⟨_, he, fun _ _ _ _ _ _ _ => ⟨by simp [Act.eval, den], rfl⟩⟩
  | func f => exact ⟨_, he, fun _ _ _ _ _ _ _ => ⟨by simp [Act.eval, den, denL], by simp [SV.lt, ltL]⟩⟩
theorem pickK_sound {c x y : Operand} (h : pickK env cur c x y k) : ∃ φ v, QOk P w env L nx cur (.pick c x y) φ v ∧ k φ v := by
  cases c with
  | tmp s =>
    obtain ⟨ps, vs, hs, h1⟩ := lkK_sound h
    clear h
    cases hsb : subP ps cur with
    | false => rw [hsb] at h1; exact h1.elim
    | true =>
      rw [hsb] at h1
      obtain ⟨b, rfl, h2⟩ := asB_sound h1
      obtain ⟨vx, h3, hx⟩ := evK_sound2 hs h2
      obtain ⟨vy, h4, hy⟩ := evK_sound2 hs h3
      obtain ⟨bx, rfl, h5⟩ := asB_sound h4
      obtain ⟨c, rfl, h6⟩ := asB_sound h5
      clear h1 h2 h3 h4 h5
      by_cases hex : ∃ (ρ : Rho) (G : Gd) (a : Act), Fk ρ G env nx a ∧ holdsB G cur = true
      · obtain ⟨r, hr, hk⟩ := pickB_sound h6 (by
          rintro q rfl hb
          obtain ⟨ρ, G, a, hf, hc⟩ := hex
          have := (hx ρ G nx a hf hc hb).1
          simpa [Act.eval, den, eq_comm] using this) (by
          rintro q rfl hb
          obtain ⟨ρ, G, a, hf, hc⟩ := hex
          have := (hy ρ G nx a hf hc hb).1
          simpa [Act.eval, den, eq_comm] using this)
        refine ⟨none, _, fun ρ G a W hf hc _ _ => ⟨rfl, fun o ho => ?_⟩, hk⟩
        have e0 : a.eval (.tmp s) = .bool b := by
          have := hf.slots s ps _ hs
          rw [holds_sub hsb hc] at this
          simp [Act.eval, this, den]
        rw [hr]
        cases b with
        | true =>
          have := (hx ρ G nx a hf hc rfl).1
          simp [execOp, ho, e0, asBool, this, den]
        | false =>
          have := (hy ρ G nx a hf hc rfl).1
          simp [execOp, ho, e0, asBool, this, den]
      · have : ∃ r, k none (.v (.bool r)) := by
          unfold pickB at h6
          split at h6
          · rename_i x'
            cases x' with
            | false => exact h6.elim
            | true => exact ⟨_, h6⟩
          · rename_i y' _
            cases y' with
            | true => exact h6.elim
            | false => exact ⟨_, h6⟩
          · exact ⟨_, h6⟩
        obtain ⟨r, hk⟩ := this
        exact ⟨none, _, fun ρ G a W hf hc _ _ => absurd ⟨ρ, G, a, hf, hc⟩ hex, hk⟩
  | const c => exact h.elim
  | global g => exact h.elim
  | func f => exact h.elim

/-! load -/
def loadSV (agg : Bool) (sz : Nat) (c : Ct) (addr : SV) (k : Option Prop → SV → Prop) : Prop :=
  match c, addr with
  | .cs l, .p _ off => bif agg then cutK l off sz (fun r => k none (.a r)) else nthK l off (fun v => k none v)
  | .cs l, .e _ size i j => bif agg then cutK l (i * size + j) sz (fun r => k none (.a r)) else nthK l (i * size + j) (fun v => k none v)
  | .rows _ R xs, .e _ size i j => bif Nat.beq R.cols.length size then
      (bif agg then cutK R.cols j sz (fun cs => rowK (xs.getD i R.d) cs (fun r => k (some (i < xs.length)) (.a r)))
       else nthK R.cols j (fun f => forceK (f (xs.getD i R.d)) (fun y => k (some (i < xs.length)) (.v y)))) else False
  | _, _ => False
def nameOf : SV → Option Nat
  | .p n _ => some n
  | .e n _ _ _ => some n
  | _ => none
def loadK (T : Tab) (env : Env) (L : List Ob) (cur : Pth) (t : TypeId) (x : Operand) (k : Option Prop → SV → Prop) : Prop :=
  tyK T t (fun ti => evK env cur x (fun addr => match nameOf addr with
    | some n => obK L n (fun o => bif Nat.blt 0 ti.size then loadSV (aggD ti.d) ti.size o.c addr k else False)
    | none => False))
def offOf : SV → Nat
  | .p _ off => off
  | .e _ size i j => i * size + j
  | _ => 0
theorem den_addr {ρ : Rho} {addr : SV} {n : Nat} (h : nameOf addr = some n) : den ρ addr = .pointer (some (((ρ n).getD default).add (offOf addr))) := by
  cases addr <;> simp_all [nameOf, den, offOf]
theorem denL_cut (ρ : Rho) (l : List SV) (m n : Nat) : denL ρ ((l.drop m).take n) = ((denL ρ l).drop m).take n := by
  simp [denL_map, List.map_drop, List.map_take]
theorem ltL_cut {l : List SV} {m n : Nat} (h : ltL nx l = true) : ltL nx ((l.drop m).take n) = true := by
  rw [ltL_iff] at *
  intro x hx
  exact h x (List.mem_of_mem_drop (List.mem_of_mem_take hx))
theorem denL_vs (ρ : Rho) {α : Type} (x : α) (cols : List (α → Value)) : denL ρ (cols.map (fun f => SV.v (f x))) = cols.map (fun f => f x) := by
  rw [denL_map, List.map_map]
  apply List.map_congr_left
  intro f _
  simp [den]
theorem ltL_vs {α : Type} (x : α) (cols : List (α → Value)) : ltL nx (cols.map (fun f => SV.v (f x))) = true := by
  rw [ltL_iff]
  intro y hy
  obtain ⟨f, _, rfl⟩ := List.mem_map.1 hy
  rfl
theorem flat_cut {α : Type} (cols : List (α → Value)) (d : α) (xs : List α) (i j n : Nat) (hi : i < xs.length) (hj : j + n ≤ cols.length) :
    i * cols.length + j + n ≤ (xs.flatMap (fun x => cols.map (fun g => g x))).length ∧
    ((xs.flatMap (fun x => cols.map (fun g => g x))).drop (i * cols.length + j)).take n = ((cols.drop j).take n).map (fun f => f (xs.getD i d)) := by
  have hlen : (xs.flatMap (fun x => cols.map (fun g => g x))).length = xs.length * cols.length := by
    simp [List.length_flatMap, List.map_const', List.sum_replicate_nat]
  have hle : i * cols.length + cols.length ≤ xs.length * cols.length := by
    have := Nat.mul_le_mul_right cols.length (show i + 1 ≤ xs.length from hi)
    rw [Nat.succ_mul] at this
    exact this
  refine ⟨by rw [hlen]; omega, ?_⟩
  apply List.ext_getElem?
  intro m
  rw [List.getElem?_take, List.getElem?_map, List.getElem?_take]
  split
  · rename_i hm
    rw [List.getElem?_drop, List.getElem?_drop]
    have hjm : j + m < cols.length := by omega
    have := flat_at cols d xs i (j + m) cols[j + m] hi (List.getElem?_eq_getElem hjm)
    rw [Nat.add_assoc, this, List.getElem?_eq_getElem hjm]
    rfl
  · rfl
theorem loadSV_sound_all {agg : Bool} {sz : Nat} {o : Ob} {addr : SV} (hsz : 0 < sz) (hn : nameOf addr = some o.n) (h : loadSV agg sz o.c addr k) :
    ∃ φ v, k φ v ∧ ∀ nx, ∀ B ρ W, ObOk B ρ o W → o.c.lt nx = true → optP φ → v.lt nx = true ∧
      (if agg then (loadCells (((ρ o.n).getD default).add (offOf addr)) sz).run P W = .ok (den ρ v).cells W ∧ (∃ cs, den ρ v = .agg cs) else W.cell? (((ρ o.n).getD default).add (offOf addr)) = some (den ρ v)) := by
  have csCase : ∀ (l : List SV) (off : Nat), o.c = .cs l → offOf addr = off → (bif agg then cutK l off sz (fun r => k none (.a r)) else nthK l off (fun v => k none v)) →
      ∃ φ v, k φ v ∧ ∀ nx, ∀ B ρ W, ObOk B ρ o W → o.c.lt nx = true → optP φ → v.lt nx = true ∧
      (if agg then (loadCells (((ρ o.n).getD default).add (offOf addr)) sz).run P W = .ok (den ρ v).cells W ∧ (∃ cs, den ρ v = .agg cs) else W.cell? (((ρ o.n).getD default).add (offOf addr)) = some (den ρ v)) := by
    intro l off hc ho h
    rw [ho]
    cases agg with
    | true =>
      obtain ⟨h1, h2⟩ := cutK_sound h
      refine ⟨none, _, h2, fun nx B ρ W hok hlt _ => ⟨?_, ?_⟩⟩
      · rw [hc] at hlt; exact ltL_cut hlt
      · have := hok.loadN (P := P) (j := off) (n := sz) hsz (by rw [hc]; simpa [Ct.cells, denL_map] using h1)
        rw [this, hc]
        simp [den, denL_cut, Value.cells, Ct.cells]
    | false =>
      obtain ⟨v, h1, h2⟩ := nthK_sound h
      refine ⟨none, _, h2, fun nx B ρ W hok hlt _ => ⟨?_, ?_⟩⟩
      · rw [hc] at hlt; exact (ltL_iff _ _).1 hlt v (List.mem_of_getElem? h1)
      · have := hok.load1 (j := off) (u := den ρ v) (by rw [hc]; simp [Ct.cells, denL_map, h1])
        simpa using this
  unfold loadSV at h
  split at h
  · rename_i l n off hc
    exact csCase l off hc rfl h
  · rename_i l n size i j hc
    exact csCase l _ hc rfl h
  · rename_i α R xs n size i j hc
    cases hb : Nat.beq R.cols.length size with
    | false => rw [hb] at h; exact h.elim
    | true =>
      rw [hb] at h
      have hs := Nat.eq_of_beq_eq_true hb
      subst hs
      cases agg with
      | true =>
        simp only [cond_true] at h
        obtain ⟨h1, h2⟩ := cutK_sound h
        have h3 := rowK_sound h2
        refine ⟨_, _, h3, fun nx B ρ W hok hlt hφ => ⟨ltL_vs _ _, ?_⟩⟩
        obtain ⟨f1, f2⟩ := flat_cut R.cols R.d xs i j sz hφ h1
        have := hok.loadN (P := P) (j := i * R.cols.length + j) (n := sz) hsz (by rw [hc]; exact f1)
        rw [if_pos rfl]
        simp only [offOf]
        rw [this, hc]
        refine ⟨?_, _, rfl⟩
        simp only [Ct.cells, f2, den, denL_vs, Value.cells]
      | false =>
        simp only [cond_true, cond_false] at h
        obtain ⟨f, h1, h2⟩ := nthK_sound h
        have h3 := forceK_sound h2
        refine ⟨_, _, h3, fun nx B ρ W hok hlt hφ => ⟨rfl, ?_⟩⟩
        have := hok.load1 (j := i * R.cols.length + j) (u := f (xs.getD i R.d)) (by rw [hc]; exact flat_at R.cols R.d xs i j f hφ h1)
        rw [if_neg (by simp)]
        simpa [offOf, den] using this
  · exact h.elim
theorem loadSV_sound {agg : Bool} {sz : Nat} {o : Ob} {addr : SV} (hsz : 0 < sz) (hn : nameOf addr = some o.n) (h : loadSV agg sz o.c addr k) :
    ∃ φ v, k φ v ∧ ∀ B ρ W, ObOk B ρ o W → o.c.lt nx = true → optP φ → v.lt nx = true ∧
      (if agg then (loadCells (((ρ o.n).getD default).add (offOf addr)) sz).run P W = .ok (den ρ v).cells W ∧ (∃ cs, den ρ v = .agg cs) else W.cell? (((ρ o.n).getD default).add (offOf addr)) = some (den ρ v)) := by
  obtain ⟨φ, v, h1, h2⟩ := loadSV_sound_all (P := P) hsz hn h
  exact ⟨φ, v, h1, fun B ρ W => h2 nx B ρ W⟩
theorem loadK_sound {t : TypeId} {x : Operand} (hT : TabOk P T) (h : loadK T env L cur t x k) : ∃ φ v, QOk P w env L nx cur (.load t x) φ v ∧ k φ v := by
  obtain ⟨ti, hti, h1⟩ := tyK_sound hT h
  obtain ⟨addr, h2, he⟩ := evK_sound h1
  clear h h1
  split at h2
  · rename_i n hn
    obtain ⟨o, ho, rfl, h3⟩ := obK_sound h2
    clear h2
    cases hb : Nat.blt 0 ti.size with
    | false => rw [hb] at h3; exact h3.elim
    | true =>
      rw [hb] at h3
      obtain ⟨φ, v, hk, hv⟩ := loadSV_sound (P := P) (nx := nx) (blt_iff.1 hb) hn h3
      refine ⟨φ, v, fun ρ G a W hf hc hp hφ => ?_, hk⟩
      obtain ⟨h4, h5⟩ := hv _ ρ W (hp.obj o ho) (hp.lt o ho).2 hφ
      refine ⟨h4, fun oper hop => ?_⟩
      have e := (he ρ G nx a hf hc).1
      rw [den_addr hn] at e
      split at h5
      · rename_i hag
        obtain ⟨h5, cs, h6⟩ := h5
        have e1 := hti.isAgg W
        rw [hag] at e1
        rw [h6] at h5 ⊢
        simp [execOp, hop, e, Instr.loadAt, Instr.sureAddr, loadVar, e1, hti.sizeOf W, h5, Value.cells]
      · rename_i hag
        have e1 := hti.isAgg W
        have hag : aggD ti.d = false := by simpa using hag
        rw [hag] at e1
        simp [execOp, hop, e, Instr.loadAt, Instr.sureAddr, loadVar, e1, Go.load, Sem.run, h5]
  · exact h2.elim
end
end Go.Proofs.Ytofekfpbljihiaa
