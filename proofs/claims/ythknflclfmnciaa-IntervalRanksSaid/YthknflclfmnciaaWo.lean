
/- What the reference's Do gives: the results for four pairs of ends, sorted. No program in sight. -/
import Derived.Test.YthknflclfmnciaaWm
namespace Go.Proofs.Ythknflclfmnciaa
set_option linter.unusedVariables false
set_option linter.unusedSimpArgs false

def lhs4 (x : Iv) : List Fq := [x.lo, x.hi, x.lo, x.hi]
def rhs4 (op : Nat) (y : Iv) : List Fq := if op = 1 then [y.hi, y.lo, y.lo, y.hi] else [y.lo, y.hi, y.hi, y.lo]
def many4 (op : Nat) : Nat := if op ≤ 1 then 2 else 4
def do4 (op : Nat) (x y : Iv) (i : Nat) : Fq × Int := opF op ((lhs4 x).getD i fr0) ((rhs4 op y).getD i fr0)
def doL (op : Nat) (x y : Iv) (i : Nat) : List Fq := (List.range i).map (fun j => (do4 op x y j).1)
theorem doL_len (op : Nat) (x y : Iv) (i : Nat) : (doL op x y i).length = i := by simp [doL]
theorem doL_snoc (op : Nat) (x y : Iv) (i : Nat) : doL op x y (i + 1) = doL op x y i ++ [(do4 op x y i).1] := by simp [doL, List.range_succ]
theorem lhs4_len (x : Iv) : (lhs4 x).length = 4 := rfl
theorem rhs4_len (op : Nat) (y : Iv) : (rhs4 op y).length = 4 := by unfold rhs4; split <;> rfl
theorem lhs4_mem (x : Iv) {i : Nat} (h : i < 4) : (lhs4 x).getD i fr0 = x.lo ∨ (lhs4 x).getD i fr0 = x.hi := by
  match i, h with
  | 0, _ => exact .inl rfl
  | 1, _ => exact .inr rfl
  | 2, _ => exact .inl rfl
  | 3, _ => exact .inr rfl
theorem rhs4_mem (op : Nat) (y : Iv) {i : Nat} (h : i < 4) : (rhs4 op y).getD i fr0 = y.lo ∨ (rhs4 op y).getD i fr0 = y.hi := by
  unfold rhs4
  split
  · match i, h with
    | 0, _ => exact .inr rfl
    | 1, _ => exact .inl rfl
    | 2, _ => exact .inl rfl
    | 3, _ => exact .inr rfl
  · match i, h with
    | 0, _ => exact .inl rfl
    | 1, _ => exact .inr rfl
    | 2, _ => exact .inr rfl
    | 3, _ => exact .inl rfl
theorem end_v {x : Iv} (hx : vI x) {a : Fq} (h : a = x.lo ∨ a = x.hi) : vF a ∧ Has x (qv a) := by
  rcases h with rfl | rfl
  · exact ⟨hx.1, Has.lo hx⟩
  · exact ⟨hx.2.1, Has.hi hx⟩
theorem do_end {op : Nat} {x y z : Iv} (hx : vI x) (hy : vI y) (h0 : 3 ≤ op → Nz y) (hk : IOk op x y z) {l : List Fq}
    (hl : ∀ f ∈ l, ∃ a b, (a = x.lo ∨ a = x.hi) ∧ (b = y.lo ∨ b = y.hi) ∧ opF op a b = (f, 0)) (m1 : z.lo ∈ l) (m2 : z.hi ∈ l) :
    (∀ f ∈ l, vF f) ∧ (sortF l).getD 0 fr0 = z.lo ∧ (sortF l).getD (l.length - 1) fr0 = z.hi := by
  have key : ∀ f ∈ l, vF f ∧ cmpF z.lo f ≤ 0 ∧ cmpF f z.hi ≤ 0 := fun f hf => by
    obtain ⟨a, b, ha, hb, he⟩ := hl f hf
    obtain ⟨va, ia⟩ := end_v hx ha
    obtain ⟨vb, ib⟩ := end_v hy hb
    obtain ⟨v1, v2⟩ := opF_val va vb (fun h3 => (h0 h3).ne hy vb ib) (by rw [he])
    rw [he] at v1 v2
    simp only at v1 v2
    obtain ⟨k1, k2⟩ := hk.all _ _ ia ib
    rw [← v2] at k1 k2
    exact ⟨v1, (cmp_qv hk.v.1 v1).2 k1, (cmp_qv v1 hk.v.2.1).2 k2⟩
  exact ⟨fun f hf => (key f hf).1, sortF_head (fun f hf => (key f hf).1) m1 (fun f hf => (key f hf).2.1), sortF_last (fun f hf => (key f hf).1) m2 (fun f hf => (key f hf).2.2)⟩
theorem two_err {p q : Fq × Int} (hp : p.2 = 0 ∨ p.2 = 5) (hq : q.2 = 0 ∨ q.2 = 5) (h : ¬ (p.2 = 0 ∧ q.2 = 0)) : twoF p q = (iv0, 5) := by
  unfold twoF
  by_cases h1 : p.2 = 0
  · rw [if_neg (by omega), if_pos (by omega), show q.2 = 5 by omega]
  · rw [if_pos h1, show p.2 = 5 by omega]
theorem crn_err {op : Fq → Fq → Fq × Int} {x y : Iv} (c1 : (op x.lo y.lo).2 = 0 ∨ (op x.lo y.lo).2 = 5) (c2 : (op x.hi y.lo).2 = 0 ∨ (op x.hi y.lo).2 = 5) (c3 : (op x.lo y.hi).2 = 0 ∨ (op x.lo y.hi).2 = 5) (c4 : (op x.hi y.hi).2 = 0 ∨ (op x.hi y.hi).2 = 5)
    (h : ¬ ((op x.lo y.lo).2 = 0 ∧ (op x.hi y.lo).2 = 0 ∧ (op x.lo y.hi).2 = 0 ∧ (op x.hi y.hi).2 = 0)) : crnF op x y = (iv0, 5) := by
  unfold crnF
  by_cases h1 : (op x.lo y.lo).2 = 0
  · rw [if_neg (by omega)]
    by_cases h2 : (op x.hi y.lo).2 = 0
    · rw [if_neg (by omega)]
      by_cases h3 : (op x.lo y.hi).2 = 0
      · rw [if_neg (by omega), if_pos (by omega), show (op x.hi y.hi).2 = 5 by omega]
      · rw [if_pos h3, show (op x.lo y.hi).2 = 5 by omega]
    · rw [if_pos h2, show (op x.hi y.lo).2 = 5 by omega]
  · rw [if_pos h1, show (op x.lo y.lo).2 = 5 by omega]
theorem crn_all {op : Fq → Fq → Fq × Int} {x y : Iv} (h1 : (op x.lo y.lo).2 = 0) (h2 : (op x.hi y.lo).2 = 0) (h3 : (op x.lo y.hi).2 = 0) (h4 : (op x.hi y.hi).2 = 0) : ∃ z, crnF op x y = (z, 0) := by
  unfold crnF
  rw [if_neg (by omega), if_neg (by omega), if_neg (by omega), if_neg (by omega)]
  exact ⟨_, rfl⟩
theorem opF_code2 {op : Nat} {x y : Iv} (hx : vI x) (hy : vI y) (h0 : 3 ≤ op → Nz y) {a b : Fq} (ha : a = x.lo ∨ a = x.hi) (hb : b = y.lo ∨ b = y.hi) : (opF op a b).2 = 0 ∨ (opF op a b).2 = 5 := by
  obtain ⟨va, ia⟩ := end_v hx ha
  obtain ⟨vb, ib⟩ := end_v hy hb
  rcases opF_code va vb (fun h3 => (h0 h3).ne hy vb ib) with h | h
  · exact .inl h
  · exact .inr (by rw [h])
/-- What Do gives, where the divisor has no zero. -/
theorem do_plain {op : Nat} {x y : Iv} (hop : op < 4) (hx : vI x) (hy : vI y) (h0 : 3 ≤ op → Nz y) :
    (∀ i, i < many4 op → (do4 op x y i).2 ≠ 0 → iopF op x y = (iv0, 5)) ∧
    ((∀ i, i < many4 op → (do4 op x y i).2 = 0) → (∀ f ∈ doL op x y (many4 op), vF f) ∧ iopF op x y = (⟨(sortF (doL op x y (many4 op))).getD 0 fr0, (sortF (doL op x y (many4 op))).getD (many4 op - 1) fr0⟩, 0)) := by
  have hxy := and_i hx hy
  have hall : (∀ i, i < many4 op → (do4 op x y i).2 = 0) → ∀ f ∈ doL op x y (many4 op), ∃ a b, (a = x.lo ∨ a = x.hi) ∧ (b = y.lo ∨ b = y.hi) ∧ opF op a b = (f, 0) := fun h f hf => by
    have hm : many4 op ≤ 4 := by unfold many4; split <;> omega
    simp only [doL, List.mem_map, List.mem_range] at hf
    obtain ⟨j, hj, rfl⟩ := hf
    exact ⟨_, _, lhs4_mem x (i := j) (by omega), rhs4_mem op y (i := j) (by omega), Prod.ext rfl (h j hj)⟩
  have code := fun a b ha hb => opF_code2 (op := op) hx hy h0 (a := a) (b := b) ha hb
  have fin : ∀ z, iopF op x y = (z, 0) → (∀ i, i < many4 op → (do4 op x y i).2 = 0) → z.lo ∈ doL op x y (many4 op) → z.hi ∈ doL op x y (many4 op) → (∀ f ∈ doL op x y (many4 op), vF f) ∧ iopF op x y = (⟨(sortF (doL op x y (many4 op))).getD 0 fr0, (sortF (doL op x y (many4 op))).getD (many4 op - 1) fr0⟩, 0) := fun z hz h m1 m2 => by
    have hk := iop_ok hop hx hy hz
    obtain ⟨e0, e1, e2⟩ := do_end hx hy h0 hk (hall h) m1 m2
    rw [doL_len] at e2
    exact ⟨e0, by rw [hz, e1, e2]⟩
  match op, hop with
  | 0, _ =>
    have e0 : do4 0 x y 0 = addF x.lo y.lo := rfl
    have e1 : do4 0 x y 1 = addF x.hi y.hi := rfl
    have hi : iopF 0 x y = twoF (addF x.lo y.lo) (addF x.hi y.hi) := by simp only [iopF, iaddF]; rw [hxy, if_pos rfl]
    refine ⟨fun i hi2 hne => ?_, fun h => ?_⟩
    · rw [hi]
      refine two_err (code _ _ (.inl rfl) (.inl rfl)) (code _ _ (.inr rfl) (.inr rfl)) (fun ⟨k1, k2⟩ => hne ?_)
      match i, hi2 with
      | 0, _ => exact k1
      | 1, _ => exact k2
    · have k0 := h 0 (by decide)
      have k1 := h 1 (by decide)
      rw [e0] at k0
      rw [e1] at k1
      refine fin ⟨(addF x.lo y.lo).1, (addF x.hi y.hi).1⟩ (by rw [hi]; unfold twoF; rw [if_neg (by omega), if_neg (by omega)]) h ?_ ?_
      · exact List.mem_cons_self
      · exact List.mem_cons_of_mem _ List.mem_cons_self
  | 1, _ =>
    have e0 : do4 1 x y 0 = subF x.lo y.hi := rfl
    have e1 : do4 1 x y 1 = subF x.hi y.lo := rfl
    have hi : iopF 1 x y = twoF (subF x.lo y.hi) (subF x.hi y.lo) := by simp only [iopF, isubF]; rw [hxy, if_pos rfl]
    refine ⟨fun i hi2 hne => ?_, fun h => ?_⟩
    · rw [hi]
      refine two_err (code _ _ (.inl rfl) (.inr rfl)) (code _ _ (.inr rfl) (.inl rfl)) (fun ⟨k1, k2⟩ => hne ?_)
      match i, hi2 with
      | 0, _ => exact k1
      | 1, _ => exact k2
    · have k0 := h 0 (by decide)
      have k1 := h 1 (by decide)
      rw [e0] at k0
      rw [e1] at k1
      refine fin ⟨(subF x.lo y.hi).1, (subF x.hi y.lo).1⟩ (by rw [hi]; unfold twoF; rw [if_neg (by omega), if_neg (by omega)]) h ?_ ?_
      · exact List.mem_cons_self
      · exact List.mem_cons_of_mem _ List.mem_cons_self
  | 2, _ =>
    have hi : iopF 2 x y = crnF mulF x y := by simp only [iopF, imulF]; rw [hxy, if_pos rfl]
    refine ⟨fun i hi2 hne => ?_, fun h => ?_⟩
    · rw [hi]
      refine crn_err (code _ _ (.inl rfl) (.inl rfl)) (code _ _ (.inr rfl) (.inl rfl)) (code _ _ (.inl rfl) (.inr rfl)) (code _ _ (.inr rfl) (.inr rfl)) (fun ⟨k1, k2, k3, k4⟩ => hne ?_)
      match i, hi2 with
      | 0, _ => exact k1
      | 1, _ => exact k4
      | 2, _ => exact k3
      | 3, _ => exact k2
    · have k0 : (mulF x.lo y.lo).2 = 0 := h 0 (by decide)
      have k1 : (mulF x.hi y.hi).2 = 0 := h 1 (by decide)
      have k2 : (mulF x.lo y.hi).2 = 0 := h 2 (by decide)
      have k3 : (mulF x.hi y.lo).2 = 0 := h 3 (by decide)
      obtain ⟨z, hz⟩ := crn_all k0 k3 k2 k1
      have hz2 : iopF 2 x y = (z, 0) := by rw [hi]; exact hz
      have hk := iop_ok (by omega) hx hy hz2
      have hm : ∀ a b f, (a = x.lo ∨ a = x.hi) → (b = y.lo ∨ b = y.hi) → opF 2 a b = (f, 0) → f ∈ doL 2 x y 4 := fun a b f ha hb he => by
        have e : doL 2 x y 4 = [(mulF x.lo y.lo).1, (mulF x.hi y.hi).1, (mulF x.lo y.hi).1, (mulF x.hi y.lo).1] := rfl
        rw [e]
        have he : (mulF a b).1 = f := congrArg Prod.fst he
        rw [← he]
        rcases ha with rfl | rfl <;> rcases hb with rfl | rfl <;> simp
      obtain ⟨a, b, ha, hb, he⟩ := hk.lo
      obtain ⟨a', b', ha', hb', he'⟩ := hk.hi
      exact fin z hz2 h (hm a b _ ha hb he) (hm a' b' _ ha' hb' he')
  | 3, _ =>
    have hi : iopF 3 x y = crnF divF x y := by simp only [iopF, idivF]; rw [hxy, if_pos rfl, if_neg (h0 (by omega))]
    refine ⟨fun i hi2 hne => ?_, fun h => ?_⟩
    · rw [hi]
      refine crn_err (code _ _ (.inl rfl) (.inl rfl)) (code _ _ (.inr rfl) (.inl rfl)) (code _ _ (.inl rfl) (.inr rfl)) (code _ _ (.inr rfl) (.inr rfl)) (fun ⟨k1, k2, k3, k4⟩ => hne ?_)
      match i, hi2 with
      | 0, _ => exact k1
      | 1, _ => exact k4
      | 2, _ => exact k3
      | 3, _ => exact k2
    · have k0 : (divF x.lo y.lo).2 = 0 := h 0 (by decide)
      have k1 : (divF x.hi y.hi).2 = 0 := h 1 (by decide)
      have k2 : (divF x.lo y.hi).2 = 0 := h 2 (by decide)
      have k3 : (divF x.hi y.lo).2 = 0 := h 3 (by decide)
      obtain ⟨z, hz⟩ := crn_all k0 k3 k2 k1
      have hz2 : iopF 3 x y = (z, 0) := by rw [hi]; exact hz
      have hk := iop_ok (by omega) hx hy hz2
      have hm : ∀ a b f, (a = x.lo ∨ a = x.hi) → (b = y.lo ∨ b = y.hi) → opF 3 a b = (f, 0) → f ∈ doL 3 x y 4 := fun a b f ha hb he => by
        have e : doL 3 x y 4 = [(divF x.lo y.lo).1, (divF x.hi y.hi).1, (divF x.lo y.hi).1, (divF x.hi y.lo).1] := rfl
        rw [e]
        have he : (divF a b).1 = f := congrArg Prod.fst he
        rw [← he]
        rcases ha with rfl | rfl <;> rcases hb with rfl | rfl <;> simp
      obtain ⟨a, b, ha, hb, he⟩ := hk.lo
      obtain ⟨a', b', ha', hb', he'⟩ := hk.hi
      exact fin z hz2 h (hm a b _ ha hb he) (hm a' b' _ ha' hb' he')
end Go.Proofs.Ythknflclfmnciaa
