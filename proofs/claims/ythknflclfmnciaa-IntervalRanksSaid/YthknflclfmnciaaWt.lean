
/- Ranks: the k-th of sorted numbers counts; a greater list has a greater k-th; the order does not matter. No program in sight. -/
import Derived.Test.YthknflclfmnciaaWq
namespace Go.Proofs.Ythknflclfmnciaa
set_option linter.unusedVariables false
set_option linter.unusedSimpArgs false

theorem insF_perm (x : Fq) : ∀ s : List Fq, (insF s x).Perm (x :: s)
  | [] => .refl _
  | y :: r => by
    unfold insF
    split
    · exact ((insF_perm x r).cons y).trans (List.Perm.swap x y r)
    · exact .refl _
theorem sortF_perm (l : List Fq) : (sortF l).Perm l := sortF_ind (p := fun l s => s.Perm l) (.refl _) (fun l x s h => ((insF_perm x s).trans (h.cons x)).trans (List.perm_append_singleton x l).symm) l
def cntB (v : Rat) (a : Rat) : Bool := decide (a ≤ v)
theorem cnt_at {s : List Rat} (hs : s.Pairwise (· ≤ ·)) (v : Rat) : ∀ (k : Nat), k < s.length → (s.getD k 0 ≤ v ↔ k < s.countP (cntB v)) := by
  induction s with
  | nil => intro k hk; simp at hk
  | cons a t ih =>
    obtain ⟨h1, h2⟩ := List.pairwise_cons.1 hs
    intro k hk
    by_cases ha : a ≤ v
    · have hc : (a :: t).countP (cntB v) = t.countP (cntB v) + 1 := by
        rw [List.countP_cons_of_pos]
        simp [cntB, ha]
      rw [hc]
      cases k with
      | zero => simp [ha]
      | succ j =>
        have := ih h2 j (by simpa using hk)
        simp only [List.getD_cons_succ]
        rw [this]
        omega
    · have hall : ∀ b ∈ t, ¬ b ≤ v := fun b hb h => ha (Rat.le_trans (h1 b hb) h)
      have hc : (a :: t).countP (cntB v) = 0 := by
        rw [List.countP_eq_zero]
        intro b hb
        simp only [cntB, decide_eq_true_eq]
        rcases List.mem_cons.1 hb with rfl | hb
        · exact ha
        · exact hall b hb
      rw [hc]
      constructor
      · intro h
        cases k with
        | zero => exact absurd h ha
        | succ j =>
          simp only [List.getD_cons_succ] at h
          have hj : j < t.length := by simpa using hk
          have hm : t.getD j 0 ∈ t := by
            rw [List.getD_eq_getElem?_getD, List.getElem?_eq_getElem hj]
            exact List.getElem_mem hj
          exact absurd h (hall _ hm)
      · intro h; omega
theorem qs_sorted {l : List Fq} (hv : ∀ y ∈ l, vF y) : ((sortF l).map qv).Pairwise (· ≤ ·) := by
  have h := sortF_sorted l hv
  have hm : ∀ y ∈ sortF l, vF y := fun y hy => hv y ((mem_sortF y l).1 hy)
  rw [List.pairwise_map]
  exact h.imp_of_mem (fun {a b} ha hb hab => (cmp_qv (hm a ha) (hm b hb)).1 hab)
theorem qs_at {l : List Fq} {k : Nat} (hk : k < l.length) : ((sortF l).map qv).getD k 0 = qv ((sortF l).getD k fr0) := by
  have hk' : k < (sortF l).length := by rw [sortF_len]; exact hk
  simp [List.getD_eq_getElem?_getD, hk']
theorem kth_iff {l : List Fq} (hv : ∀ y ∈ l, vF y) {k : Nat} (hk : k < l.length) (v : Rat) : qv ((sortF l).getD k fr0) ≤ v ↔ k < (l.map qv).countP (cntB v) := by
  have h := cnt_at (qs_sorted hv) v k (by rw [List.length_map, sortF_len]; exact hk)
  rw [qs_at hk] at h
  rw [h, ((sortF_perm l).map qv).countP_eq]
theorem cnt_mono (v : Rat) : ∀ (n : Nat) (f g : Nat → Rat), (∀ i, i < n → f i ≤ g i) → ((List.range n).map g).countP (cntB v) ≤ ((List.range n).map f).countP (cntB v)
  | 0, _, _, _ => by simp
  | n + 1, f, g, h => by
    have ih := cnt_mono v n f g (fun i hi => h i (by omega))
    have hn := h n (by omega)
    simp only [List.range_succ, List.map_append, List.countP_append, List.map_cons, List.map_nil]
    have : [g n].countP (cntB v) ≤ [f n].countP (cntB v) := by
      simp only [List.countP_singleton, cntB, decide_eq_true_eq]
      split
      · rename_i hg
        rw [if_pos (Rat.le_trans hn hg)]
        exact Nat.le_refl _
      · exact Nat.zero_le _
    omega
theorem range_map {α : Type} {l : List α} {d : α} : (List.range l.length).map (fun i => l.getD i d) = l := by
  apply List.ext_getElem (by simp)
  intro i h1 h2
  simp [List.getD_eq_getElem?_getD, h2]
/-- A list that is nowhere greater has no greater k-th. -/
theorem kth_mono {l m : List Fq} (hl : ∀ y ∈ l, vF y) (hm : ∀ y ∈ m, vF y) (hlen : l.length = m.length) (h : ∀ i, i < l.length → qv (l.getD i fr0) ≤ qv (m.getD i fr0)) {k : Nat} (hk : k < l.length) :
    qv ((sortF l).getD k fr0) ≤ qv ((sortF m).getD k fr0) := by
  rw [kth_iff hl hk]
  have h1 := (kth_iff hm (k := k) (by omega) (qv ((sortF m).getD k fr0))).1 Rat.le_refl
  have e1 : l.map qv = (List.range l.length).map (fun i => qv (l.getD i fr0)) := by conv => { lhs; rw [← range_map (l := l) (d := fr0)] }; rw [List.map_map]; rfl
  have e2 : m.map qv = (List.range l.length).map (fun i => qv (m.getD i fr0)) := by rw [hlen]; conv => { lhs; rw [← range_map (l := m) (d := fr0)] }; rw [List.map_map]; rfl
  have h2 := cnt_mono (qv ((sortF m).getD k fr0)) l.length (fun i => qv (l.getD i fr0)) (fun i => qv (m.getD i fr0)) h
  rw [← e1, ← e2] at h2
  omega
theorem kth_perm {l m : List Fq} (hl : ∀ y ∈ l, vF y) (hp : l.Perm m) {k : Nat} (hk : k < l.length) : (sortF l).getD k fr0 = (sortF m).getD k fr0 := by
  have hm : ∀ y ∈ m, vF y := fun y hy => hl y (hp.mem_iff.2 hy)
  have hk' : k < m.length := by rw [← hp.length_eq]; exact hk
  have v1 : vF ((sortF l).getD k fr0) := hl _ (sortF_mem hk)
  have v2 : vF ((sortF m).getD k fr0) := hm _ (sortF_mem hk')
  have hc := fun v => ((hp.map qv).countP_eq (cntB v))
  refine qv_inj v1 v2 (Rat.le_antisymm ?_ ?_)
  · rw [kth_iff hl hk, hc, ← kth_iff hm hk']
    exact Rat.le_refl
  · rw [kth_iff hm hk', ← hc, ← kth_iff hl hk]
    exact Rat.le_refl
theorem kthF_perm {l m : List Iv} (hl : ∀ x ∈ l, vI x) (hp : l.Perm m) {n : Int} (h : ¬ (n < 1 ∨ (l.length : Int) < n)) : kthF m n = kthF l n := by
  have hm : ∀ x ∈ m, vI x := fun x hx => hl x (hp.mem_iff.2 hx)
  have h' : ¬ (n < 1 ∨ (m.length : Int) < n) := by rw [← hp.length_eq]; exact h
  rw [kthF_ok h hl, kthF_ok h' hm]
  have k1 := kth_perm (l := l.map Iv.lo) (m := m.map Iv.lo) (fun y hy => by
    obtain ⟨x, hx, rfl⟩ := List.mem_map.1 hy
    exact (hl x hx).1) (hp.map _) (k := (n - 1).toNat) (by simp; omega)
  have k2 := kth_perm (l := l.map Iv.hi) (m := m.map Iv.hi) (fun y hy => by
    obtain ⟨x, hx, rfl⟩ := List.mem_map.1 hy
    exact (hl x hx).2.1) (hp.map _) (k := (n - 1).toNat) (by simp; omega)
  rw [k1, k2]
/-- The k-th of the intervals contains the k-th of numbers in them. -/
theorem kthF_cont {l : List Iv} {c : List Fq} (hl : ∀ x ∈ l, vI x) (hc : ∀ y ∈ c, vF y) (hlen : c.length = l.length) (hh : ∀ i, i < l.length → Has (l.getD i iv0) (qv (c.getD i fr0))) {n : Int} (h : ¬ (n < 1 ∨ (l.length : Int) < n)) :
    (kthF l n).2 = 0 ∧ contB (kthF l n).1 ((sortF c).getD (n - 1).toNat fr0) = true := by
  rw [kthF_ok h hl]
  have hk : (n - 1).toNat < l.length := by omega
  have v1 : ∀ y ∈ l.map Iv.lo, vF y := fun y hy => by
    obtain ⟨x, hx, rfl⟩ := List.mem_map.1 hy
    exact (hl x hx).1
  have v2 : ∀ y ∈ l.map Iv.hi, vF y := fun y hy => by
    obtain ⟨x, hx, rfl⟩ := List.mem_map.1 hy
    exact (hl x hx).2.1
  have g1 : ∀ i, i < l.length → (l.map Iv.lo).getD i fr0 = (l.getD i iv0).lo := fun i hi => by simp [List.getD_eq_getElem?_getD, hi]
  have g2 : ∀ i, i < l.length → (l.map Iv.hi).getD i fr0 = (l.getD i iv0).hi := fun i hi => by simp [List.getD_eq_getElem?_getD, hi]
  have m1 := kth_mono v1 hc (by simp [hlen]) (fun i hi => by rw [g1 i (by simpa using hi)]; exact (hh i (by simpa using hi)).1) (k := (n - 1).toNat) (by simpa using hk)
  have m2 := kth_mono hc v2 (by simp [hlen]) (fun i hi => by rw [g2 i (by omega)]; exact (hh i (by omega)).2) (k := (n - 1).toNat) (by omega)
  have w1 := v1 _ (sortF_mem (l := l.map Iv.lo) (i := (n - 1).toNat) (by simpa using hk))
  have w2 := v2 _ (sortF_mem (l := l.map Iv.hi) (i := (n - 1).toNat) (by simpa using hk))
  have w3 := hc _ (sortF_mem (l := c) (i := (n - 1).toNat) (by omega))
  exact ⟨rfl, cont_has ⟨w1, w2, (cmp_qv w1 w2).2 (Rat.le_trans m1 m2)⟩ w3 ⟨m1, m2⟩⟩
end Go.Proofs.Ythknflclfmnciaa
