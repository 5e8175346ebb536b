/- The symbolic machine: copy; slices of slices. No program in sight. -/
import Derived.Test.YtofekfpbljihiaaSyi
namespace Go.Proofs.Ytofekfpbljihiaa
open Go.RowKit
set_option linter.unusedVariables false
set_option linter.unusedSimpArgs false

theorem rowC_take {α : Type} (R : RowS α) (xs : List α) : ∀ n, rowC R (xs.take n) = (rowC R xs).take (n * R.cols.length) := by
  induction xs with
  | nil => intro n; simp [rowC]
  | cons x r ih =>
    intro n
    cases n with
    | zero => simp [rowC]
    | succ n =>
      have e : (n + 1) * R.cols.length = (R.cols.map (fun f => f x)).length + n * R.cols.length := by rw [Nat.succ_mul]; simp; omega
      have h1 : rowC R (x :: r) = R.cols.map (fun f => f x) ++ rowC R r := by simp [rowC]
      have h2 : rowC R (x :: r.take n) = R.cols.map (fun f => f x) ++ rowC R (r.take n) := by simp [rowC]
      rw [List.take_succ_cons, h2, h1, e, List.take_length_add_append, ih]
theorem rowC_drop {α : Type} (R : RowS α) (xs : List α) : ∀ n, rowC R (xs.drop n) = (rowC R xs).drop (n * R.cols.length) := by
  induction xs with
  | nil => intro n; simp [rowC]
  | cons x r ih =>
    intro n
    cases n with
    | zero => simp [rowC]
    | succ n =>
      have e : (n + 1) * R.cols.length = (R.cols.map (fun f => f x)).length + n * R.cols.length := by rw [Nat.succ_mul]; simp; omega
      have h1 : rowC R (x :: r) = R.cols.map (fun f => f x) ++ rowC R r := by simp [rowC]
      rw [List.drop_succ_cons, h1, e, ih]
      simp [List.drop_append]
theorem rowC_splice {α : Type} (R : RowS α) (xs : List α) (n : Nat) (ys : List α) : rowC R (splice xs n ys) = splice (rowC R xs) (n * R.cols.length) (rowC R ys) := by
  simp only [splice, rowC_app, rowC_take, rowC_drop, rowC_len, Nat.add_mul]
/-- A part of a slice of rows. -/
theorem RowsIn.part {α : Type} {R : RowS α} {w : World} {A : Option Addr} {len c : Nat} {xs : List α} (h : RowsIn R w (.slice A len c) xs) (lo hi m : Nat) (h1 : lo ≤ hi) (h2 : hi ≤ xs.length) (h3 : hi ≤ m) (h4 : m ≤ c) :
    RowsIn R w (.slice (A.map (·.add (sOff 0 m lo * R.cols.length))) (hi - lo) (m - lo)) ((xs.drop lo).take (hi - lo)) := by
  obtain ⟨A', c', e, g1, g2, g3, g4⟩ := h
  simp at e
  obtain ⟨rfl, rfl, rfl⟩ := e
  have hl : ((xs.drop lo).take (hi - lo)).length = hi - lo := by simp; omega
  refine ⟨_, m - lo, by rw [hl], by omega, by omega, by rw [rowC_len], fun h0 => ?_⟩
  rw [hl] at h0
  obtain ⟨b, off, rfl, hb, hc⟩ := g4 (by omega)
  have hs : sOff 0 m lo = lo := by
    unfold sOff
    rw [if_neg (by omega)]
    omega
  refine ⟨b, off + lo * R.cols.length, by simp [add_none, hs], hb, fun j u hu => ?_⟩
  rw [rowC_take, rowC_drop, List.getElem?_take] at hu
  split at hu
  · rw [List.getElem?_drop] at hu
    rw [Nat.add_assoc]
    exact hc _ u hu
  · cases hu
theorem RowsIn.cut {α : Type} {R : RowS α} {w : World} {A : Option Addr} {len c : Nat} {xs : List α} (h : RowsIn R w (.slice A len c) xs) (hi m : Nat) (h2 : hi ≤ xs.length) (h3 : hi ≤ m) (h4 : m ≤ c) : RowsIn R w (.slice A hi m) (xs.take hi) := by
  obtain ⟨A', c', e, g1, g2, g3, g4⟩ := h
  simp at e
  obtain ⟨rfl, rfl, rfl⟩ := e
  have hl : (xs.take hi).length = hi := by simp; omega
  refine ⟨A, m, by rw [hl], by omega, by omega, by rw [rowC_len], fun h0 => ?_⟩
  rw [hl] at h0
  obtain ⟨b, off, rfl, hb, hc⟩ := g4 (by omega)
  refine ⟨b, off, rfl, hb, fun j u hu => ?_⟩
  rw [rowC_take, List.getElem?_take] at hu
  split at hu
  · exact hc _ u hu
  · cases hu
section
variable {P : Program} {w : World} {L : List Ob} {nx : Nat} {k : SV → List Ob → Nat → Prop} {kp : Bool} {α : Type} {R : RowS α}
/-- copy into an object of the walk's own. -/
theorem EvBi.copy {t t2 ty : TypeId} {ti te : TI} (ht : TyOk P t ti) (hd : ti.d = .slice ty) (hty : TyOk P ty te) (hsz : te.size = R.cols.length) (hpos : 0 < R.cols.length)
    {n len cap c2 : Nat} {eo : Option Nat} {xs : List α} (hn : fnd L n = some ⟨n, true, ty, R.cols.length, cap, .rows α R xs⟩) (hle : eo.getD 0 + len ≤ xs.length) {src : SV} (ys : List α) (hsrc : ∀ ρ W, Hp w ρ L nx W → RowsIn R W (den ρ src) ys)
    (hk : k (.v (.int .i64 ((min ys.length len : Nat) : Int))) (updL L n (.rows α R (splice xs (eo.getD 0) (ys.take (min ys.length len))))) nx) :
    EvBi false P w .copy [slV n R.cols.length eo len c2, src] [t, t2] L nx k := by
  refine ⟨fun ρ W hp hlt tt c => ?_⟩
  have hS := hsrc ρ W hp
  obtain ⟨A2, c3, e2, g1, g2, g3, g4⟩ := hS
  have hm : Nat.min ys.length len = min ys.length len := rfl
  have hload : (Builtin.firstCells R.cols.length (min ys.length len) (den ρ src)).run P W = .ok (rowC R (ys.take (min ys.length len))).toArray W := by
    rw [e2]
    cases A2 with
    | none =>
      have : ys.length = 0 := by
        rcases Nat.eq_zero_or_pos ys.length with h | h
        · exact h
        · obtain ⟨b, off, h1, _⟩ := g4 h
          cases h1
      have hy : ys = [] := List.eq_nil_of_length_eq_zero this
      subst hy
      simp [Builtin.firstCells, rowC]
    | some A2 =>
      have hl : (rowC R (ys.take (min ys.length len))).length = min ys.length len * R.cols.length := by
        rw [rowC_len, List.length_take]
        congr 1
        omega
      have := run_loadCells_list (P := P) W A2 (rowC R (ys.take (min ys.length len))) (by
        intro j u hu
        have hj := (List.getElem?_eq_some_iff.1 hu).1
        have h0 : 0 < ys.length := by
          rcases Nat.eq_zero_or_pos ys.length with h | h
          · rw [hl, h] at hj; simp at hj
          · exact h
        obtain ⟨b, off, hA, _, hc⟩ := g4 h0
        injection hA with hA
        subst hA
        rw [add_none]
        apply hc
        rw [rowC_take, List.getElem?_take] at hu
        split at hu
        · exact hu
        · cases hu)
      rw [hl] at this
      simp only [Builtin.firstCells]
      exact this
  have hstore : ∃ W', (match (ρ n).map (·.add (eo.getD 0 * R.cols.length)) with | some a => storeCells a (rowC R (ys.take (min ys.length len))) | none => pure () : Sem Unit).run P W = .ok () W' ∧ Hp w ρ (updL L n (.rows α R (splice xs (eo.getD 0) (ys.take (min ys.length len))))) nx W' := by
    by_cases h0 : min ys.length len = 0
    · refine ⟨W, ?_, ?_⟩
      · rw [h0]
        cases (ρ n) <;> simp [rowC, storeCells]
      · rw [h0]
        have hx : splice xs (eo.getD 0) (ys.take 0) = xs := by simp [splice]
        rw [hx]
        obtain ⟨_, l1, l2, hL, hU⟩ := fnd_split hn
        rw [hU]
        rw [hL] at hp
        exact hp
    · obtain ⟨_, l1, l2, hL, _⟩ := fnd_split hn
      have hyl : (ys.take (min ys.length len)).length = min ys.length len := by rw [List.length_take]; omega
      have hcl : (rowC R (ys.take (min ys.length len))).length = min ys.length len * R.cols.length := by rw [rowC_len, hyl]
      have hobj := hp.obj _ (show (⟨n, true, ty, R.cols.length, cap, .rows α R xs⟩ : Ob) ∈ L by rw [hL]; simp)
      have hmul : (eo.getD 0 + min ys.length len) * R.cols.length ≤ xs.length * R.cols.length := Nat.mul_le_mul_right _ (by omega)
      rw [Nat.add_mul] at hmul
      obtain ⟨W', h8, h9⟩ := hp.store hn rfl (c' := .rows α R (splice xs (eo.getD 0) (ys.take (min ys.length len)))) rfl (off := eo.getD 0 * R.cols.length) (vs := rowC R (ys.take (min ys.length len)))
        (by rw [hcl]; exact Nat.mul_pos (by omega) hpos) (by
          have : (Ct.rows α R xs).cells ρ = rowC R xs := rfl
          simp only [this, rowC_len, hyl]
          omega) (by
          have e1 : (Ct.rows α R xs).cells ρ = rowC R xs := rfl
          have e3 : (Ct.rows α R (splice xs (eo.getD 0) (ys.take (min ys.length len)))).cells ρ = rowC R (splice xs (eo.getD 0) (ys.take (min ys.length len))) := rfl
          simp only [e1]
          rw [e3, rowC_splice]) (rowC_one R _) P
      simp only [ObOk, if_true] at hobj
      rcases hobj with ⟨_, hx, _⟩ | ⟨g, junk, hg, _⟩
      · have : (Ct.rows α R xs).cells ρ = rowC R xs := rfl
        simp only [this] at hx
        have := rowC_len R xs
        rw [hx] at this
        have hz := Nat.mul_pos (show 0 < xs.length by omega) hpos
        simp at this
        omega
      · simp only at hg
        refine ⟨W', ?_, h9⟩
        rw [hg] at h8 ⊢
        simpa using h8
  obtain ⟨W', h5, h6⟩ := hstore
  refine ⟨.int .i64 ((min ys.length len : Nat) : Int), W', ?_, (fun h => by cases h), ρ, .v (.int .i64 ((min ys.length len : Nat) : Int)), _, nx, by simp [den], fun _ _ => rfl, Nat.le_refl _, rfl, h6, hk⟩
  have u := ht.under W
  rw [hd] at u
  have hsz' := hty.sizeOf W
  rw [hsz] at hsz'
  have hlen : (Builtin.lenOf (den ρ src)).run P W = .ok ys.length W := by rw [e2]; simp [Builtin.lenOf]
  simp only [builtin, denL, den_slV]
  simp only [Builtin.copy_, Sem.run_bind]
  simp [u, hlen, hsz', hm, hload]
  cases hρ : (ρ n) with
  | none =>
    rw [hρ] at h5
    simp at h5
    simp [h5, goInt]
  | some B =>
    rw [hρ] at h5
    have h5' : (storeCells (B.add (eo.getD 0 * R.cols.length)) (rowC R (ys.take (min ys.length len)))).run P W = .ok () W' := h5
    simp [h5', goInt]
end
end Go.Proofs.Ytofekfpbljihiaa
