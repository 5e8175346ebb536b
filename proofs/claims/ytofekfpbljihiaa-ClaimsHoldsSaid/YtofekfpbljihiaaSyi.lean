/- The symbolic machine: append and make. No program in sight. -/
import Derived.Test.YtofekfpbljihiaaSyh
namespace Go.Proofs.Ytofekfpbljihiaa
open Go.RowKit
set_option linter.unusedVariables false
set_option linter.unusedSimpArgs false

theorem Hp.add {w : World} {ρ : Rho} {L : List Ob} {nx : Nat} {W : World} (h : Hp w ρ L nx W) (o : Ob) (A : Option Addr) (hn : o.n = nx) (ho : o.own = true) (hc : o.c.lt (nx + 1) = true)
    (hok : OwnOk w.heap.size (upd ρ nx A) o W) (hap : ∀ B, A = some B → ∀ o' ∈ L, o'.own = true → ρ o'.n ≠ some B) : Hp w (upd ρ nx A) (o :: L) (nx + 1) W := by
  have h1 := h.agree (agree_upd ρ nx A)
  refine ⟨h1.bel, ?_, ?_, ?_⟩
  · intro o' ho'
    rcases List.mem_cons.1 ho' with rfl | ho'
    · unfold ObOk
      rw [if_pos ho]
      exact hok
    · exact h1.obj o' ho'
  · refine List.pairwise_cons.2 ⟨fun o' ho' _ hw' hne => ?_, h1.dis⟩
    intro he
    rw [hn, upd_same] at hne he
    cases hA : A with
    | none => exact hne hA
    | some B =>
      refine hap B hA o' ho' hw' ?_
      rw [← upd_lt (ρ := ρ) (A := A) (h.lt o' ho').1, ← he, hA]
  · intro o' ho'
    rcases List.mem_cons.1 ho' with rfl | ho'
    · exact ⟨by omega, hc⟩
    · obtain ⟨a1, a2⟩ := h.lt o' ho'
      refine ⟨by omega, ?_⟩
      cases h5 : o'.c with
      | cs l => rw [h5] at a2; exact ltL_mono (Nat.le_succ _) l a2
      | rows _ _ _ => rfl
theorem own_to_row {α : Type} {R : RowS α} {B : Nat} {ρ : Rho} {W : World} {n cap : Nat} {ty : TypeId} {xs : List α} (hR : 0 < R.cols.length) (h : OwnOk B ρ ⟨n, true, ty, R.cols.length, cap, .rows α R xs⟩ W) (hc : xs.length ≤ cap) :
    W.ownsRow B ty R.cols.length (.slice (ρ n) xs.length cap) xs.length (rowC R xs) := by
  refine ⟨rowC_len R xs, ?_⟩
  rcases h with ⟨h1, h2, h3⟩ | ⟨g, junk, h1, h2, h3, h4, h5⟩
  · simp only at h1 h2 h3
    have : xs.length = 0 := by omega
    exact .inl ⟨by rw [h1, this, h3], this⟩
  · simp only at h1 h3 h4 h5
    refine .inr ⟨g, cap, _, by rw [h1], h2, h5, hc, h4, ?_, ?_⟩
    · simpa using h3
    · have hl := rowC_len R xs
      have : (Ct.rows α R xs).cells ρ = rowC R xs := rfl
      rw [this]
      simp [← hl]
theorem row_to_own {α : Type} {R : RowS α} {B : Nat} {ρ : Rho} {W : World} {n cap len : Nat} {ty : TypeId} {xs : List α} {A : Option Addr} (hl : len = xs.length) (h : W.ownsRow B ty R.cols.length (.slice A len cap) len (rowC R xs)) (hρ : ρ n = A) :
    OwnOk B ρ ⟨n, true, ty, R.cols.length, cap, .rows α R xs⟩ W ∧ len ≤ cap := by
  subst hl
  rcases h.2 with ⟨h1, h2⟩ | ⟨g, cap', cur, h1, h2, h3, h4, h5, h6, h7⟩
  · simp at h1
    obtain ⟨rfl, h1, rfl⟩ := h1
    refine ⟨.inl ⟨hρ, ?_, rfl⟩, by omega⟩
    have : (Ct.rows α R xs).cells ρ = rowC R xs := rfl
    simp only [this]
    exact List.eq_nil_of_length_eq_zero (by rw [rowC_len, h2]; simp)
  · simp at h1
    obtain ⟨rfl, rfl⟩ := h1
    refine ⟨.inr ⟨g, cur.toList.drop (rowC R xs).length, hρ, h2, ?_, h5, ?_⟩, h4⟩
    · have : (Ct.rows α R xs).cells ρ = rowC R xs := rfl
      have hle : xs.length * R.cols.length ≤ cap * R.cols.length := Nat.mul_le_mul_right _ h4
      simp only [this, List.length_drop, Array.length_toList, h6, rowC_len]
      omega
    · have hcell : (Ct.rows α R xs).cells ρ = rowC R xs := rfl
      simp only [hcell]
      have : rowC R xs ++ cur.toList.drop (rowC R xs).length = cur.toList := by
        have e : cur.toList.take (rowC R xs).length = rowC R xs := by rw [rowC_len]; exact h7
        conv => lhs; lhs; rw [← e]
        exact List.take_append_drop _ _
      rw [this]
      exact h3
theorem ownBlock_eq (A : Option Addr) (n c : Nat) : (Value.slice A n c).ownBlock = A.map (·.block) := by cases A <;> rfl
section
variable {P : Program} {w : World} {L : List Ob} {nx : Nat} {k : SV → List Ob → Nat → Prop} {kp : Bool} {α : Type} {R : RowS α}
theorem rowC_one (R : RowS α) (ys : List α) : ∀ u ∈ rowC R ys, u.oneCell' = true := by
  intro u hu
  simp only [rowC, List.mem_flatMap, List.mem_map] at hu
  obtain ⟨x, _, f, hf, rfl⟩ := hu
  exact R.one x f hf
theorem EvBi.append {t ty : TypeId} {ti te : TI} (ht : TyOk P t ti) (hd : ti.d = .slice ty) (hty : TyOk P ty te) (hsz : te.size = R.cols.length) (hpos : 0 < R.cols.length) (hzs : te.zero.cells.size = te.size)
    {n len cap sz : Nat} {xs : List α} (hn : fnd L n = some ⟨n, true, ty, R.cols.length, cap, .rows α R xs⟩) (hl : len = xs.length) (hc : xs.length ≤ cap) {src : SV} (ys : List α) (hsrc : ∀ ρ W, Hp w ρ L nx W → RowsIn R W (den ρ src) ys)
    (hmax : (xs.length + ys.length) * te.bytes ≤ 140737488355328) (hmx : xs.length + ys.length ≤ 9223372036854775807)
    (hk : ∀ cap', xs.length + ys.length ≤ cap' → cap' ≤ 9223372036854775807 → k (.s nx R.cols.length (xs.length + ys.length) cap') (⟨nx, true, ty, R.cols.length, cap', .rows α R (xs ++ ys)⟩ :: rmL L n) (nx + 1)) :
    EvBi false P w .append [.s n sz len cap, src] [t, t] L nx k := by
  subst hl
  refine ⟨fun ρ W hp hlt tt c => ?_⟩
  obtain ⟨hnn, l1, l2, hL, _⟩ := fnd_split hn
  have hok := hp.obj _ (show (⟨n, true, ty, R.cols.length, cap, .rows α R xs⟩ : Ob) ∈ L by rw [hL]; simp)
  simp only [ObOk, if_true] at hok
  have hrow := own_to_row hpos hok hc
  obtain ⟨_, j, hj1, hj2, hj3, hj4, _⟩ := hty
  have hS := hsrc ρ W hp
  obtain ⟨A, cap', W', h1, h2, h3, h4⟩ := run_append_sl (P := P) W w.heap.size t tt ty j te.zero R.cols.length te.bytes (by rw [ht.1, hd]) hj1 hj4 (hj2.trans hsz) hj3 (hzs.trans hsz) hpos
    (.slice (ρ n) xs.length cap) xs.length (rowC R xs) hrow (den ρ src) ys.length (rowC R ys) hS (rowC_one R ys) (by simpa [maxLen] using hmx) hmax hp.bel.size
  rw [← rowC_app] at h2
  have hG := hp.grown hn rfl (v := .slice (ρ n) xs.length cap) (ownBlock_eq _ _ _) h3
  obtain ⟨hown, hcc⟩ := row_to_own (R := R) (ρ := upd ρ nx A) (n := nx) (xs := xs ++ ys) (by simp) h2 (upd_same _ _ _)
  refine ⟨.slice A (xs.length + ys.length) cap', W', ?_, (fun h => by cases h), upd ρ nx A, .s nx R.cols.length (xs.length + ys.length) cap', _, nx + 1, by simp [den, upd_same], agree_upd ρ nx A, by omega, by simp [SV.lt, blt_iff], ?_, hk cap' hcc ?_⟩
  · simp only [builtin, denL, den]
    simp only [Sem.run_bind]
    have : #[t, t] = [t, t].toArray := rfl
    rw [← this]
    have e2 : #[Value.slice (ρ n) xs.length cap, den ρ src] = [Value.slice (ρ n) xs.length cap, den ρ src].toArray := rfl
    rw [← e2, h1]
    rfl
  · refine hG.add _ A rfl rfl rfl hown ?_
    intro B hB o' ho' hw'
    subst hB
    obtain ⟨m1, m2, hL2, hR2⟩ := rmL_split hn
    rw [hR2] at ho'
    have hmem' : o' ∈ L := by rw [hL2]; rcases List.mem_append.1 ho' with h | h <;> simp [h]
    have hobj' := hp.obj o' hmem'
    unfold ObOk at hobj'
    rw [if_pos hw'] at hobj'
    intro he
    have hblt := hobj'.blk_lt he
    rcases h4 B.block (by simp [ownBlock_eq]) with h5 | h5
    · have hdis := hp.dis
      rw [hL2] at hdis
      have hd1 := List.pairwise_append.1 hdis
      have hd2 := List.pairwise_cons.1 hd1.2.1
      rw [ownBlock_eq, Option.map_eq_some_iff] at h5
      obtain ⟨A0, hA0, hA1⟩ := h5
      have hBA : B = A0 := by
        rcases hok with ⟨hx, _⟩ | ⟨g, _, hx, _⟩
        · simp only at hx; rw [hx] at hA0; cases hA0
        · simp only at hx
          rw [hx] at hA0
          cases hA0
          rcases hobj' with ⟨hy, _⟩ | ⟨g', _, hy, _⟩
          · rw [hy] at he; cases he
          · rw [hy] at he
            cases he
            simp at hA1
            rw [hA1]
      subst hBA
      rcases List.mem_append.1 ho' with h' | h'
      · exact hd1.2.2 o' h' ⟨n, true, ty, R.cols.length, cap, .rows α R xs⟩ (by simp) hw' rfl (by rw [he]; simp) (by rw [he]; exact hA0.symm)
      · exact hd2.1 o' h' rfl hw' (by simp [hA0]) (by simp only [hA0]; exact he.symm)
    · omega
  · rcases hown with ⟨_, _, hx⟩ | ⟨_, _, _, _, _, hx, _⟩
    · simp only at hx; omega
    · simpa [maxLen] using hx
theorem EvBi.append_nil {t ty : TypeId} {ti te : TI} (ht : TyOk P t ti) (hd : ti.d = .slice ty) (hty : TyOk P ty te) (hsz : te.size = R.cols.length) (hpos : 0 < R.cols.length) (hzs : te.zero.cells.size = te.size)
    {src : SV} (ys : List α) (hsrc : ∀ ρ W, Hp w ρ L nx W → RowsIn R W (den ρ src) ys)
    (hmax : ys.length * te.bytes ≤ 140737488355328) (hmx : ys.length ≤ 9223372036854775807)
    (hk : ∀ cap', ys.length ≤ cap' → cap' ≤ 9223372036854775807 → k (.s nx R.cols.length ys.length cap') (⟨nx, true, ty, R.cols.length, cap', .rows α R ys⟩ :: L) (nx + 1)) :
    EvBi kp P w .append [.v (.slice none 0 0), src] [t, t] L nx k := by
  refine ⟨fun ρ W hp hlt tt c => ?_⟩
  have hrow : W.ownsRow w.heap.size ty R.cols.length (.slice none 0 0) 0 (rowC R ([] : List α)) := ⟨by simp [rowC], .inl ⟨rfl, rfl⟩⟩
  obtain ⟨_, j, hj1, hj2, hj3, hj4, _⟩ := hty
  have hS := hsrc ρ W hp
  obtain ⟨A, cap', W', h1, h2, h3, h4⟩ := run_append_sl (P := P) W w.heap.size t tt ty j te.zero R.cols.length te.bytes (by rw [ht.1, hd]) hj1 hj4 (hj2.trans hsz) hj3 (hzs.trans hsz) hpos
    (.slice none 0 0) 0 (rowC R ([] : List α)) hrow (den ρ src) ys.length (rowC R ys) hS (rowC_one R ys) (by simpa [maxLen] using hmx) (by simpa using hmax) hp.bel.size
  simp only [Nat.zero_add] at h1 h2 h4
  have h2' : W'.ownsRow w.heap.size ty R.cols.length (.slice A ys.length cap') ys.length (rowC R ys) := by simpa [rowC] using h2
  have hbel : Below W.heap.size W W' := ⟨h3.os, h3.tape, h3.output, h3.size, fun k hk => h3.block k hk (by simp [Value.ownBlock])⟩
  obtain ⟨hown, hcc⟩ := row_to_own (R := R) (ρ := upd ρ nx A) (n := nx) (xs := ys) rfl h2' (upd_same _ _ _)
  refine ⟨.slice A ys.length cap', W', ?_, (fun _ => hbel), upd ρ nx A, .s nx R.cols.length ys.length cap', _, nx + 1, by simp [den, upd_same], agree_upd ρ nx A, by omega, by simp [SV.lt, blt_iff], ?_, hk cap' hcc ?_⟩
  · simp only [builtin, denL, den]
    simp only [Sem.run_bind]
    have : #[t, t] = [t, t].toArray := rfl
    rw [← this]
    have e2 : #[Value.slice none 0 0, den ρ src] = [Value.slice none 0 0, den ρ src].toArray := rfl
    rw [← e2, h1]
    rfl
  · refine (hp.step hbel).add _ A rfl rfl rfl hown ?_
    intro B hB o' ho' hw' he
    subst hB
    have hobj' := hp.obj o' ho'
    unfold ObOk at hobj'
    rw [if_pos hw'] at hobj'
    have hblt := hobj'.blk_lt he
    rcases h4 B.block (by simp [ownBlock_eq]) with h5 | h5
    · simp [Value.ownBlock] at h5
    · omega
  · rcases hown with ⟨_, _, hx⟩ | ⟨_, _, _, _, _, hx, _⟩
    · simp only at hx; omega
    · simpa [maxLen] using hx
/-- Cells one by one read as rows. -/
theorem Hp.lit {ρ : Rho} {W : World} (h : Hp w ρ L nx W) {n size cap sz c : Nat} {own : Bool} {ty : TypeId} {cs : List SV} {ys : List α} (hf : fnd L n = some ⟨n, own, ty, size, cap, .cs cs⟩) (hpos : 0 < R.cols.length) (hc : ys.length ≤ c) (hm : c ≤ 9223372036854775807) (hy : denL ρ cs = rowC R ys) :
    RowsIn R W (den ρ (.s n sz ys.length c)) ys := by
  obtain ⟨_, l1, l2, hL, _⟩ := fnd_split hf
  have hok := h.obj _ (show (⟨n, own, ty, size, cap, .cs cs⟩ : Ob) ∈ L by rw [hL]; simp)
  have hcell : (Ct.cs cs).cells ρ = rowC R ys := hy
  refine ⟨ρ n, c, by simp [den], hc, by simpa [maxLen] using hm, rowC_len R ys, fun h0 => ?_⟩
  have hpos : 0 < (rowC R ys).length := by rw [rowC_len]; exact Nat.mul_pos h0 hpos
  obtain ⟨b, off, h1, h2⟩ := hok.cell (j := 0) (u := (rowC R ys)[0]) (by simp only [hcell]; exact List.getElem?_eq_getElem hpos)
  refine ⟨b, off, h1, World.block_lt_of_cell? W _ h2, fun j u hu => ?_⟩
  obtain ⟨b', off', h1', h2'⟩ := hok.cell (j := j) (u := u) (by simp only [hcell]; exact hu)
  simp only at h1 h1'
  rw [h1] at h1'
  injection h1' with h1'
  injection h1' with e1 e2
  subst e1; subst e2
  exact h2'
/-- make([]T, n). -/
theorem EvMake.full {t ty : TypeId} {ti te : TI} (ht : TyOk P t ti) (hd : ti.d = .slice ty) (hty : TyOk P ty te) (hsz : te.size = R.cols.length) (hpos : 0 < R.cols.length) (z : α) (hz : te.zero.cells.toList = R.cols.map (fun f => f z)) (n : Nat) (hb : te.bytes * n ≤ 140737488355328) (hn : n ≤ 9223372036854775807)
    (hk : k (.s nx R.cols.length n n) (⟨nx, true, ty, R.cols.length, n, .rows α R (List.replicate n z)⟩ :: L) (nx + 1)) : EvMake kp P w t (.v (.int .i64 (n : Int))) (.v (.int .i64 (n : Int))) L nx k := by
  refine ⟨fun ρ W hp => ?_⟩
  obtain ⟨_, j, hj1, hj2, hj3, hj4, _⟩ := hty
  have hrun := make_row (P := P) t ty j te.zero (by rw [ht.1, hd]) hj1 hj4 n (by rw [hj3]; omega) hn W
  have hzl : te.zero.cells.toList.length = R.cols.length := by rw [hz]; simp
  have hcells : (madeCells te.zero.cells (n * j.size)).toList = rowC R (List.replicate n z) := by
    have := range_rep te.zero.cells.toList (by rw [hzl]; exact hpos) n
    rw [hzl] at this
    have e : n * j.size = n * R.cols.length := by rw [hj2, hsz]
    rw [e]
    unfold madeCells
    simp only [Array.toArray_toList] at this
    rw [this, hz]
    simp [rowC, List.flatMap_replicate]
  have hblk : Blk (W.alloc (.cells (madeCells te.zero.cells (n * j.size)) ty)) W.heap.size ty (rowC R (List.replicate n z)).toArray := by
    have := Blk.new W ty (madeCells te.zero.cells (n * j.size))
    rw [← hcells]
    simpa using this
  refine ⟨_, _, hrun, (fun _ => (Below.refl _ _).alloc (Nat.le_refl _) _), upd ρ nx (some ⟨W.heap.size, 0, none⟩), .s nx R.cols.length n n, _, nx + 1, by simp [den, upd_same], agree_upd ρ nx _, by omega, by simp [SV.lt, blt_iff], ?_, hk⟩
  refine hp.new ((Below.refl _ _).alloc (Nat.le_refl _) _) _ _ rfl rfl rfl (.inr ⟨W.heap.size, [], upd_same _ _ _, Nat.le_refl _, ?_, by simpa [maxLen] using hn, ?_⟩)
  · have : (Ct.rows α R (List.replicate n z)).cells (upd ρ nx (some ⟨W.heap.size, 0, none⟩)) = rowC R (List.replicate n z) := rfl
    simp only [this, rowC_len]
    simp
  · have : (Ct.rows α R (List.replicate n z)).cells (upd ρ nx (some ⟨W.heap.size, 0, none⟩)) = rowC R (List.replicate n z) := rfl
    simp only [this, List.append_nil]
    exact hblk
end
end Go.Proofs.Ytofekfpbljihiaa
