/- The symbolic machine: rows that come in or are handed on, append, make. No program in sight. -/
import Derived.Test.YtofekfpbljihiaaSyg
namespace Go.Proofs.Ytofekfpbljihiaa
open Go.RowKit
set_option linter.unusedVariables false
set_option linter.unusedSimpArgs false

/-- The cells of rows. -/
def rowC {α : Type} (R : RowS α) (xs : List α) : List Value := xs.flatMap (fun x => R.cols.map (fun f => f x))
theorem rowC_len {α : Type} (R : RowS α) (xs : List α) : (rowC R xs).length = xs.length * R.cols.length := by
  simp [rowC, List.length_flatMap, List.map_const', List.sum_replicate_nat]
theorem rowC_app {α : Type} (R : RowS α) (xs ys : List α) : rowC R (xs ++ ys) = rowC R xs ++ rowC R ys := by simp [rowC]
/-- A slice that reads as rows. -/
def RowsIn {α : Type} (R : RowS α) (w : World) (v : Value) (xs : List α) : Prop := Sl w R.cols.length v xs.length (rowC R xs)
theorem RowsIn.form {α : Type} {R : RowS α} {w : World} {v : Value} {xs : List α} (h : RowsIn R w v xs) : ∃ A c, v = .slice A xs.length c ∧ xs.length ≤ c ∧ c ≤ 9223372036854775807 := by
  obtain ⟨A, c, e, h1, h2, _⟩ := h
  exact ⟨A, c, e, h1, by simpa [maxLen] using h2⟩
theorem RowsIn.below {α : Type} {R : RowS α} {w w' : World} {v : Value} {xs : List α} (h : RowsIn R w v xs) (hb : Below w.heap.size w w') : RowsIn R w' v xs := Sl.below h hb
theorem ro_rows {α : Type} {R : RowS α} {w : World} {xs : List α} {A : Option Addr} {len c n : Nat} {ρ : Rho} (h : RowsIn R w (.slice A len c) xs) (hρ : ρ n = A) (ty : TypeId) : RoOk w.heap.size ρ ⟨n, false, ty, R.cols.length, c, .rows α R xs⟩ w := by
  intro hl
  obtain ⟨A', c', e, _, _, hlen, h4⟩ := h
  simp at e
  obtain ⟨rfl, rfl, rfl⟩ := e
  have hl' : 0 < (rowC R xs).length := hl
  rw [rowC_len] at hl'
  have h0 : 0 < xs.length := by
    rcases Nat.eq_zero_or_pos xs.length with h | h
    · rw [h] at hl'; simp at hl'
    · exact h
  obtain ⟨b, off, rfl, hb, hcell⟩ := h4 h0
  exact ⟨b, off, hρ, hb, hcell⟩
theorem Hp.rowsIn {α : Type} {R : RowS α} {w : World} {ρ : Rho} {L : List Ob} {nx : Nat} {W : World} (h : Hp w ρ L nx W) {n c size : Nat} {own : Bool} {ty : TypeId} {cap : Nat} {xs : List α} (hf : fnd L n = some ⟨n, own, ty, size, cap, .rows α R xs⟩) (hR : 0 < R.cols.length) (hc : xs.length ≤ c) (hm : c ≤ 9223372036854775807) (sz : Nat) :
    RowsIn R W (den ρ (.s n sz xs.length c)) xs := by
  obtain ⟨_, l1, l2, hL, _⟩ := fnd_split hf
  have hok := h.obj _ (show (⟨n, own, ty, size, cap, .rows α R xs⟩ : Ob) ∈ L by rw [hL]; simp)
  refine ⟨ρ n, c, by simp [den], hc, by simpa [maxLen] using hm, rowC_len R xs, fun h0 => ?_⟩
  have hpos : 0 < (rowC R xs).length := by rw [rowC_len]; exact Nat.mul_pos h0 hR
  obtain ⟨b, off, h1, h2⟩ := hok.cell (j := 0) (u := (rowC R xs)[0]) (List.getElem?_eq_getElem hpos)
  refine ⟨b, off, h1, World.block_lt_of_cell? W _ h2, fun j u hu => ?_⟩
  obtain ⟨b', off', h1', h2'⟩ := hok.cell (j := j) (u := u) hu
  simp only at h1 h1'
  rw [h1] at h1'
  injection h1' with h1'
  injection h1' with e1 e2
  subst e1; subst e2
  exact h2'
theorem ints_rows {w : World} {v : Value} {zs : List Int} (h : RowsIn rI w v zs) (hz : ∀ z ∈ zs, I64 z) : Ints w v zs := by
  refine ⟨?_, hz⟩
  have : rowC rI zs = zs.map (Value.int .i64) := cells_ints (fun _ => none) zs
  rw [← this]
  exact h
theorem rows_ints {w : World} {v : Value} {zs : List Int} (h : Ints w v zs) : RowsIn rI w v zs := by
  have : rowC rI zs = zs.map (Value.int .i64) := cells_ints (fun _ => none) zs
  unfold RowsIn
  rw [this]
  exact h.1

/-- An object is taken out. -/
def rmL : List Ob → Nat → List Ob
  | [], _ => []
  | o :: r, n => bif Nat.beq o.n n then r else o :: rmL r n
theorem rmL_split {n : Nat} {o : Ob} : ∀ {L : List Ob}, fnd L n = some o → ∃ l1 l2, L = l1 ++ o :: l2 ∧ rmL L n = l1 ++ l2
  | [], h => by cases h
  | x :: r, h => by
    simp only [fnd] at h
    cases hb : Nat.beq x.n n with
    | true =>
      rw [hb] at h
      simp at h
      subst h
      exact ⟨[], r, rfl, by simp [rmL, hb]⟩
    | false =>
      rw [hb] at h
      obtain ⟨l1, l2, h2, h3⟩ := rmL_split (L := r) h
      exact ⟨x :: l1, l2, by simp [h2], by simp [rmL, hb, h3]⟩
/-- Blocks outside row stay; all objects but n stay. -/
theorem Hp.grown {w : World} {ρ : Rho} {L : List Ob} {nx : Nat} {W W' : World} (h : Hp w ρ L nx W) {n : Nat} {o : Ob} (ho : fnd L n = some o) (hown : o.own = true) {v : Value} (hv : v.ownBlock = (ρ n).map (·.block)) (hg : W.grownBy W' v.ownBlock) : Hp w ρ (rmL L n) nx W' := by
  obtain ⟨l1, l2, hL, hR⟩ := rmL_split ho
  obtain ⟨hn, _⟩ := fnd_split ho
  have hmem : o ∈ L := by rw [hL]; simp
  have hdis := h.dis
  rw [hL] at hdis
  have hd1 := List.pairwise_append.1 hdis
  have hd2 := List.pairwise_cons.1 hd1.2.1
  have hrow : ∀ k, v.ownBlock = some k → w.heap.size ≤ k := by
    intro k hk
    have hok := h.obj o hmem
    unfold ObOk at hok
    rw [if_pos hown] at hok
    rcases hok with ⟨hx, _⟩ | ⟨g, _, hx, hB, _⟩
    · rw [hv, ← hn, hx] at hk; cases hk
    · rw [hv, ← hn, hx] at hk
      simp at hk
      omega
  have hbel : Below w.heap.size w W' := by
    refine ⟨hg.os.trans h.bel.os, hg.tape.trans h.bel.tape, hg.output.trans h.bel.output, Nat.le_trans h.bel.size hg.size, fun k hk => ?_⟩
    rw [hg.block k (Nat.lt_of_lt_of_le hk h.bel.size) (fun e => by have := hrow k e.symm; omega)]
    exact h.bel.block k hk
  rw [hR]
  refine ⟨hbel, ?_, ?_, fun o' ho' => h.lt o' (by rw [hL]; rcases List.mem_append.1 ho' with h' | h' <;> simp [h'])⟩
  · intro o' ho'
    have hm' : o' ∈ L := by rw [hL]; rcases List.mem_append.1 ho' with h' | h' <;> simp [h']
    have hok := h.obj o' hm'
    unfold ObOk at *
    split
    · rename_i hw'
      rw [if_pos hw'] at hok
      rcases hok with hok | ⟨g, junk, e1, e2, e3, e4, e5⟩
      · exact .inl hok
      · refine .inr ⟨g, junk, e1, e2, e3, e4, ?_⟩
        unfold Blk at *
        rw [hg.block g (Array.getElem?_eq_some_iff.1 e5).1 (fun e => ?_)]
        · exact e5
        · rw [hv] at e
          cases hr : ρ n with
          | none => rw [hr] at e; cases e
          | some A =>
            have hok2 := h.obj o hmem
            unfold ObOk at hok2
            rw [if_pos hown] at hok2
            rcases hok2 with ⟨hx, _⟩ | ⟨g2, _, hx, _⟩
            · rw [hn, hr] at hx; cases hx
            · rw [hn] at hx
              rw [hx] at e
              simp at e
              subst e
              rcases List.mem_append.1 ho' with h' | h'
              · exact hd1.2.2 o' h' o (by simp) hw' hown (by rw [e1]; simp) (by rw [e1, hn, hx])
              · exact hd2.1 o' h' hown hw' (by rw [hn, hx]; simp) (by rw [e1, hn, hx])
    · rename_i hw'
      rw [if_neg hw'] at hok
      intro hl
      obtain ⟨b, off, e1, e2, e3⟩ := hok hl
      refine ⟨b, off, e1, e2, fun j u hu => ?_⟩
      have hb : b < W.heap.size := Nat.lt_of_lt_of_le e2 h.bel.size
      rw [World.cell?_of_block (w := W) (a := ⟨b, off + j, none⟩) (hg.block b hb (fun e => by have := hrow b e.symm; omega))]
      exact e3 j u hu
  · refine List.pairwise_append.2 ⟨hd1.1, hd2.2, fun a ha b hb => hd1.2.2 a ha b (by simp [hb])⟩
end Go.Proofs.Ytofekfpbljihiaa
