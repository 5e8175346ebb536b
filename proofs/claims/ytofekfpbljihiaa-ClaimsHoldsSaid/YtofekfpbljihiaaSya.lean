/- The symbolic machine: stores. No program in sight. -/
import Derived.Test.YtofekfpbljihiaaSy9
namespace Go.Proofs.Ytofekfpbljihiaa
open Go.RowKit
set_option linter.unusedVariables false
set_option linter.unusedSimpArgs false
set_option linter.unnecessarySimpa false

theorem splice_left {α : Type} (l r : List α) (off : Nat) (c : List α) (h : off + c.length ≤ l.length) : splice (l ++ r) off c = splice l off c ++ r := by
  simp only [splice]
  rw [List.take_append_of_le_length (by omega), List.drop_append_of_le_length (by omega)]
  simp
theorem splice_right {α : Type} (l r : List α) (off : Nat) (c : List α) : splice (l ++ r) (l.length + off) c = l ++ splice r off c := by
  simp only [splice]
  rw [List.take_append, List.take_of_length_le (by omega), Nat.add_sub_cancel_left, List.drop_append, List.drop_eq_nil_of_le (by omega)]
  have : l.length + off + c.length - l.length = off + c.length := by omega
  rw [this]
  simp
theorem flat_set {α : Type} (row : α → List Value) (m : Nat) (hm : ∀ x, (row x).length = m) (d x' : α) : ∀ (xs : List α) (i j : Nat) (c : List Value), i < xs.length → j + c.length ≤ m → row x' = splice (row (xs.getD i d)) j c →
    (xs.set i x').flatMap row = splice (xs.flatMap row) (i * m + j) c
  | [], i, j, c, h, _, _ => by simp at h
  | x :: r, 0, j, c, h, hj, hr => by
    simp only [List.set_cons_zero, List.flatMap_cons, Nat.zero_mul, Nat.zero_add]
    rw [splice_left _ _ _ _ (by rw [hm]; exact hj), hr]
    simp
  | x :: r, i + 1, j, c, h, hj, hr => by
    have ih := flat_set row m hm d x' r i j c (by simpa using h) hj (by simpa using hr)
    have e : (i + 1) * m + j = (row x).length + (i * m + j) := by rw [hm, Nat.succ_mul]; omega
    simp only [List.set_cons_succ, List.flatMap_cons]
    rw [e, splice_right, ih]

theorem stC_sound {c : Ct} {addr : SV} {cells : List SV} {k : Option Prop → Ct → Prop} (h : stC c addr cells k) :
    ∃ φ c', k φ c' ∧ (∀ nx, c.lt nx = true → ltL nx cells = true → c'.lt nx = true) ∧
      ∀ ρ : Rho, optP φ → offOf addr + cells.length ≤ (c.cells ρ).length ∧ c'.cells ρ = splice (c.cells ρ) (offOf addr) (denL ρ cells) := by
  have csCase : ∀ (l : List SV) (off : Nat), offOf addr = off → spliceK l off cells (fun l' => k none (.cs l')) →
     ∃ φ c', k φ c' ∧ (∀ nx, (Ct.cs l).lt nx = true → ltL nx cells = true → c'.lt nx = true) ∧
      ∀ ρ : Rho, optP φ → offOf addr + cells.length ≤ ((Ct.cs l).cells ρ).length ∧ c'.cells ρ = splice ((Ct.cs l).cells ρ) (offOf addr) (denL ρ cells) := by
    intro l off ho h
    obtain ⟨h1, h2⟩ := spliceK_sound h
    refine ⟨_, _, h2, fun nx h3 h4 => ltL_splice h3 h4, fun ρ _ => ?_⟩
    rw [ho]
    simp only [Ct.cells]
    exact ⟨by simpa [denL_map] using h1, denL_splice ρ l off cells⟩
  unfold stC at h
  split at h
  · exact csCase _ _ rfl h
  · exact csCase _ _ rfl h
  · rename_i α R xs n size i j
    cases hb : Nat.beq R.cols.length size with
    | false => rw [hb] at h; exact h.elim
    | true =>
      rw [hb] at h
      have hs := Nat.eq_of_beq_eq_true hb
      subst hs
      have h1 := rowK_sound h
      obtain ⟨h2, h3⟩ := spliceK_sound h1
      obtain ⟨vs, h4, h5⟩ := plainK_sound h3
      obtain ⟨x', h6, h7⟩ := ofK_sound h5
      refine ⟨_, _, h7, fun _ _ _ => rfl, fun ρ hφ => ?_⟩
      have hrow : ∀ x : α, (R.cols.map (fun f => f x)).length = R.cols.length := by simp
      have e1 := congrArg (denL ρ) h4
      rw [denL_splice, denL_vs, denL_v] at e1
      have e2 := R.law vs x' h6
      simp only [List.length_map] at h2
      have hcl : (denL ρ cells).length = cells.length := by simp [denL_map]
      refine ⟨?_, ?_⟩
      · simp only [offOf, Ct.cells]
        have := (flat_cut R.cols R.d xs i j cells.length hφ h2).1
        omega
      · simp only [offOf, Ct.cells]
        exact flat_set _ R.cols.length hrow R.d x' xs i j _ hφ (by rw [hcl]; exact h2) (by rw [e2, ← e1])
  · exact h.elim

def fnd : List Ob → Nat → Option Ob
  | [], _ => none
  | o :: r, n => bif Nat.beq o.n n then some o else fnd r n
def updL : List Ob → Nat → Ct → List Ob
  | [], _, _ => []
  | o :: r, n, c => bif Nat.beq o.n n then ⟨o.n, o.own, o.ty, o.size, o.cap, c⟩ :: r else o :: updL r n c
theorem obK_fnd {n : Nat} {k : Ob → Prop} : ∀ {L : List Ob}, obK L n k → ∃ o, fnd L n = some o ∧ k o
  | [], h => h.elim
  | o :: r, h => by
    simp only [obK, fnd] at *
    cases hb : Nat.beq o.n n with
    | true => rw [hb] at h; exact ⟨o, rfl, h⟩
    | false => rw [hb] at h; exact obK_fnd h
theorem updK_sound {n : Nat} {c : Ct} : ∀ {L : List Ob} {k : List Ob → Prop}, updK L n c k → k (updL L n c)
  | [], _, h => h.elim
  | o :: r, k, h => by
    simp only [updK, updL] at *
    cases hb : Nat.beq o.n n with
    | true => rw [hb] at h; exact h
    | false => rw [hb] at h; exact updK_sound h
theorem fnd_split {n : Nat} {o : Ob} : ∀ {L : List Ob}, fnd L n = some o → o.n = n ∧ ∃ l1 l2, L = l1 ++ o :: l2 ∧ ∀ c, updL L n c = l1 ++ ⟨o.n, o.own, o.ty, o.size, o.cap, c⟩ :: l2
  | [], h => by cases h
  | x :: r, h => by
    simp only [fnd] at h
    cases hb : Nat.beq x.n n with
    | true =>
      rw [hb] at h
      simp at h
      subst h
      exact ⟨Nat.eq_of_beq_eq_true hb, [], r, rfl, fun c => by simp [updL, hb]⟩
    | false =>
      rw [hb] at h
      obtain ⟨h1, l1, l2, h2, h3⟩ := fnd_split (L := r) h
      exact ⟨h1, x :: l1, l2, by simp [h2], fun c => by simp [updL, hb, h3 c]⟩

theorem setRow_below {w W : World} {g : Nat} {cs : Array Value} (h : Below w.heap.size w W) (hg : w.heap.size ≤ g) : Below w.heap.size w (W.setRow g cs) :=
  ⟨h.os, h.tape, h.output, by simpa [World.setRow] using h.size, fun k hk => by
    have : (W.setRow g cs).heap[k]? = W.heap[k]? := by
      simp only [World.setRow, Array.getElem?_modify]
      rw [if_neg (by omega)]
    rw [this]
    exact h.block k hk⟩
theorem setRow_other {W : World} {g k : Nat} {cs : Array Value} (hk : g ≠ k) : (W.setRow g cs).heap[k]? = W.heap[k]? := by
  simp only [World.setRow, Array.getElem?_modify]
  rw [if_neg hk]
theorem ObOk.setRow {B : Nat} {ρ : Rho} {o : Ob} {W : World} {g : Nat} {cs : Array Value} (h : ObOk B ρ o W) (hg : B ≤ g) (hne : o.own = true → ∀ A, ρ o.n = some A → A.block ≠ g) : ObOk B ρ o (W.setRow g cs) := by
  unfold ObOk at *
  split
  · rename_i ho
    rw [if_pos ho] at h
    rcases h with h | ⟨g', junk, h1, h2, h3, h4, h5⟩
    · exact .inl h
    · refine .inr ⟨g', junk, h1, h2, h3, h4, ?_⟩
      unfold Blk at *
      rw [setRow_other (Ne.symm (hne ho _ h1))]
      exact h5
  · rename_i ho
    rw [if_neg ho] at h
    intro hl
    obtain ⟨b, off, h1, h2, h3⟩ := h hl
    refine ⟨b, off, h1, h2, fun j u hu => ?_⟩
    rw [World.cell?_of_block (w := W) (setRow_other (by simp; omega))]
    exact h3 j u hu
/-- A store into an owned object. -/
theorem Hp.store {w : World} {ρ : Rho} {L : List Ob} {nx : Nat} {W : World} (h : Hp w ρ L nx W) {n : Nat} {o : Ob} (ho : fnd L n = some o) (hown : o.own = true) {c' : Ct} (hc' : c'.lt nx = true) {off : Nat} {vs : List Value}
    (hv : 0 < vs.length) (hoff : off + vs.length ≤ (o.c.cells ρ).length) (hcells : c'.cells ρ = splice (o.c.cells ρ) off vs) (h1 : ∀ v ∈ vs, v.oneCell' = true) (P : Program) :
    ∃ W', (storeCells (((ρ n).getD default).add off) vs).run P W = .ok () W' ∧ Hp w ρ (updL L n c') nx W' := by
  obtain ⟨hn, l1, l2, hL, hU⟩ := fnd_split ho
  have hmem : o ∈ L := by rw [hL]; simp
  have hok := h.obj o hmem
  unfold ObOk at hok
  rw [if_pos hown] at hok
  rcases hok with ⟨_, hnil, _⟩ | ⟨g, junk, hg, hB, hlen, hcap, hblk⟩
  · rw [hnil] at hoff
    simp only [List.length_nil] at hoff
    omega
  · have hst := run_storeCells_at P g off o.ty vs 0 (o.c.cells ρ ++ junk).toArray W hblk (by simp; omega) h1
    have hnew : ((o.c.cells ρ ++ junk).toArray.toList.take (off + 0) ++ vs ++ (o.c.cells ρ ++ junk).toArray.toList.drop (off + 0 + vs.length)) = c'.cells ρ ++ junk := by
      rw [hcells]
      have := splice_left (o.c.cells ρ) junk off vs hoff
      simpa [splice] using this
    rw [hnew] at hst
    refine ⟨_, by rw [← hn, hg]; simpa only [Option.getD_some, add_none, Nat.zero_add] using hst, ?_⟩
    rw [hU]
    have hdis := h.dis
    rw [hL] at hdis
    have hd1 := List.pairwise_append.1 hdis
    have hd2 := List.pairwise_cons.1 hd1.2.1
    have hfar : ∀ o', o' ∈ l1 ∨ o' ∈ l2 → o'.own = true → ∀ A, ρ o'.n = some A → A.block ≠ g := by
      intro o' ho' hw' A hA he
      have hobj := h.obj o' (by rw [hL]; rcases ho' with h | h <;> simp [h])
      unfold ObOk at hobj
      rw [if_pos hw'] at hobj
      rcases hobj with ⟨hx, _⟩ | ⟨g', _, hx, _⟩
      · rw [hx] at hA; cases hA
      · rw [hx] at hA
        cases hA
        simp at he
        subst he
        rcases ho' with h' | h'
        · exact hd1.2.2 o' h' o (by simp) hw' hown (by rw [hx]; simp) (by rw [hx, hg])
        · exact hd2.1 o' h' hown hw' (by rw [hg]; simp) (by rw [hx, hg])
    refine ⟨setRow_below h.bel hB, ?_, ?_, ?_⟩
    · intro o' ho'
      simp only [List.mem_append, List.mem_cons] at ho'
      rcases ho' with h' | rfl | h'
      · exact (h.obj o' (by rw [hL]; simp [h'])).setRow hB (hfar o' (.inl h'))
      · unfold ObOk
        simp only [hown, if_true]
        refine .inr ⟨g, junk, hg, hB, ?_, hcap, setRow_heap W g _ _ _ _ hblk⟩
        rw [hcells, splice_len _ _ _ hoff]
        exact hlen
      · exact (h.obj o' (by rw [hL]; simp [h'])).setRow hB (hfar o' (.inr h'))
    · refine List.pairwise_append.2 ⟨hd1.1, List.pairwise_cons.2 ⟨fun o' h' => hd2.1 o' h', hd2.2⟩, ?_⟩
      intro a ha b hb
      rcases List.mem_cons.1 hb with rfl | hb
      · exact hd1.2.2 a ha o (by simp)
      · exact hd1.2.2 a ha b (by simp [hb])
    · intro o' ho'
      simp only [List.mem_append, List.mem_cons] at ho'
      rcases ho' with h' | rfl | h'
      · exact h.lt o' (by rw [hL]; simp [h'])
      · exact ⟨(h.lt o hmem).1, hc'⟩
      · exact h.lt o' (by rw [hL]; simp [h'])
theorem storeK_sound {L : List Ob} {addr : SV} {cells : List SV} {k : Option Prop → List Ob → Prop} (h : storeK L addr cells k) :
    ∃ φ L', k φ L' ∧ ∀ (P : Program) w ρ nx W, Hp w ρ L nx W → ltL nx cells = true → optP φ → ∃ A W', den ρ addr = .pointer (some A) ∧ (storeCells A (denL ρ cells)).run P W = .ok () W' ∧ Hp w ρ L' nx W' := by
  unfold storeK at h
  split at h
  · rename_i n hn
    obtain ⟨o, ho, h1⟩ := obK_fnd h
    cases hb : (o.own && (cells.all scal && Nat.blt 0 cells.length)) with
    | false => rw [hb] at h1; exact h1.elim
    | true =>
      rw [hb] at h1
      simp only [cond_true] at h1
      simp only [Bool.and_eq_true, blt_iff, List.all_eq_true] at hb
      obtain ⟨φ, c', h2, h3, h4⟩ := stC_sound h1
      have h5 := updK_sound h2
      refine ⟨φ, _, h5, fun P w ρ nx W hp hlt hφ => ?_⟩
      obtain ⟨h6, h7⟩ := h4 ρ hφ
      have hcl : (denL ρ cells).length = cells.length := by simp [denL_map]
      obtain ⟨hnn, l1, l2, hL, _⟩ := fnd_split ho
      obtain ⟨W', h8, h9⟩ := hp.store ho hb.1 (h3 nx (hp.lt o (by rw [hL]; simp)).2 hlt) (off := offOf addr) (vs := denL ρ cells) (by omega) (by omega) h7 (by
        intro v hv
        rw [denL_map] at hv
        obtain ⟨x, hx, rfl⟩ := List.mem_map.1 hv
        exact scal_one (hb.2.1 x hx) ρ) P
      exact ⟨_, W', den_addr hn, h8, h9⟩
  · exact h.elim
end Go.Proofs.Ytofekfpbljihiaa
