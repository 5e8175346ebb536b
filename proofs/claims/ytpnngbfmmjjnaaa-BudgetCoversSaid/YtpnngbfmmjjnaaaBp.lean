
/- BudgetCovers, no program in sight: what a step gives; growths add up. -/
import Derived.Test.YtpnngbfmmjjnaaaLr
namespace Go.Proofs.Ytpnngbfmmjjnaaa
open Go.RowKit
set_option linter.unusedVariables false
set_option linter.unusedSimpArgs false

/-- What a step gives (Retain at any tick). -/
theorem bst_spec {k : Nat} {d : Dc} {l : List Cl} {n : Int} (hk : k < 4) (h : (newR d l).2 = 0) (hl : l.length ≤ 4000) (hn : (k = 1 ∧ 0 ≤ n) ∨ (k = 3 ∧ 0 ≤ n ∧ n ≤ 1048576) ∨ (1 ≤ n ∧ n ≤ 16)) :
    ∃ cost E, stpR k d l n = (sortC (rawL k d l n), cost, 0) ∧ newR d (sortC (rawL k d l n)) = (E, 0) ∧ growthR (newR d l).1 E = (cost, 0) ∧ 0 ≤ cost := by
  rcases hn with hn | ⟨rfl, h0, h1⟩ | hn
  · obtain ⟨c, E, a1, a2, _, a4, a5, _⟩ := stp_spec hk h hl (.inl hn)
    exact ⟨c, E, a1, a2, a4, a5⟩
  · have hw := ret_weak (b := n) h hl
    obtain ⟨a1, a2, a3, a4, a5⟩ := hw.new h
    refine ⟨_, (newR d (keptL (newR d l).1 l n)).1, ?_, a2.trans (Prod.ext rfl a1), a5, a4⟩
    show retR d l n = _
    unfold retR
    rw [if_neg (by rw [h]; simp), if_neg (by omega)]
    exact a3
  · obtain ⟨c, E, a1, a2, _, a4, a5, _⟩ := stp_spec hk h hl (.inr hn)
    exact ⟨c, E, a1, a2, a4, a5⟩
theorem mxM_add (f g : Nat → Int) : ∀ n, mxM (fun i => f i + g i) n ≤ mxM f n + mxM g n
  | 0 => Int.le_refl _
  | i + 1 => by
    have := mxM_add f g i
    simp only [mxM]
    omega
theorem mxM_zero : ∀ n, mxM (fun _ => 0) n = 0
  | 0 => rfl
  | i + 1 => by simp only [mxM, mxM_zero i]; rfl
theorem gr_tri (a b c : Env12) (n : Nat) : mxM (gW a c) n ≤ mxM (gW a b) n + mxM (gW b c) n := by
  have e : gW a c = fun i => gW a b i + gW b c i := by
    funext i
    unfold gW
    omega
  rw [e]
  exact mxM_add _ _ n
theorem gr_self (a : Env12) (n : Nat) : mxM (gW a a) n = 0 := by
  have e : gW a a = fun _ => 0 := by
    funext i
    unfold gW
    omega
  rw [e]
  exact mxM_zero n
/-- What holds at the head of the law's loop. -/
structure Cov (d : Dc) (l0 l : List Cl) (sp : Int) : Prop where
  ok : (newR d l).2 = 0
  gr : mxM (gW (newR d l0).1 (newR d l).1) (spanN d) ≤ sp
  nn : 0 ≤ sp
  le : sp ≤ 30
theorem Cov.start {d : Dc} {l : List Cl} (h : (newR d l).2 = 0) : Cov d l l 0 := ⟨h, by rw [gr_self]; exact Int.le_refl _, Int.le_refl _, by decide⟩
theorem Cov.step {d : Dc} {l0 l l2 : List Cl} {sp cost : Int} {E : Env12} (h : Cov d l0 l sp) (h2 : newR d l2 = (E, 0)) (hg : growthR (newR d l).1 E = (cost, 0)) (h0 : 0 ≤ cost) (hc : cost ≤ 30 - sp) : Cov d l0 l2 (sp + cost) := by
  have hE : (newR d l2).1 = E := by rw [h2]
  have hz : (newR d l2).2 = 0 := by rw [h2]
  have hk := growth_ok h.ok hz
  rw [hE, hg] at hk
  have hk1 : cost = mxM (gW (newR d l).1 E) (spanN d) := congrArg Prod.fst hk
  have ht := gr_tri (newR d l0).1 (newR d l).1 E (spanN d)
  have := h.gr
  have := h.nn
  exact ⟨hz, by rw [hE]; omega, by omega, by omega⟩
theorem Cov.fin {d : Dc} {l0 l : List Cl} {sp : Int} (h : Cov d l0 l sp) (h0 : (newR d l0).2 = 0) : (growthR (newR d l0).1 (newR d l).1).2 = 0 ∧ (growthR (newR d l0).1 (newR d l).1).1 ≤ sp := by
  rw [growth_ok h0 h.ok]
  exact ⟨rfl, h.gr⟩
theorem raw_len {k : Nat} {d : Dc} {l : List Cl} {n : Int} {m : Nat} (hk : k < 4) (h : (newR d l).2 = 0) (hsp : spanN d ≤ m) (hl : l.length ≤ m) : (sortC (rawL k d l n)).length ≤ m + 1 := by
  rw [sortC_len]
  match k, hk with
  | 0, _ => simp only [rawL, List.length_map]; omega
  | 1, _ => have := (thn_mem (most := n) h).2.1; simp only [rawL]; omega
  | 2, _ =>
    have h1 := (newR_facts h).2.2.1
    have h2 := (rolL_len (newR d l).1.f n (newR d l).1.lo (newR d l).1.hi (newR d l).1.lo.length).1
    simp only [rawL]
    omega
  | 3, _ => have := keptL_len (newR d l).1 l n; simp only [rawL]; omega
end Go.Proofs.Ytpnngbfmmjjnaaa
