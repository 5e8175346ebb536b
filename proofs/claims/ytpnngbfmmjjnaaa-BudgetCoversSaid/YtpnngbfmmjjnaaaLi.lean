
/- Sorting any list of at most 1000 claims, walked. -/
import Derived.Test.YtpnngbfmmjjnaaaSr
namespace Go.Proofs.Ytpnngbfmmjjnaaa
open Go.RowKit
set_option linter.unusedVariables false
set_option linter.unusedSimpArgs false

/-- No claim stands before one that sorts ahead of it. -/
def SrtC (l : List Cl) : Prop := ∀ i j, i ≤ j → j < l.length → ¬ cmpC (l.getD j cl0) (l.getD i cl0) < 0
theorem insC_last (x : Cl) : ∀ s : List Cl, (∀ y ∈ s, cmpC y x ≤ 0) → insC s x = s ++ [x]
  | [], _ => rfl
  | y :: r, h => by
    unfold insC
    rw [if_pos (h y (List.mem_cons_self ..)), insC_last x r (fun z hz => h z (List.mem_cons_of_mem _ hz))]
    rfl
theorem sortC_take {l : List Cl} (hs : SrtC l) : ∀ n, n ≤ l.length → sortC (l.take n) = l.take n
  | 0, _ => by simp [sortC]
  | n + 1, h => by
    have e : l.take (n + 1) = l.take n ++ [l.getD n cl0] := by
      rw [List.take_add_one]
      simp [List.getD_eq_getElem?_getD, show n < l.length by omega]
    rw [e, sortC_snoc, sortC_take hs n (by omega), insC_last]
    intro y hy
    obtain ⟨i, hi, rfl⟩ := List.mem_iff_getElem.1 hy
    have hi2 : i < n := by simp at hi; omega
    have h1 := hs i n (by omega) (by omega)
    have e2 : (l.take n)[i] = l.getD i cl0 := by
      simp [List.getD_eq_getElem?_getD, show i < l.length by omega]
    rw [e2]
    rw [cmpC_lt] at h1
    exact Classical.not_not.1 h1
theorem sortC_srt {l : List Cl} (hs : SrtC l) : sortC l = l := by
  have := sortC_take hs l.length (Nat.le_refl _)
  rwa [List.take_length] at this
/-- A list that claims.Sort is walked for: short, or sorted already. -/
def SortOk (l : List Cl) : Prop := l.length ≤ 1000 ∨ l.length < 102 ∧ SrtC l
theorem sortOk_len {l : List Cl} (h : SortOk l) : l.length < 1001 := by rcases h with h | h; omega; have := h.1; omega
theorem sortk_s (v : Value) (l : List Cl) (w : World) (hv : RowsIn rC w v l) (h : SortOk l) : Con Try.prog 52 #[v] w (RetRows rC 62 w (sortC l)) := by
  by_cases h12 : l.length ≤ 12
  · exact sort_s v l w hv h12
  · have := sortOk_len h
    exact sorta_s v l w hv (by omega) (by omega)
end Go.Proofs.Ytpnngbfmmjjnaaa
