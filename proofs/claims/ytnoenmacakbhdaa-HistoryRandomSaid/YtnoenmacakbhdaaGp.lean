
/- Histories: plain laws of Through, Steep, Random, Join, Meet. No program in sight. -/
import Derived.Test.YtnoenmacakbhdaaFp
import Derived.Test.YtnoenmacakbhdaaFc
import Derived.Test.YtnoenmacakbhdaaEn
namespace Go.Proofs.Ytnoenmacakbhdaa
open Go.RowKit
set_option linter.unusedVariables false
set_option linter.unusedSimpArgs false

theorem getD_out {vs : List Int} {i : Nat} (h : vs.length ≤ i) : vs.getD i 0 = 0 := by rw [List.getD_eq_getElem?_getD, List.getElem?_eq_none h]; rfl
theorem hist_mid {d : Dc} {l : List Cl} {lo hi vs : List Int} (h1 : HistP d l lo) (h2 : HistP d l hi) (hn : vs.length = lo.length) (hb : ∀ i, i < vs.length → lo.getD i 0 ≤ vs.getD i 0 ∧ vs.getD i 0 ≤ hi.getD i 0)
    (hs : ∀ i, i + 1 < vs.length → d.down ≤ vs.getD (i + 1) 0 - vs.getD i 0 ∧ vs.getD (i + 1) 0 - vs.getD i 0 ≤ d.up) : HistP d l vs := by
  have l1 := h1.1
  have l2 := h2.1
  refine ⟨by rw [hn]; exact h1.1, fun i hi => ⟨?_, fun h0 => ?_⟩, fun c hc => ?_⟩
  · have a := (h1.2.1 i (by omega)).1
    have b := (h2.2.1 i (by omega)).1
    have := hb i hi
    omega
  · obtain ⟨j, rfl⟩ : ∃ j, i = j + 1 := ⟨i - 1, by omega⟩
    exact hs j hi
  · have a := h1.2.2 c hc
    have b := h2.2.2 c hc
    refine ⟨a.1, by rw [hn]; exact a.2.1, fun i h3 h4 => ?_⟩
    have p := a.2.2 i h3 h4
    have q := b.2.2 i h3 h4
    by_cases hi : i < vs.length
    · have := hb i hi
      omega
    · rw [getD_out (by omega)] at p ⊢
      exact p
theorem hist_ok {d : Dc} {l : List Cl} {es : List Int} {n : Nat} (hv : validCode d = 0) (hl : ∀ c ∈ l, validB d c = true) (he : HistP d l es) (hn : (n : Int) = d.last - d.first + 1) : ∀ i : Nat, i < n → rLo d l (d.first + i) ≤ rHi d l (d.first + i) := fun i hi => by
  have := he.1
  have := hist_in hv hl he (i := i) (by omega)
  omega
def capL (d : Dc) (es : List Int) (t v : Int) : List Int := (List.range es.length).map fun i : Nat => min (es.getD i 0) (highV d t (d.first + i) v)
theorem capL_len (d : Dc) (es : List Int) (t v : Int) : (capL d es t v).length = es.length := by simp [capL]
theorem map_get (f : Nat → Int) (n i : Nat) (h : i < n) : ((List.range n).map f).getD i 0 = f i := by simp [List.getD_eq_getElem?_getD, h]
theorem capL_get {d : Dc} {es : List Int} {t v : Int} {i : Nat} (h : i < es.length) : (capL d es t v).getD i 0 = min (es.getD i 0) (highV d t (d.first + i) v) := map_get _ _ _ h
theorem cap_hist {d : Dc} {l : List Cl} {es : List Int} {k : Nat} {v : Int} (hv : validCode d = 0) (hl : ∀ c ∈ l, validB d c = true) (he : HistP d l es) (hk : k < es.length) (h1 : rLo d l (d.first + k) ≤ v) (h2 : v ≤ es.getD k 0) :
    HistP d l (capL d es (d.first + k) v) ∧ (capL d es (d.first + k) v).getD k 0 = v := by
  have hb := valid_bounds hv
  have hn := he.1
  have hok := hist_ok hv hl he hn
  obtain ⟨hL, hH⟩ := rL_hist hv hl hn hok
  have q1 := (rL_get d l es.length k hk).1
  refine ⟨hist_mid hL he (by rw [capL_len, rLoL_len]) (fun i hi => ?_) (fun i hi => ?_), ?_⟩
  · rw [capL_len] at hi
    rw [capL_get hi]
    have a1 := hist_in hv hl he hi
    have a2 := (hist_low hL (s := k) (t := i) (by rw [rLoL_len]; exact hk) (by rw [rLoL_len]; exact hi)).2
    rw [highV_0] at a2
    rw [highV_add]
    have q2 := (rL_get d l es.length i hi).1
    omega
  · rw [capL_len] at hi
    rw [capL_get hi, capL_get (by omega)]
    have a1 := (he.2.1 (i + 1) hi).2 (by omega)
    have a2 := highV_step (d := d) (by omega) (d.first + k) (d.first + i) v
    rw [show i + 1 - 1 = i by omega] at a1
    rw [show d.first + ((i + 1 : Nat) : Int) = d.first + i + 1 by omega]
    omega
  · rw [capL_get hk, highV_self]
    omega
theorem high_neg (d : Dc) (s t : Int) : highV d t s 0 = - lowV d s t 0 := by
  unfold highV lowV
  by_cases h : s = t
  · subst h; simp
  · by_cases h1 : t ≤ s
    · rw [if_pos h1, if_neg (by omega)]; omega
    · rw [if_neg h1, if_pos (by omega)]; omega
/-- The bounds of the change, by indices. -/
theorem ch_eq {d : Dc} {l : List Cl} {n i k : Nat} (hi : i < n) (hk : k < n) :
    chLo d ⟨d.first, rLoL d l n, rHiL d l n⟩ (d.first + i) (d.first + k) = max (lowV d i k 0) (rLo d l (d.first + k) - rHi d l (d.first + i)) ∧
    chHi d ⟨d.first, rLoL d l n, rHiL d l n⟩ (d.first + i) (d.first + k) = min (highV d i k 0) (rHi d l (d.first + k) - rLo d l (d.first + i)) := by
  unfold chLo chHi
  simp only
  rw [show (d.first + (k : Int) - d.first).toNat = k by omega, show (d.first + (i : Int) - d.first).toNat = i by omega, (rL_get d l n k hk).1, (rL_get d l n k hk).2, (rL_get d l n i hi).1, (rL_get d l n i hi).2, lowV_add, highV_add]
  simp
theorem ch_facts {d : Dc} {l : List Cl} {n i k : Nat} (hv : validCode d = 0) (hl : ∀ c ∈ l, validB d c = true) (hn : (n : Int) = d.last - d.first + 1) (hok : ∀ i : Nat, i < n → rLo d l (d.first + i) ≤ rHi d l (d.first + i)) (hi : i < n) (hk : k < n) :
    (rLo d l (d.first + i) + lowV d i k 0 ≤ rLo d l (d.first + k) ∧ rLo d l (d.first + k) ≤ rLo d l (d.first + i) + highV d i k 0) ∧ (rHi d l (d.first + i) + lowV d i k 0 ≤ rHi d l (d.first + k) ∧ rHi d l (d.first + k) ≤ rHi d l (d.first + i) + highV d i k 0) := by
  obtain ⟨hL, hH⟩ := rL_hist hv hl hn hok
  have a1 := hist_low hL (s := i) (t := k) (by rw [rLoL_len]; exact hi) (by rw [rLoL_len]; exact hk)
  have a2 := hist_low hH (s := i) (t := k) (by rw [rHiL_len]; exact hi) (by rw [rHiL_len]; exact hk)
  rw [lowV_0, highV_0] at a1 a2
  rw [(rL_get d l n k hk).1, (rL_get d l n i hi).1] at a1
  rw [(rL_get d l n k hk).2, (rL_get d l n i hi).2] at a2
  exact ⟨a1, a2⟩
def stA (d : Dc) (l : List Cl) (i k : Nat) (m : Int) : Int := max (rLo d l (d.first + i)) (rLo d l (d.first + k) - m)
def stL (d : Dc) (l : List Cl) (n i k : Nat) (m : Int) : List Int := capL d (capL d (rHiL d l n) (d.first + i) (stA d l i k m)) (d.first + k) (stA d l i k m + m)
theorem steep_law {d : Dc} {l : List Cl} {n i k : Nat} {m : Int} (hv : validCode d = 0) (hl : ∀ c ∈ l, validB d c = true) (hn : (n : Int) = d.last - d.first + 1) (hok : ∀ i : Nat, i < n → rLo d l (d.first + i) ≤ rHi d l (d.first + i)) (hi : i < n) (hk : k < n)
    (hm : m = max (lowV d i k 0) (rLo d l (d.first + k) - rHi d l (d.first + i)) ∨ m = min (highV d i k 0) (rHi d l (d.first + k) - rLo d l (d.first + i))) :
    HistP d l (stL d l n i k m) ∧ (stL d l n i k m).getD k 0 - (stL d l n i k m).getD i 0 = m := by
  obtain ⟨hL, hH⟩ := rL_hist hv hl hn hok
  obtain ⟨⟨f1, f2⟩, f3, f4⟩ := ch_facts hv hl hn hok hi hk
  have o1 := hok i hi
  have o2 := hok k hk
  have m1 : lowV d i k 0 ≤ m ∧ m ≤ highV d i k 0 := by omega
  have m2 : rLo d l (d.first + k) - rHi d l (d.first + i) ≤ m ∧ m ≤ rHi d l (d.first + k) - rLo d l (d.first + i) := by omega
  have ha : rLo d l (d.first + i) ≤ stA d l i k m ∧ stA d l i k m ≤ rHi d l (d.first + i) ∧ rLo d l (d.first + k) ≤ stA d l i k m + m ∧ stA d l i k m + m ≤ rHi d l (d.first + k) := by unfold stA; omega
  unfold stL
  generalize stA d l i k m = a at ha ⊢
  obtain ⟨g1, g2⟩ := cap_hist (k := i) (v := a) hv hl hH (by rw [rHiL_len]; exact hi) ha.1 (by rw [(rL_get d l n i hi).2]; exact ha.2.1)
  have e1 : (capL d (rHiL d l n) (d.first + i) a).getD k 0 = min (rHi d l (d.first + k)) (a + highV d i k 0) := by
    rw [capL_get (by rw [rHiL_len]; exact hk), (rL_get d l n k hk).2, highV_add]
  have e0 : (capL d (rHiL d l n) (d.first + i) a).length = n := by rw [capL_len, rHiL_len]
  obtain ⟨g3, g4⟩ := cap_hist (k := k) (v := a + m) hv hl g1 (by rw [e0]; exact hk) ha.2.2.1 (by rw [e1]; omega)
  refine ⟨g3, ?_⟩
  rw [g4, capL_get (by rw [e0]; exact hi), g2, highV_add, high_neg]
  omega
theorem hist_change {d : Dc} {l : List Cl} {vs : List Int} {i k : Nat} (hv : validCode d = 0) (hl : ∀ c ∈ l, validB d c = true) (h : HistP d l vs) (hi : i < vs.length) (hk : k < vs.length) :
    max (lowV d i k 0) (rLo d l (d.first + k) - rHi d l (d.first + i)) ≤ vs.getD k 0 - vs.getD i 0 ∧ vs.getD k 0 - vs.getD i 0 ≤ min (highV d i k 0) (rHi d l (d.first + k) - rLo d l (d.first + i)) := by
  have a1 := hist_low h hi hk
  have a2 := hist_in hv hl h hi
  have a3 := hist_in hv hl h hk
  rw [lowV_0, highV_0] at a1
  omega
/-- Every history with this value lies below. -/
theorem hist_cap {d : Dc} {l : List Cl} {vs : List Int} {i k n : Nat} (hv : validCode d = 0) (hl : ∀ c ∈ l, validB d c = true) (h : HistP d l vs) (hn : n = vs.length) (hi : i < n) (hk : k < n) :
    vs.getD i 0 ≤ (capL d (rHiL d l n) (d.first + k) (vs.getD k 0)).getD i 0 := by
  have a1 := hist_low h (s := k) (t := i) (by omega) (by omega)
  have a2 := hist_in hv hl h (i := i) (by omega)
  rw [highV_0] at a1
  rw [capL_get (by rw [rHiL_len]; exact hi), (rL_get d l n i hi).2, highV_add]
  omega
/-! Random -/
def rndX (d : Dc) (lo : Nat → Int) (i : Nat) (p : Int) : Int := if i = 0 then lo i else max (lo i) (p + d.down)
def rndY (d : Dc) (hi : Nat → Int) (i : Nat) (p : Int) : Int := if i = 0 then hi i else min (hi i) (p + d.up)
def rndN (d : Dc) (lo hi g : Nat → Int) (i : Nat) (p : Int) : Int := rndX d lo i p + g i % (rndY d hi i p - rndX d lo i p + 1)
def rndV (d : Dc) (lo hi g : Nat → Int) : Nat → Int
  | 0 => rndN d lo hi g 0 0
  | i + 1 => rndN d lo hi g (i + 1) (rndV d lo hi g i)
def rndL (d : Dc) (lo hi g : Nat → Int) (n : Nat) : List Int := (List.range n).map (rndV d lo hi g)
theorem rndL_len (d : Dc) (lo hi g : Nat → Int) (n : Nat) : (rndL d lo hi g n).length = n := by simp [rndL]
theorem rndL_succ (d : Dc) (lo hi g : Nat → Int) (n : Nat) : rndL d lo hi g (n + 1) = rndL d lo hi g n ++ [rndV d lo hi g n] := by simp [rndL, List.range_succ]
def prevV (d : Dc) (lo hi g : Nat → Int) (i : Nat) : Int := if i = 0 then 0 else rndV d lo hi g (i - 1)
theorem rndV_prev (d : Dc) (lo hi g : Nat → Int) (i : Nat) : rndV d lo hi g i = rndN d lo hi g i (prevV d lo hi g i) := by
  cases i <;> simp [rndV, prevV]
theorem mod_in (g n : Int) (h : 0 ≤ n) : 0 ≤ g % (n + 1) ∧ g % (n + 1) ≤ n := by
  have := Int.emod_nonneg g (show n + 1 ≠ 0 by omega)
  have := Int.emod_lt_of_pos g (show 0 < n + 1 by omega)
  omega
theorem rnd_in {d : Dc} {lo hi g : Nat → Int} {n : Nat} (hd : d.down ≤ d.up) (hok : ∀ i, i < n → lo i ≤ hi i) (hl : ∀ i, i + 1 < n → lo i + d.down ≤ lo (i + 1) ∧ lo (i + 1) ≤ lo i + d.up) (hh : ∀ i, i + 1 < n → hi i + d.down ≤ hi (i + 1) ∧ hi (i + 1) ≤ hi i + d.up) :
    ∀ i, i < n → (rndX d lo i (prevV d lo hi g i) ≤ rndY d hi i (prevV d lo hi g i)) ∧ (lo i ≤ rndV d lo hi g i ∧ rndV d lo hi g i ≤ hi i) ∧ (0 < i → d.down ≤ rndV d lo hi g i - rndV d lo hi g (i - 1) ∧ rndV d lo hi g i - rndV d lo hi g (i - 1) ≤ d.up) := by
  intro i
  induction i with
  | zero =>
    intro h
    have := hok 0 h
    have m := mod_in (g 0) (hi 0 - lo 0) (by omega)
    refine ⟨by simp [rndX, rndY]; omega, ?_, fun h => absurd h (by omega)⟩
    simp only [rndV, rndN, rndX, rndY, if_true]
    omega
  | succ i ih =>
    intro h
    obtain ⟨_, ⟨a1, a2⟩, _⟩ := ih (by omega)
    have b1 := hl i h
    have b2 := hh i h
    have b3 := hok (i + 1) h
    have hx : rndX d lo (i + 1) (prevV d lo hi g (i + 1)) = max (lo (i + 1)) (rndV d lo hi g i + d.down) := by simp [rndX, prevV]
    have hy : rndY d hi (i + 1) (prevV d lo hi g (i + 1)) = min (hi (i + 1)) (rndV d lo hi g i + d.up) := by simp [rndY, prevV]
    have hxy : rndX d lo (i + 1) (prevV d lo hi g (i + 1)) ≤ rndY d hi (i + 1) (prevV d lo hi g (i + 1)) := by rw [hx, hy]; omega
    have m := mod_in (g (i + 1)) (rndY d hi (i + 1) (prevV d lo hi g (i + 1)) - rndX d lo (i + 1) (prevV d lo hi g (i + 1))) (by omega)
    have e : rndV d lo hi g (i + 1) = rndX d lo (i + 1) (prevV d lo hi g (i + 1)) + g (i + 1) % (rndY d hi (i + 1) (prevV d lo hi g (i + 1)) - rndX d lo (i + 1) (prevV d lo hi g (i + 1)) + 1) := rndV_prev d lo hi g (i + 1)
    refine ⟨hxy, ?_, fun _ => ?_⟩
    · rw [e]; omega
    · rw [show i + 1 - 1 = i by omega]
      omega
theorem rnd_hist {d : Dc} {l : List Cl} {n : Nat} (g : Nat → Int) (hv : validCode d = 0) (hl : ∀ c ∈ l, validB d c = true) (hn : (n : Int) = d.last - d.first + 1) (hok : ∀ i : Nat, i < n → rLo d l (d.first + i) ≤ rHi d l (d.first + i)) :
    HistP d l (rndL d (fun i => (rLoL d l n).getD i 0) (fun i => (rHiL d l n).getD i 0) g n) ∧ ∀ i, i < n → rndX d (fun i => (rLoL d l n).getD i 0) i (prevV d (fun i => (rLoL d l n).getD i 0) (fun i => (rHiL d l n).getD i 0) g i) ≤ rndY d (fun i => (rHiL d l n).getD i 0) i (prevV d (fun i => (rLoL d l n).getD i 0) (fun i => (rHiL d l n).getD i 0) g i) := by
  obtain ⟨hL, hH⟩ := rL_hist hv hl hn hok
  have hb := valid_bounds hv
  have key := rnd_in (d := d) (lo := fun i => (rLoL d l n).getD i 0) (hi := fun i => (rHiL d l n).getD i 0) (g := g) (n := n) (by omega) (fun i hi => by
    simp only [(rL_get d l n i hi).1, (rL_get d l n i hi).2]; exact hok i hi) (fun i hi => by
    have := (hL.2.1 (i + 1) (by rw [rLoL_len]; exact hi)).2 (by omega)
    rw [show i + 1 - 1 = i by omega] at this
    omega) (fun i hi => by
    have := (hH.2.1 (i + 1) (by rw [rHiL_len]; exact hi)).2 (by omega)
    rw [show i + 1 - 1 = i by omega] at this
    omega)
  refine ⟨hist_mid hL hH (by rw [rndL_len, rLoL_len]) (fun i hi => ?_) (fun i hi => ?_), fun i hi => (key i hi).1⟩
  · rw [rndL_len] at hi
    have e : (rndL d (fun i => (rLoL d l n).getD i 0) (fun i => (rHiL d l n).getD i 0) g n).getD i 0 = _ := map_get _ n i hi
    rw [e]
    exact (key i hi).2.1
  · rw [rndL_len] at hi
    have e : ∀ j, j < n → (rndL d (fun i => (rLoL d l n).getD i 0) (fun i => (rHiL d l n).getD i 0) g n).getD j 0 = rndV d (fun i => (rLoL d l n).getD i 0) (fun i => (rHiL d l n).getD i 0) g j := fun j hj => map_get _ n j hj
    rw [e _ hi, e i (by omega)]
    have := (key (i + 1) hi).2.2 (by omega)
    rw [show i + 1 - 1 = i by omega] at this
    exact this
/-! Join, Meet -/
def joinL (a b : List Int) : List Int := (List.range (min a.length b.length)).map fun i => max (a.getD i 0) (b.getD i 0)
def meetL (a b : List Int) : List Int := (List.range (min a.length b.length)).map fun i => min (a.getD i 0) (b.getD i 0)
theorem joinL_len (a b : List Int) : (joinL a b).length = min a.length b.length := by simp [joinL]
theorem meetL_len (a b : List Int) : (meetL a b).length = min a.length b.length := by simp [meetL]
theorem joinL_get {a b : List Int} {i : Nat} (h : i < min a.length b.length) : (joinL a b).getD i 0 = max (a.getD i 0) (b.getD i 0) := map_get _ _ _ h
theorem meetL_get {a b : List Int} {i : Nat} (h : i < min a.length b.length) : (meetL a b).getD i 0 = min (a.getD i 0) (b.getD i 0) := map_get _ _ _ h
theorem join_meet {d : Dc} {l : List Cl} {a b : List Int} (hv : validCode d = 0) (hl : ∀ c ∈ l, validB d c = true) (ha : HistP d l a) (hb : HistP d l b) : HistP d l (joinL a b) ∧ HistP d l (meetL a b) := by
  have l1 := ha.1
  have l2 := hb.1
  have hok := hist_ok hv hl ha l1
  obtain ⟨hL, hH⟩ := rL_hist hv hl l1 hok
  have hm : min a.length b.length = a.length := by omega
  have bd : ∀ i, i < a.length → ((rLoL d l a.length).getD i 0 ≤ a.getD i 0 ∧ a.getD i 0 ≤ (rHiL d l a.length).getD i 0) ∧ (rLoL d l a.length).getD i 0 ≤ b.getD i 0 ∧ b.getD i 0 ≤ (rHiL d l a.length).getD i 0 := by
    intro i hi
    rw [(rL_get d l a.length i hi).1, (rL_get d l a.length i hi).2]
    exact ⟨hist_in hv hl ha hi, hist_in hv hl hb (by omega)⟩
  have st : ∀ i, i + 1 < a.length → (d.down ≤ a.getD (i + 1) 0 - a.getD i 0 ∧ a.getD (i + 1) 0 - a.getD i 0 ≤ d.up) ∧ d.down ≤ b.getD (i + 1) 0 - b.getD i 0 ∧ b.getD (i + 1) 0 - b.getD i 0 ≤ d.up := by
    intro i hi
    have x := (ha.2.1 (i + 1) hi).2 (by omega)
    have y := (hb.2.1 (i + 1) (by omega)).2 (by omega)
    rw [show i + 1 - 1 = i by omega] at x y
    exact ⟨x, y⟩
  constructor
  · refine hist_mid hL hH (by rw [joinL_len, rLoL_len, hm]) (fun i hi => ?_) (fun i hi => ?_)
    · rw [joinL_len] at hi
      rw [joinL_get hi]
      have := bd i (by omega)
      omega
    · rw [joinL_len] at hi
      rw [joinL_get hi, joinL_get (by omega)]
      have := st i (by omega)
      omega
  · refine hist_mid hL hH (by rw [meetL_len, rLoL_len, hm]) (fun i hi => ?_) (fun i hi => ?_)
    · rw [meetL_len] at hi
      rw [meetL_get hi]
      have := bd i (by omega)
      omega
    · rw [meetL_len] at hi
      rw [meetL_get hi, meetL_get (by omega)]
      have := st i (by omega)
      omega
/-! More -/
theorem newR_same {d : Dc} {l : List Cl} {n k : Nat} (hv : validCode d = 0) (hl : ∀ c ∈ l, validB d c = true) (hll : l.length ≤ 4095) (hn : (n : Int) = d.last - d.first + 1) (hok : ∀ i : Nat, i < n → rLo d l (d.first + i) ≤ rHi d l (d.first + i)) (hk : k < n) :
    validB d ⟨d.first + k, d.first + k, rLo d l (d.first + k) - 1, rHi d l (d.first + k)⟩ = true ∧
    newR d (l ++ [⟨d.first + k, d.first + k, rLo d l (d.first + k) - 1, rHi d l (d.first + k)⟩]) = (⟨d.first, rLoL d l n, rHiL d l n⟩, 0) := by
  have hb := valid_bounds hv
  have hok0 := hok
  obtain ⟨hL, hH⟩ := rL_hist hv hl hn hok
  have b1 := (hL.2.1 k (by rw [rLoL_len]; exact hk)).1
  have b2 := (hH.2.1 k (by rw [rHiL_len]; exact hk)).1
  rw [(rL_get d l n k hk).1] at b1
  rw [(rL_get d l n k hk).2] at b2
  have b3 := hok k hk
  have hvb : validB d ⟨d.first + k, d.first + k, rLo d l (d.first + k) - 1, rHi d l (d.first + k)⟩ = true := by
    rw [valid_iff]
    simp only
    omega
  refine ⟨hvb, ?_⟩
  have e1 : ∀ i, i < n → rLo d (l ++ [⟨d.first + k, d.first + k, rLo d l (d.first + k) - 1, rHi d l (d.first + k)⟩]) (d.first + i) = rLo d l (d.first + i) := by
    intro i hi
    rw [rLo_snoc]
    have : leastV d ⟨d.first + k, d.first + k, rLo d l (d.first + k) - 1, rHi d l (d.first + k)⟩ (d.first + i) ≤ rLo d l (d.first + i) := by
      rw [leastV_le (by simp)]
      intro s h1 h2
      simp only at h1 h2
      obtain rfl : s = d.first + k := by omega
      have := (ch_facts hv hl hn hok hk hi).1.1
      rw [lowV_add]
      simp only
      omega
    omega
  have e2 : ∀ i, i < n → rHi d (l ++ [⟨d.first + k, d.first + k, rLo d l (d.first + k) - 1, rHi d l (d.first + k)⟩]) (d.first + i) = rHi d l (d.first + i) := by
    intro i hi
    rw [rHi_snoc]
    have : rHi d l (d.first + i) ≤ greatV d ⟨d.first + k, d.first + k, rLo d l (d.first + k) - 1, rHi d l (d.first + k)⟩ (d.first + i) := by
      rw [greatV_ge (by simp)]
      intro s h1 h2
      simp only at h1 h2
      obtain rfl : s = d.first + k := by omega
      have := (ch_facts hv hl hn hok hk hi).2.2
      rw [highV_add]
      simp only
      omega
    omega
  have h3 : ∀ c ∈ l ++ [⟨d.first + k, d.first + k, rLo d l (d.first + k) - 1, rHi d l (d.first + k)⟩], validB d c = true := by
    intro c hc
    rcases List.mem_append.1 hc with hc | hc
    · exact hl c hc
    · rw [List.mem_singleton.1 hc]; exact hvb
  rcases newR_cases hv (by simp; omega) h3 hn with ⟨_, h5⟩ | ⟨h4, _⟩
  · rw [h5]
    have q1 : rLoL d (l ++ [⟨d.first + k, d.first + k, rLo d l (d.first + k) - 1, rHi d l (d.first + k)⟩]) n = rLoL d l n := List.map_congr_left fun i hi => e1 i (List.mem_range.1 hi)
    have q2 : rHiL d (l ++ [⟨d.first + k, d.first + k, rLo d l (d.first + k) - 1, rHi d l (d.first + k)⟩]) n = rHiL d l n := List.map_congr_left fun i hi => e2 i (List.mem_range.1 hi)
    rw [q1, q2]
  · exact absurd (fun i hi => by rw [e1 i hi, e2 i hi]; exact hok0 i hi) h4
end Go.Proofs.Ytnoenmacakbhdaa
