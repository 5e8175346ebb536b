
/- Envelopes: source, bound, crossed. -/
import Derived.Test.YtpnngbfmmjjnaaaEp
import Derived.Test.YtpnngbfmmjjnaaaSyF
namespace Go.Proofs.Ytpnngbfmmjjnaaa
open Go.RowKit
set_option linter.unusedVariables false
set_option linter.unusedSimpArgs false

def rangeC (d : Dc) : Cl := ⟨d.first, d.last, d.lo, d.hi⟩
/-- The sources: the range, then the claims. -/
def srcL (d : Dc) (l : List Cl) : List Cl := rangeC d :: l
def SrcOk (d : Dc) (c : Cl) : Prop := d.first ≤ c.f ∧ c.f ≤ c.t ∧ c.t ≤ d.last ∧ -1099511627776 ≤ c.lo ∧ c.lo ≤ c.hi ∧ c.hi ≤ 1099511627776
theorem src_ok {d : Dc} {l : List Cl} (hv : validCode d = 0) (hl : ∀ c ∈ l, validB d c = true) : ∀ c ∈ srcL d l, SrcOk d c := by
  intro c hc
  have hb := valid_bounds hv
  rcases List.mem_cons.1 hc with rfl | hc
  · simp only [SrcOk, rangeC]; omega
  · exact (valid_iff d c).1 (hl c hc)
set_option maxRecDepth 10000 in
theorem source_s (nm : ByteArray) (A : Option Addr) (ln c : Nat) (v : Value) (d : Dc) (l : List Cl) (i : Int) (w : World) (hv : RowsIn rC w v l) (h1 : -1 ≤ i) (h2 : i < l.length) :
    Con Try.prog 66 #[.agg (dcCells nm (.slice A ln c) d), v, .int .i64 i] w (Ret w (.agg (clA ((srcL d l).getD (i + 1).toNat cl0)))) := by
  obtain ⟨A1, c1, rfl, e1, e2⟩ := hv.form
  refine enter tabOk mixed Try.func66 rfl Try.ntmps66 Try.results66 [.a (dcS nm (.v (.slice A ln c)) d), .s 0 4 l.length c1, .v (.int .i64 i)] (fun _ => A1) [⟨0, false, 62, 4, c1, .rows Cl rC (l)⟩] 1 rfl rfl (.ro (hp0 _ _ _) _ rfl rfl rfl (ro_rows hv rfl _)) ?_
  ((conv=>whnf);repeat(refine And.intro (by omega) ?_;(conv=>whnf)))
  refine EvIf.split (fun g => ?_) (fun g => ?_)
  · simp only [decide_eq_true_eq] at g
    obtain rfl : i = -1 := by omega
    ((conv=>whnf);repeat(refine And.intro (by omega) ?_;(conv=>whnf)))
    exact EvRet.ret (fun _ => rfl)
  · simp only [decide_eq_false_iff_not] at g
    ((conv=>whnf);(repeat(refine And.intro ?_ ?_;(focus((first|omega|exact⟨rfl,True.intro⟩|exact⟨rfl,rfl,True.intro⟩|rfl|(simp only[List.length_set];first|omega|(refine⟨?_,?_⟩<;>omega)|(refine⟨?_,?_,?_⟩<;>omega))|(intro hg;(try simp only[bB]at hg);first|omega|(refine⟨?_,?_⟩<;>omega)|(refine⟨?_,?_,?_⟩<;>first|omega|(show _<_;(try simp only[List.length_set]);omega)|exact leT rfl))|(refine⟨?_,?_⟩<;>omega)|(refine⟨?_,?_,?_⟩<;>first|omega|(show _<_;(try simp only[List.length_set]);omega)|exact leT rfl)|(simp only[show rI.d=(0:Int)from rfl];omega));done));(conv=>whnf))))
    refine EvRet.ret (fun _ => ?_)
    rw [show (i + 1).toNat = i.toNat + 1 by omega]
    rfl
noncomputable def crossB (los his : List Int) : Bool := @decide (∃ i, i < los.length ∧ his.getD i 0 < los.getD i 0) (Classical.propDecidable _)
theorem crossB_t {los his : List Int} : crossB los his = true ↔ ∃ i, i < los.length ∧ his.getD i 0 < los.getD i 0 := by simp [crossB]
theorem crossB_f {los his : List Int} : crossB los his = false ↔ ∀ i, i < los.length → los.getD i 0 ≤ his.getD i 0 := by
  rw [← Bool.not_eq_true, crossB_t]
  constructor
  · intro h i hi
    apply Int.le_of_not_gt
    intro hh
    exact h ⟨i, hi, hh⟩
  · rintro h ⟨i, hi, hh⟩
    have := h i hi
    omega
set_option maxRecDepth 10000 in
theorem crossed_s (f1 f2 : Int) (A1 A2 B1 B2 : Option Addr) (n1 n2 c1 c2 d1 d2 m1 m2 : Nat) (los his : List Int) (w : World) (h1 : RowsIn rI w (.slice A1 n1 c1) los) (h2 : RowsIn rI w (.slice B2 m2 d2) his) (hl : los.length ≤ his.length) :
    Con Try.prog 44 #[envV f1 (.slice A1 n1 c1) (.slice A2 n2 c2), envV f2 (.slice B1 m1 d1) (.slice B2 m2 d2)] w (Ret w (.bool (crossB los his))) := by
  obtain ⟨A, c, e, e1, e2⟩ := h1.form
  simp at e
  obtain ⟨rfl, rfl, rfl⟩ := e
  obtain ⟨B, c', e, e3, e4⟩ := h2.form
  simp at e
  obtain ⟨rfl, rfl, rfl⟩ := e
  refine enter tabOk mixed Try.func44 rfl Try.ntmps44 Try.results44 [.a [.v (.int .i64 f1), .s 0 1 los.length c1, .v (.slice A2 n2 c2)], .a [.v (.int .i64 f2), .v (.slice B1 m1 d1), .s 1 1 his.length d2]] (fun n => if n = 0 then A1 else B2) [⟨1, false, 3, 1, d2, .rows Int rI (his)⟩, ⟨0, false, 3, 1, c1, .rows Int rI (los)⟩] 2 rfl rfl (.ro (.ro (hp0 _ _ _) _ rfl rfl rfl (ro_rows h1 rfl _)) _ rfl rfl rfl (ro_rows h2 rfl _)) ?_
  ((conv=>whnf);repeat(refine And.intro (by omega) ?_;(conv=>whnf)))
  refine EvLoop.inv (α := Nat) (fun i => i ≤ los.length ∧ ∀ k, k < i → los.getD k 0 ≤ his.getD k 0) (fun i => los.length - i) (fun i => [(10, [], .v (.int .i64 ((i : Int)))), (9, [], .v (.int .i64 ((los.length : Int)))), (8, [], .s 0 1 los.length c1), (3, [], .p 3 0)])
    (fun i => [⟨3, true, 33, 3, 1, .cs [.v (.int .i64 f2), .v (.slice B1 m1 d1), .s 1 1 his.length d2]⟩, ⟨1, false, 3, 1, d2, .rows Int rI his⟩, ⟨0, false, 3, 1, c1, .rows Int rI los⟩]) 4 0 ⟨by omega, fun k hk => by omega⟩ (Sub.of [] [] rfl ?_) ?_
  · ((repeat' (refine And.intro ?_ ?_)) <;> first | rfl | exact True.intro | omega)
  intro i ⟨hi, hi2⟩
  ((conv=>whnf);repeat(refine And.intro (by omega) ?_;(conv=>whnf)))
  refine EvIf.split (fun g1 => ?_) (fun g1 => ?_)
  · simp only [decide_eq_true_eq] at g1
    ((conv=>whnf);(repeat(refine And.intro ?_ ?_;(focus((first|omega|exact⟨rfl,True.intro⟩|exact⟨rfl,rfl,True.intro⟩|rfl|(simp only[List.length_set];first|omega|(refine⟨?_,?_⟩<;>omega)|(refine⟨?_,?_,?_⟩<;>omega))|(intro hg;(try simp only[bB]at hg);first|omega|(refine⟨?_,?_⟩<;>omega)|(refine⟨?_,?_,?_⟩<;>first|omega|(show _<_;(try simp only[List.length_set]);omega)|exact leT rfl))|(refine⟨?_,?_⟩<;>omega)|(refine⟨?_,?_,?_⟩<;>first|omega|(show _<_;(try simp only[List.length_set]);omega)|exact leT rfl)|(simp only[show rI.d=(0:Int)from rfl];omega));done));(conv=>whnf))))
    refine EvIf.split (fun g2 => ?_) (fun g2 => ?_)
    · simp only [decide_eq_true_eq] at g2
      have g3 : his.getD i 0 < los.getD i 0 := g2
      ((conv=>whnf);repeat(refine And.intro (by omega) ?_;(conv=>whnf)))
      refine EvRet.ret (fun _ => ?_)
      rw [crossB_t.2 ⟨i, by omega, g3⟩]
      rfl
    · simp only [decide_eq_false_iff_not] at g2
      have g3 : ¬ his.getD i 0 < los.getD i 0 := g2
      ((conv=>whnf);repeat(refine And.intro (by omega) ?_;(conv=>whnf)))
      refine LoopI.back (i + 1) ⟨by omega, fun k hk => ?_⟩ (by omega) (Sub.of [] [] rfl ?_)
      · by_cases hki : k = i
        · subst hki; omega
        · exact hi2 k (by omega)
      · ((repeat' (refine And.intro ?_ ?_)) <;> first | rfl | exact True.intro | omega)
  · simp only [decide_eq_false_iff_not] at g1
    ((conv=>whnf);repeat(refine And.intro (by omega) ?_;(conv=>whnf)))
    refine EvRet.ret (fun _ => ?_)
    rw [crossB_f.2 (fun k hk => hi2 k (by omega))]
    rfl
/-! what bound computes -/
def dU (d : Dc) : Dc := { d with lo := -1125899906842624, hi := 1125899906842624 }
def lo0 (d : Dc) (ss : List Cl) (i : Nat) : Int := lowB (dU d) ss (d.first + i)
def hi0 (d : Dc) (ss : List Cl) (i : Nat) : Int := highB (dU d) ss (d.first + i)
def bLo (d : Dc) (ss : List Cl) (n : Nat) : Nat → Int := bwd (fwd (lo0 d ss) d.down) d.up n
def bHi (d : Dc) (ss : List Cl) (n : Nat) : Nat → Int := bwdH (fwdH (hi0 d ss) d.up) d.down n
def bLoL (d : Dc) (ss : List Cl) (n : Nat) : List Int := (List.range n).map (bLo d ss n)
def bHiL (d : Dc) (ss : List Cl) (n : Nat) : List Int := (List.range n).map (bHi d ss n)
theorem bLoL_len (d : Dc) (ss : List Cl) (n : Nat) : (bLoL d ss n).length = n := by simp [bLoL]
theorem bHiL_len (d : Dc) (ss : List Cl) (n : Nat) : (bHiL d ss n).length = n := by simp [bHiL]
theorem bLoL_get (d : Dc) (ss : List Cl) (n i : Nat) (h : i < n) : (bLoL d ss n).getD i 0 = bLo d ss n i := by simp [bLoL, List.getD_eq_getElem?_getD, h]
theorem bHiL_get (d : Dc) (ss : List Cl) (n i : Nat) (h : i < n) : (bHiL d ss n).getD i 0 = bHi d ss n i := by simp [bHiL, List.getD_eq_getElem?_getD, h]
theorem lo0_bd {d : Dc} {ss : List Cl} (h : ∀ c ∈ ss, SrcOk d c) (i : Nat) : -1125899906842624 ≤ lo0 d ss i ∧ lo0 d ss i ≤ 1125899906842624 := by
  refine ⟨low_ge (dU d) ss _, ?_⟩
  unfold lo0
  rw [lowB_le]
  refine ⟨by simp [dU], fun c hc _ _ => ?_⟩
  have := h c hc
  unfold SrcOk at this
  omega
theorem hi0_bd {d : Dc} {ss : List Cl} (h : ∀ c ∈ ss, SrcOk d c) (i : Nat) : -1125899906842624 ≤ hi0 d ss i ∧ hi0 d ss i ≤ 1125899906842624 := by
  refine ⟨?_, high_le (dU d) ss _⟩
  unfold hi0
  rw [le_highB]
  refine ⟨by simp [dU], fun c hc _ _ => ?_⟩
  have := h c hc
  unfold SrcOk at this
  omega
theorem fwd_bd {lo : Nat → Int} {a M : Int} (h : ∀ i, -M ≤ lo i ∧ lo i ≤ M) (ha : -1048576 ≤ a ∧ a ≤ 1048576) : ∀ j : Nat, -M - 1048576 * (j : Int) ≤ fwd lo a j ∧ fwd lo a j ≤ M + 1048576 * (j : Int)
  | 0 => by have := h 0; simp only [fwd]; omega
  | j + 1 => by have := fwd_bd h ha j; have := h (j + 1); simp only [fwd]; omega
theorem fwdH_bd {hi : Nat → Int} {a M : Int} (h : ∀ i, -M ≤ hi i ∧ hi i ≤ M) (ha : -1048576 ≤ a ∧ a ≤ 1048576) : ∀ j : Nat, -M - 1048576 * (j : Int) ≤ fwdH hi a j ∧ fwdH hi a j ≤ M + 1048576 * (j : Int)
  | 0 => by have := h 0; simp only [fwdH]; omega
  | j + 1 => by have := fwdH_bd h ha j; have := h (j + 1); simp only [fwdH]; omega
theorem bwk_bd {f : Nat → Int} {a M : Int} {n : Nat} (h : ∀ i, i < n → -M ≤ f i ∧ f i ≤ M) (ha : -1048576 ≤ a ∧ a ≤ 1048576) : ∀ k : Nat, k < n → -M - 1048576 * (k : Int) ≤ bwk f a n k ∧ bwk f a n k ≤ M + 1048576 * (k : Int)
  | 0, hk => by have := h (n - 1) (by omega); simp only [bwk]; omega
  | k + 1, hk => by have := bwk_bd h ha k (by omega); have := h (n - 1 - (k + 1)) (by omega); simp only [bwk]; omega
theorem bwkH_bd {f : Nat → Int} {a M : Int} {n : Nat} (h : ∀ i, i < n → -M ≤ f i ∧ f i ≤ M) (ha : -1048576 ≤ a ∧ a ≤ 1048576) : ∀ k : Nat, k < n → -M - 1048576 * (k : Int) ≤ bwkH f a n k ∧ bwkH f a n k ≤ M + 1048576 * (k : Int)
  | 0, hk => by have := h (n - 1) (by omega); simp only [bwkH]; omega
  | k + 1, hk => by have := bwkH_bd h ha k (by omega); have := h (n - 1 - (k + 1)) (by omega); simp only [bwkH]; omega
theorem mixL_unset (f g : Nat → Int) (n j : Nat) (h : j < n) : (mixL f g n (j + 1)).set j (g j) = mixL f g n j := by
  apply List.ext_getElem
  · simp [mixL]
  · intro i h1 h2
    have hin : i < n := by simpa [mixL] using h2
    rw [List.getElem_set]
    simp only [mixL, List.getElem_map, List.getElem_range]
    by_cases hij : j = i
    · subst hij; simp
    · rw [if_neg hij]
      by_cases hi : i < j
      · rw [if_pos hi, if_pos (by omega)]
      · rw [if_neg hi, if_neg (by omega)]
theorem mixL_all (f g : Nat → Int) (n : Nat) : mixL f g n 0 = (List.range n).map g := by
  apply List.map_congr_left
  intro i hi
  simp
end Go.Proofs.Ytpnngbfmmjjnaaa
