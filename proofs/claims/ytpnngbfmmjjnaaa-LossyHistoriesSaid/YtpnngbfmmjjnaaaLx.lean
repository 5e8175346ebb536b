
/- Histories: Random and Agrees, walked (blocks of other parts of this repo). -/
import Derived.Test.YtpnngbfmmjjnaaaLr
import Derived.Test.YtpnngbfmmjjnaaaHt
namespace Go.Proofs.Ytpnngbfmmjjnaaa
open Go.RowKit
set_option linter.unusedVariables false
set_option linter.unusedSimpArgs false

theorem getD_out {vs : List Int} {i : Nat} (h : vs.length ≤ i) : vs.getD i 0 = 0 := by rw [List.getD_eq_getElem?_getD, List.getElem?_eq_none h]; rfl
theorem hist_mid {d : Dc} {l : List Cl} {lo hi vs : List Int} (h1 : HistP d l lo) (h2 : HistP d l hi) (hn : vs.length = lo.length) (hb : ∀ i, i < vs.length → lo.getD i 0 ≤ vs.getD i 0 ∧ vs.getD i 0 ≤ hi.getD i 0)
    (hs : ∀ i, i + 1 < vs.length → d.down ≤ vs.getD (i + 1) 0 - vs.getD i 0 ∧ vs.getD (i + 1) 0 - vs.getD i 0 ≤ d.up) : HistP d l vs := by
  have l1 := h1.1
  have l2 := h2.1
  refine ⟨by rw [hn]; exact h1.1, fun i hi => ⟨?_, fun h0 => ?_⟩, fun c hc => ?_⟩
  · have a := (h1.2.1 i (by omega)).1
    have b := (h2.2.1 i (by omega)).1
    have := hb i hi
    omega
  · obtain ⟨j, rfl⟩ : ∃ j, i = j + 1 := ⟨i - 1, by omega⟩
    exact hs j hi
  · have a := h1.2.2 c hc
    have b := h2.2.2 c hc
    refine ⟨a.1, by rw [hn]; exact a.2.1, fun i h3 h4 => ?_⟩
    have p := a.2.2 i h3 h4
    have q := b.2.2 i h3 h4
    by_cases hi : i < vs.length
    · have := hb i hi
      omega
    · rw [getD_out (by omega)] at p ⊢
      exact p
theorem map_get (f : Nat → Int) (n i : Nat) (h : i < n) : ((List.range n).map f).getD i 0 = f i := by simp [List.getD_eq_getElem?_getD, h]
/-! Random -/
def rndX (d : Dc) (lo : Nat → Int) (i : Nat) (p : Int) : Int := if i = 0 then lo i else max (lo i) (p + d.down)
def rndY (d : Dc) (hi : Nat → Int) (i : Nat) (p : Int) : Int := if i = 0 then hi i else min (hi i) (p + d.up)
def rndN (d : Dc) (lo hi g : Nat → Int) (i : Nat) (p : Int) : Int := rndX d lo i p + g i % (rndY d hi i p - rndX d lo i p + 1)
def rndV (d : Dc) (lo hi g : Nat → Int) : Nat → Int
  | 0 => rndN d lo hi g 0 0
  | i + 1 => rndN d lo hi g (i + 1) (rndV d lo hi g i)
def rndL (d : Dc) (lo hi g : Nat → Int) (n : Nat) : List Int := (List.range n).map (rndV d lo hi g)
theorem rndL_len (d : Dc) (lo hi g : Nat → Int) (n : Nat) : (rndL d lo hi g n).length = n := by simp [rndL]
def prevV (d : Dc) (lo hi g : Nat → Int) (i : Nat) : Int := if i = 0 then 0 else rndV d lo hi g (i - 1)
theorem rndV_prev (d : Dc) (lo hi g : Nat → Int) (i : Nat) : rndV d lo hi g i = rndN d lo hi g i (prevV d lo hi g i) := by
  cases i <;> simp [rndV, prevV]
theorem mod_in (g n : Int) (h : 0 ≤ n) : 0 ≤ g % (n + 1) ∧ g % (n + 1) ≤ n := by
  have := Int.emod_nonneg g (show n + 1 ≠ 0 by omega)
  have := Int.emod_lt_of_pos g (show 0 < n + 1 by omega)
  omega
theorem rnd_in {d : Dc} {lo hi g : Nat → Int} {n : Nat} (hd : d.down ≤ d.up) (hok : ∀ i, i < n → lo i ≤ hi i) (hl : ∀ i, i + 1 < n → lo i + d.down ≤ lo (i + 1) ∧ lo (i + 1) ≤ lo i + d.up) (hh : ∀ i, i + 1 < n → hi i + d.down ≤ hi (i + 1) ∧ hi (i + 1) ≤ hi i + d.up) :
    ∀ i, i < n → (rndX d lo i (prevV d lo hi g i) ≤ rndY d hi i (prevV d lo hi g i)) ∧ (lo i ≤ rndV d lo hi g i ∧ rndV d lo hi g i ≤ hi i) ∧ (0 < i → d.down ≤ rndV d lo hi g i - rndV d lo hi g (i - 1) ∧ rndV d lo hi g i - rndV d lo hi g (i - 1) ≤ d.up) := by
  intro i
  induction i with
  | zero =>
    intro h
    have := hok 0 h
    have m := mod_in (g 0) (hi 0 - lo 0) (by omega)
    refine ⟨by simp [rndX, rndY]; omega, ?_, fun h => absurd h (by omega)⟩
    simp only [rndV, rndN, rndX, rndY, if_true]
    omega
  | succ i ih =>
    intro h
    obtain ⟨_, ⟨a1, a2⟩, _⟩ := ih (by omega)
    have b1 := hl i h
    have b2 := hh i h
    have b3 := hok (i + 1) h
    have hx : rndX d lo (i + 1) (prevV d lo hi g (i + 1)) = max (lo (i + 1)) (rndV d lo hi g i + d.down) := by simp [rndX, prevV]
    have hy : rndY d hi (i + 1) (prevV d lo hi g (i + 1)) = min (hi (i + 1)) (rndV d lo hi g i + d.up) := by simp [rndY, prevV]
    have hxy : rndX d lo (i + 1) (prevV d lo hi g (i + 1)) ≤ rndY d hi (i + 1) (prevV d lo hi g (i + 1)) := by rw [hx, hy]; omega
    have m := mod_in (g (i + 1)) (rndY d hi (i + 1) (prevV d lo hi g (i + 1)) - rndX d lo (i + 1) (prevV d lo hi g (i + 1))) (by omega)
    have e : rndV d lo hi g (i + 1) = rndX d lo (i + 1) (prevV d lo hi g (i + 1)) + g (i + 1) % (rndY d hi (i + 1) (prevV d lo hi g (i + 1)) - rndX d lo (i + 1) (prevV d lo hi g (i + 1)) + 1) := rndV_prev d lo hi g (i + 1)
    refine ⟨hxy, ?_, fun _ => ?_⟩
    · rw [e]; omega
    · rw [show i + 1 - 1 = i by omega]
      omega
theorem rnd_hist {d : Dc} {l : List Cl} {n : Nat} (g : Nat → Int) (hv : validCode d = 0) (hl : ∀ c ∈ l, validB d c = true) (hn : (n : Int) = d.last - d.first + 1) (hok : ∀ i : Nat, i < n → rLo d l (d.first + i) ≤ rHi d l (d.first + i)) :
    HistP d l (rndL d (fun i => (rLoL d l n).getD i 0) (fun i => (rHiL d l n).getD i 0) g n) ∧ ∀ i, i < n → rndX d (fun i => (rLoL d l n).getD i 0) i (prevV d (fun i => (rLoL d l n).getD i 0) (fun i => (rHiL d l n).getD i 0) g i) ≤ rndY d (fun i => (rHiL d l n).getD i 0) i (prevV d (fun i => (rLoL d l n).getD i 0) (fun i => (rHiL d l n).getD i 0) g i) := by
  obtain ⟨hL, hH⟩ := rL_hist hv hl hn hok
  have hb := valid_bounds hv
  have key := rnd_in (d := d) (lo := fun i => (rLoL d l n).getD i 0) (hi := fun i => (rHiL d l n).getD i 0) (g := g) (n := n) (by omega) (fun i hi => by
    simp only [(rL_get d l n i hi).1, (rL_get d l n i hi).2]; exact hok i hi) (fun i hi => by
    have := (hL.2.1 (i + 1) (by rw [rLoL_len]; exact hi)).2 (by omega)
    rw [show i + 1 - 1 = i by omega] at this
    omega) (fun i hi => by
    have := (hH.2.1 (i + 1) (by rw [rHiL_len]; exact hi)).2 (by omega)
    rw [show i + 1 - 1 = i by omega] at this
    omega)
  refine ⟨hist_mid hL hH (by rw [rndL_len, rLoL_len]) (fun i hi => ?_) (fun i hi => ?_), fun i hi => (key i hi).1⟩
  · rw [rndL_len] at hi
    have e : (rndL d (fun i => (rLoL d l n).getD i 0) (fun i => (rHiL d l n).getD i 0) g n).getD i 0 = _ := map_get _ n i hi
    rw [e]
    exact (key i hi).2.1
  · rw [rndL_len] at hi
    have e : ∀ j, j < n → (rndL d (fun i => (rLoL d l n).getD i 0) (fun i => (rHiL d l n).getD i 0) g n).getD j 0 = rndV d (fun i => (rLoL d l n).getD i 0) (fun i => (rHiL d l n).getD i 0) g j := fun j hj => map_get _ n j hj
    rw [e _ hi, e i (by omega)]
    have := (key (i + 1) hi).2.2 (by omega)
    rw [show i + 1 - 1 = i by omega] at this
    exact this
theorem hist_bd5 {d : Dc} {l : List Cl} {vs : List Int} (hv : validCode d = 0) (h : HistP d l vs) : ∀ i, -1099511627776 ≤ vs.getD i 0 ∧ vs.getD i 0 ≤ 1099511627776 := by
  intro i
  have hb := valid_bounds hv
  by_cases hi : i < vs.length
  · have := (h.2.1 i hi).1
    omega
  · rw [getD_out (by omega)]
    omega
theorem mixL_full (f g : Nat → Int) (n : Nat) : mixL f g n n = (List.range n).map f := List.map_congr_left fun i hi => if_pos (List.mem_range.1 hi)
theorem two_ok {d : Dc} {l : List Cl} (hvc : validCode d = 0) (hll : l.length ≤ 4096) (hlv : ∀ c ∈ l, validB d c = true) :
    ((∀ i : Nat, i < spanN d → rLo d l (d.first + i) ≤ rHi d l (d.first + i)) ∧ newR d l = (⟨d.first, rLoL d l (spanN d), rHiL d l (spanN d)⟩, 0)) ∨ (¬ (∀ i : Nat, i < spanN d → rLo d l (d.first + i) ≤ rHi d l (d.first + i)) ∧ newR d l = (env0', 13)) := by
  have hbd := valid_bounds hvc
  exact newR_cases hvc hll hlv (by unfold spanN; omega)
def DcL (d : Dc) : Prop := 0 ≤ d.first ∧ d.first ≤ d.last ∧ d.last ≤ 1048576
set_option maxRecDepth 10000 in
theorem holdsG_s (nm : ByteArray) (A : Option Addr) (ln c : Nat) (d : Dc) (x : Cl) (v : Value) (vs : List Int) (w : World) (h : DcL d) (hv : RowsIn rI w v vs) :
    Con Try.prog 57 #[.agg (dcCells nm (.slice A ln c) d), .agg (clA x), v] w (Ret w (.bool (holdsB' d x vs))) := by
  obtain ⟨A1, c1, rfl, e1, e2⟩ := hv.form
  obtain ⟨h1, h2, h3⟩ := h
  refine enter tabOk mixed Try.func57 rfl Try.ntmps57 Try.results57 [.a (dcS nm (.v (.slice A ln c)) d), .a (clS x), .s 0 1 vs.length c1] (fun _ => A1) [⟨0, false, 3, 1, c1, .rows Int rI (vs)⟩] 1 rfl rfl (.ro (hp0 _ _ _) _ rfl rfl rfl (ro_rows hv rfl _)) ?_
  ((conv=>whnf);(repeat(refine And.intro ?_ ?_;(focus((first|omega|exact⟨rfl,True.intro⟩|exact⟨rfl,rfl,True.intro⟩|rfl|(simp only[List.length_set];first|omega|(refine⟨?_,?_⟩<;>omega)|(refine⟨?_,?_,?_⟩<;>omega))|(intro hg;(try simp only[bB]at hg);first|omega|(refine⟨?_,?_⟩<;>omega)|(refine⟨?_,?_,?_⟩<;>first|omega|(show _<_;(try simp only[List.length_set]);omega)|exact leT rfl))|(refine⟨?_,?_⟩<;>omega)|(refine⟨?_,?_,?_⟩<;>first|omega|(show _<_;(try simp only[List.length_set]);omega)|exact leT rfl)|(simp only[show rI.d=(0:Int)from rfl];omega));done));(conv=>whnf))))
  refine EvCall.plain Try.call65 (.v (.bool (validB d x))) rfl (fun ρ W hp => valid_s _ _ _ _ d x W) ?_
  ((conv=>whnf);(repeat(refine And.intro ?_ ?_;(focus((first|omega|exact⟨rfl,True.intro⟩|exact⟨rfl,rfl,True.intro⟩|rfl|(simp only[List.length_set];first|omega|(refine⟨?_,?_⟩<;>omega)|(refine⟨?_,?_,?_⟩<;>omega))|(intro hg;(try simp only[bB]at hg);first|omega|(refine⟨?_,?_⟩<;>omega)|(refine⟨?_,?_,?_⟩<;>first|omega|(show _<_;(try simp only[List.length_set]);omega)|exact leT rfl))|(refine⟨?_,?_⟩<;>omega)|(refine⟨?_,?_,?_⟩<;>first|omega|(show _<_;(try simp only[List.length_set]);omega)|exact leT rfl)|(simp only[show rI.d=(0:Int)from rfl];omega));done));(conv=>whnf))))
  refine EvCallC.plain Try.call56 (.v (.int .i64 (d.last - d.first + 1))) rfl (fun _ ρ W hp => span_s _ _ _ _ d W (by omega) (by omega)) ?_
  ((conv=>whnf);(repeat(refine And.intro ?_ ?_;(focus((first|omega|exact⟨rfl,True.intro⟩|exact⟨rfl,rfl,True.intro⟩|rfl|(simp only[List.length_set];first|omega|(refine⟨?_,?_⟩<;>omega)|(refine⟨?_,?_,?_⟩<;>omega))|(intro hg;(try simp only[bB]at hg);first|omega|(refine⟨?_,?_⟩<;>omega)|(refine⟨?_,?_,?_⟩<;>first|omega|(show _<_;(try simp only[List.length_set]);omega)|exact leT rfl))|(refine⟨?_,?_⟩<;>omega)|(refine⟨?_,?_,?_⟩<;>first|omega|(show _<_;(try simp only[List.length_set]);omega)|exact leT rfl)|(simp only[show rI.d=(0:Int)from rfl];omega));done));(conv=>whnf))))
  refine EvIf.split (fun g1 => ?_) (fun g1 => ?_)
  · simp only [Bool.or_eq_true, Bool.not_eq_true', decide_eq_false_iff_not, decide_eq_true_eq] at g1
    ((conv=>whnf);(repeat(refine And.intro ?_ ?_;(focus((first|omega|exact⟨rfl,True.intro⟩|exact⟨rfl,rfl,True.intro⟩|rfl|(simp only[List.length_set];first|omega|(refine⟨?_,?_⟩<;>omega)|(refine⟨?_,?_,?_⟩<;>omega))|(intro hg;(try simp only[bB]at hg);first|omega|(refine⟨?_,?_⟩<;>omega)|(refine⟨?_,?_,?_⟩<;>first|omega|(show _<_;(try simp only[List.length_set]);omega)|exact leT rfl))|(refine⟨?_,?_⟩<;>omega)|(refine⟨?_,?_,?_⟩<;>first|omega|(show _<_;(try simp only[List.length_set]);omega)|exact leT rfl)|(simp only[show rI.d=(0:Int)from rfl];omega));done));(conv=>whnf))))
    refine EvRet.ret (fun _ => ?_)
    rw [holdsB'_f.2 (fun hh => by
      rcases g1 with (g1 | g1) | g1
      · rw [hh.1] at g1; cases g1
      · exact g1 hh.2.1
      · have := hh.2.1; omega)]
    rfl
  simp only [Bool.or_eq_false_iff, Bool.not_eq_false', decide_eq_true_eq, decide_eq_false_iff_not] at g1
  have hvb := (valid_iff d x).1 g1.1.1
  ((conv=>whnf);(repeat(refine And.intro ?_ ?_;(focus((first|omega|exact⟨rfl,True.intro⟩|exact⟨rfl,rfl,True.intro⟩|rfl|(simp only[List.length_set];first|omega|(refine⟨?_,?_⟩<;>omega)|(refine⟨?_,?_,?_⟩<;>omega))|(intro hg;(try simp only[bB]at hg);first|omega|(refine⟨?_,?_⟩<;>omega)|(refine⟨?_,?_,?_⟩<;>first|omega|(show _<_;(try simp only[List.length_set]);omega)|exact leT rfl))|(refine⟨?_,?_⟩<;>omega)|(refine⟨?_,?_,?_⟩<;>first|omega|(show _<_;(try simp only[List.length_set]);omega)|exact leT rfl)|(simp only[show rI.d=(0:Int)from rfl];omega));done));(conv=>whnf))))
  obtain ⟨F, hF⟩ : ∃ F : Nat, x.f - d.first = (F : Int) := ⟨(x.f - d.first).toNat, by omega⟩
  obtain ⟨G, hG⟩ : ∃ G : Nat, x.t - d.first = (G : Int) := ⟨(x.t - d.first).toNat, by omega⟩
  have hso : sOff (Option.getD none 0) c1 (x.f - d.first).toNat = F := by
    have : (x.f - d.first).toNat = F := by omega
    rw [this]
    unfold sOff
    rw [if_neg (by omega)]
    simp
  refine EvLoop.inv (α := Nat) (fun k => F + k ≤ G + 1 ∧ ∀ j, j < k → x.lo ≤ vs.getD (F + j) 0 ∧ vs.getD (F + j) 0 ≤ x.hi) (fun k => G + 1 - F - k)
    (fun k => [(39, [], .v (.int .i64 ((k : Int)))), (38, [], .v (.int .i64 (((G + 1 - F : Nat) : Int)))), (37, [], .so 0 1 F (G + 1 - F) (c1 - F)), (3, [], .p 1 0), (4, [], .p 2 0)])
    (fun k => [⟨2, true, 62, 4, 1, .cs (clS x)⟩, ⟨1, true, 27, 12, 1, .cs (dcS nm (.v (.slice A ln c)) d)⟩, ⟨0, false, 3, 1, c1, .rows Int rI (vs)⟩]) 3 0 ⟨by omega, fun j hj => by omega⟩ (Sub.of [] [] rfl ?_) ?_
  · (repeat' (refine And.intro ?_ ?_)) <;> first | rfl | trivial | exact hso | omega
  intro k ⟨hk, hk2⟩
  ((conv=>whnf);(repeat(refine And.intro ?_ ?_;(focus((first|omega|exact⟨rfl,True.intro⟩|exact⟨rfl,rfl,True.intro⟩|rfl|(simp only[List.length_set];first|omega|(refine⟨?_,?_⟩<;>omega)|(refine⟨?_,?_,?_⟩<;>omega))|(intro hg;(try simp only[bB]at hg);first|omega|(refine⟨?_,?_⟩<;>omega)|(refine⟨?_,?_,?_⟩<;>first|omega|(show _<_;(try simp only[List.length_set]);omega)|exact leT rfl))|(refine⟨?_,?_⟩<;>omega)|(refine⟨?_,?_,?_⟩<;>first|omega|(show _<_;(try simp only[List.length_set]);omega)|exact leT rfl)|(simp only[show rI.d=(0:Int)from rfl];omega));done));(conv=>whnf))))
  refine EvIf.split (fun g2 => ?_) (fun g2 => ?_)
  · simp only [decide_eq_true_eq] at g2
    ((conv=>whnf);(repeat(refine And.intro ?_ ?_;(focus((first|omega|exact⟨rfl,True.intro⟩|exact⟨rfl,rfl,True.intro⟩|rfl|(simp only[List.length_set];first|omega|(refine⟨?_,?_⟩<;>omega)|(refine⟨?_,?_,?_⟩<;>omega))|(intro hg;(try simp only[bB]at hg);first|omega|(refine⟨?_,?_⟩<;>omega)|(refine⟨?_,?_,?_⟩<;>first|omega|(show _<_;(try simp only[List.length_set]);omega)|exact leT rfl))|(refine⟨?_,?_⟩<;>omega)|(refine⟨?_,?_,?_⟩<;>first|omega|(show _<_;(try simp only[List.length_set]);omega)|exact leT rfl)|(simp only[show rI.d=(0:Int)from rfl];omega));done));(conv=>whnf))))
    refine EvIf.split (fun g3 => ?_) (fun g3 => ?_)
    · simp only [Bool.or_eq_true, decide_eq_true_eq] at g3
      have g4 : vs.getD (F + k) 0 < x.lo ∨ x.hi < vs.getD (F + k) 0 := g3
      ((conv=>whnf);(repeat(refine And.intro ?_ ?_;(focus((first|omega|exact⟨rfl,True.intro⟩|exact⟨rfl,rfl,True.intro⟩|rfl|(simp only[List.length_set];first|omega|(refine⟨?_,?_⟩<;>omega)|(refine⟨?_,?_,?_⟩<;>omega))|(intro hg;(try simp only[bB]at hg);first|omega|(refine⟨?_,?_⟩<;>omega)|(refine⟨?_,?_,?_⟩<;>first|omega|(show _<_;(try simp only[List.length_set]);omega)|exact leT rfl))|(refine⟨?_,?_⟩<;>omega)|(refine⟨?_,?_,?_⟩<;>first|omega|(show _<_;(try simp only[List.length_set]);omega)|exact leT rfl)|(simp only[show rI.d=(0:Int)from rfl];omega));done));(conv=>whnf))))
      refine EvRet.ret (fun _ => ?_)
      rw [holdsB'_f.2 (fun hh => by
        have := hh.2.2 (F + k) (by omega) (by omega)
        omega)]
      rfl
    · simp only [Bool.or_eq_false_iff, decide_eq_false_iff_not] at g3
      have g4 : ¬ vs.getD (F + k) 0 < x.lo ∧ ¬ x.hi < vs.getD (F + k) 0 := g3
      ((conv=>whnf);(repeat(refine And.intro ?_ ?_;(focus((first|omega|exact⟨rfl,True.intro⟩|exact⟨rfl,rfl,True.intro⟩|rfl|(simp only[List.length_set];first|omega|(refine⟨?_,?_⟩<;>omega)|(refine⟨?_,?_,?_⟩<;>omega))|(intro hg;(try simp only[bB]at hg);first|omega|(refine⟨?_,?_⟩<;>omega)|(refine⟨?_,?_,?_⟩<;>first|omega|(show _<_;(try simp only[List.length_set]);omega)|exact leT rfl))|(refine⟨?_,?_⟩<;>omega)|(refine⟨?_,?_,?_⟩<;>first|omega|(show _<_;(try simp only[List.length_set]);omega)|exact leT rfl)|(simp only[show rI.d=(0:Int)from rfl];omega));done));(conv=>whnf))))
      refine LoopI.back (k + 1) ⟨by omega, fun j hj => ?_⟩ (by omega) (Sub.of [] [] rfl ?_)
      · by_cases hjk : j = k
        · subst hjk; omega
        · exact hk2 j (by omega)
      · ((repeat' (refine And.intro ?_ ?_)) <;> first | rfl | exact True.intro | omega)
  · simp only [decide_eq_false_iff_not] at g2
    ((conv=>whnf);(repeat(refine And.intro ?_ ?_;(focus((first|omega|exact⟨rfl,True.intro⟩|exact⟨rfl,rfl,True.intro⟩|rfl|(simp only[List.length_set];first|omega|(refine⟨?_,?_⟩<;>omega)|(refine⟨?_,?_,?_⟩<;>omega))|(intro hg;(try simp only[bB]at hg);first|omega|(refine⟨?_,?_⟩<;>omega)|(refine⟨?_,?_,?_⟩<;>first|omega|(show _<_;(try simp only[List.length_set]);omega)|exact leT rfl))|(refine⟨?_,?_⟩<;>omega)|(refine⟨?_,?_,?_⟩<;>first|omega|(show _<_;(try simp only[List.length_set]);omega)|exact leT rfl)|(simp only[show rI.d=(0:Int)from rfl];omega));done));(conv=>whnf))))
    refine EvRet.ret (fun _ => ?_)
    rw [holdsB'_t.2 ⟨g1.1.1, g1.1.2, fun i hi1 hi2 => by
      have := hk2 (i - F) (by omega)
      rw [show F + (i - F) = i by omega] at this
      exact this⟩]
    rfl

noncomputable def agB (d : Dc) (l : List Cl) (vs : List Int) : Bool := @decide (validCode d = 0 ∧ l.length ≤ 4096 ∧ HistP d l vs) (Classical.propDecidable _)
theorem agB_t {d : Dc} {l : List Cl} {vs : List Int} : agB d l vs = true ↔ (validCode d = 0 ∧ l.length ≤ 4096 ∧ HistP d l vs) := by simp [agB]
theorem agB_f {d : Dc} {l : List Cl} {vs : List Int} : agB d l vs = false ↔ ¬ (validCode d = 0 ∧ l.length ≤ 4096 ∧ HistP d l vs) := by
  rw [← Bool.not_eq_true, agB_t]
theorem agB_ok {d : Dc} {l : List Cl} {vs : List Int} (h : validCode d = 0) (hl : l.length ≤ 4096) : agB d l vs = histB d l vs := by
  cases hh : histB d l vs with
  | true => exact agB_t.2 ⟨h, hl, histB_t.1 hh⟩
  | false => exact agB_f.2 (fun h' => histB_f.1 hh h'.2.2)
set_option maxRecDepth 10000 in
theorem hagrees_s (V v u : Value) (d : Dc) (l : List Cl) (vs : List Int) (w : World) (h : DeclIs w V d) (hI : DcI d) (hv : RowsIn rC w v l) (hu : RowsIn rI w u vs)
    (hvs : ∀ i, -1099511627776 ≤ vs.getD i 0 ∧ vs.getD i 0 ≤ 1099511627776) :
    Con Try.prog 29 #[V, v, u] w (Ret w (.bool (agB d l vs))) := by
  have hD := h
  obtain ⟨nm, A, c, lb, rfl, hnm, hlab, hS⟩ := h
  obtain ⟨A1, c1, rfl, e1, e2⟩ := hv.form
  obtain ⟨A2, c2, rfl, e3, e4⟩ := hu.form
  refine enter tabOk mixed Try.func29 rfl Try.ntmps29 Try.results29 [.a (dcS nm (.v (.slice A lb.length c)) d), .s 0 4 l.length c1, .s 1 1 vs.length c2] (fun n => if n = 0 then A1 else A2) [⟨1, false, 3, 1, c2, .rows Int rI (vs)⟩, ⟨0, false, 62, 4, c1, .rows Cl rC (l)⟩] 2 rfl rfl (.ro (.ro (hp0 _ _ _) _ rfl rfl rfl (ro_rows hv rfl _)) _ rfl rfl rfl (ro_rows hu rfl _)) ?_
  ((conv=>whnf);(repeat(refine And.intro ?_ ?_;(focus((first|omega|exact⟨rfl,True.intro⟩|exact⟨rfl,rfl,True.intro⟩|rfl|(simp only[List.length_set];first|omega|(refine⟨?_,?_⟩<;>omega)|(refine⟨?_,?_,?_⟩<;>omega))|(intro hg;(try simp only[bB]at hg);first|omega|(refine⟨?_,?_⟩<;>omega)|(refine⟨?_,?_,?_⟩<;>first|omega|(show _<_;(try simp only[List.length_set]);omega)|exact leT rfl))|(refine⟨?_,?_⟩<;>omega)|(refine⟨?_,?_,?_⟩<;>first|omega|(show _<_;(try simp only[List.length_set]);omega)|exact leT rfl)|(simp only[show rI.d=(0:Int)from rfl];omega));done));(conv=>whnf))))
  refine EvCall.plain Try.call55 (.v (.int .i64 (validCode d))) rfl (fun ρ W hp => decl_valid_s _ d W (hD.below hp.bel) hI) ?_
  by_cases hvc : validCode d = 0
  case neg =>
    ((conv=>whnf);(repeat(refine And.intro ?_ ?_;(focus((first|omega|exact⟨rfl,True.intro⟩|exact⟨rfl,rfl,True.intro⟩|rfl|(simp only[List.length_set];first|omega|(refine⟨?_,?_⟩<;>omega)|(refine⟨?_,?_,?_⟩<;>omega))|(intro hg;(try simp only[bB]at hg);first|omega|(refine⟨?_,?_⟩<;>omega)|(refine⟨?_,?_,?_⟩<;>first|omega|(show _<_;(try simp only[List.length_set]);omega)|exact leT rfl))|(refine⟨?_,?_⟩<;>omega)|(refine⟨?_,?_,?_⟩<;>first|omega|(show _<_;(try simp only[List.length_set]);omega)|exact leT rfl)|(simp only[show rI.d=(0:Int)from rfl];omega));done));(conv=>whnf))))
    refine EvCallC.off Try.call56 (by simp [hvc]) (.v (.int .i64 0)) rfl ?_
    ((conv=>whnf);(repeat(refine And.intro ?_ ?_;(focus((first|omega|exact⟨rfl,True.intro⟩|exact⟨rfl,rfl,True.intro⟩|rfl|(simp only[List.length_set];first|omega|(refine⟨?_,?_⟩<;>omega)|(refine⟨?_,?_,?_⟩<;>omega))|(intro hg;(try simp only[bB]at hg);first|omega|(refine⟨?_,?_⟩<;>omega)|(refine⟨?_,?_,?_⟩<;>first|omega|(show _<_;(try simp only[List.length_set]);omega)|exact leT rfl))|(refine⟨?_,?_⟩<;>omega)|(refine⟨?_,?_,?_⟩<;>first|omega|(show _<_;(try simp only[List.length_set]);omega)|exact leT rfl)|(simp only[show rI.d=(0:Int)from rfl];omega));done));(conv=>whnf))))
    refine EvIf.pos (by simp [hvc]) ?_
    ((conv=>whnf);(repeat(refine And.intro ?_ ?_;(focus((first|omega|exact⟨rfl,True.intro⟩|exact⟨rfl,rfl,True.intro⟩|rfl|(simp only[List.length_set];first|omega|(refine⟨?_,?_⟩<;>omega)|(refine⟨?_,?_,?_⟩<;>omega))|(intro hg;(try simp only[bB]at hg);first|omega|(refine⟨?_,?_⟩<;>omega)|(refine⟨?_,?_,?_⟩<;>first|omega|(show _<_;(try simp only[List.length_set]);omega)|exact leT rfl))|(refine⟨?_,?_⟩<;>omega)|(refine⟨?_,?_,?_⟩<;>first|omega|(show _<_;(try simp only[List.length_set]);omega)|exact leT rfl)|(simp only[show rI.d=(0:Int)from rfl];omega));done));(conv=>whnf))))
    refine EvRet.ret (fun _ => ?_)
    rw [agB_f.2 (fun h' => hvc h'.1)]
    rfl
  rw [hvc]
  have hbd := valid_bounds hvc
  have hT : DcL d := ⟨by omega, by omega, by omega⟩
  ((conv=>whnf);(repeat(refine And.intro ?_ ?_;(focus((first|omega|exact⟨rfl,True.intro⟩|exact⟨rfl,rfl,True.intro⟩|rfl|(simp only[List.length_set];first|omega|(refine⟨?_,?_⟩<;>omega)|(refine⟨?_,?_,?_⟩<;>omega))|(intro hg;(try simp only[bB]at hg);first|omega|(refine⟨?_,?_⟩<;>omega)|(refine⟨?_,?_,?_⟩<;>first|omega|(show _<_;(try simp only[List.length_set]);omega)|exact leT rfl))|(refine⟨?_,?_⟩<;>omega)|(refine⟨?_,?_,?_⟩<;>first|omega|(show _<_;(try simp only[List.length_set]);omega)|exact leT rfl)|(simp only[show rI.d=(0:Int)from rfl];omega));done));(conv=>whnf))))
  refine EvCallC.plain Try.call56 (.v (.int .i64 (d.last - d.first + 1))) rfl (fun _ ρ W hp => span_s _ _ _ _ d W (by omega) (by omega)) ?_
  ((conv=>whnf);(repeat(refine And.intro ?_ ?_;(focus((first|omega|exact⟨rfl,True.intro⟩|exact⟨rfl,rfl,True.intro⟩|rfl|(simp only[List.length_set];first|omega|(refine⟨?_,?_⟩<;>omega)|(refine⟨?_,?_,?_⟩<;>omega))|(intro hg;(try simp only[bB]at hg);first|omega|(refine⟨?_,?_⟩<;>omega)|(refine⟨?_,?_,?_⟩<;>first|omega|(show _<_;(try simp only[List.length_set]);omega)|exact leT rfl))|(refine⟨?_,?_⟩<;>omega)|(refine⟨?_,?_,?_⟩<;>first|omega|(show _<_;(try simp only[List.length_set]);omega)|exact leT rfl)|(simp only[show rI.d=(0:Int)from rfl];omega));done));(conv=>whnf))))
  refine EvIf.split (fun g1 => ?_) (fun g1 => ?_)
  · simp only [Bool.or_eq_true, Bool.not_eq_true', decide_eq_false_iff_not, decide_eq_true_eq] at g1
    ((conv=>whnf);(repeat(refine And.intro ?_ ?_;(focus((first|omega|exact⟨rfl,True.intro⟩|exact⟨rfl,rfl,True.intro⟩|rfl|(simp only[List.length_set];first|omega|(refine⟨?_,?_⟩<;>omega)|(refine⟨?_,?_,?_⟩<;>omega))|(intro hg;(try simp only[bB]at hg);first|omega|(refine⟨?_,?_⟩<;>omega)|(refine⟨?_,?_,?_⟩<;>first|omega|(show _<_;(try simp only[List.length_set]);omega)|exact leT rfl))|(refine⟨?_,?_⟩<;>omega)|(refine⟨?_,?_,?_⟩<;>first|omega|(show _<_;(try simp only[List.length_set]);omega)|exact leT rfl)|(simp only[show rI.d=(0:Int)from rfl];omega));done));(conv=>whnf))))
    refine EvRet.ret (fun _ => ?_)
    rw [agB_f.2 (fun hh => by have h1 := hh.2.1; have h2 := hh.2.2.1; simp at g1; omega)]
    rfl
  have hlen : l.length ≤ 4096 ∧ (vs.length : Int) = d.last - d.first + 1 := by simp at g1; omega
  rw [agB_ok hvc hlen.1]
  ((conv=>whnf);(repeat(refine And.intro ?_ ?_;(focus((first|omega|exact⟨rfl,True.intro⟩|exact⟨rfl,rfl,True.intro⟩|rfl|(simp only[List.length_set];first|omega|(refine⟨?_,?_⟩<;>omega)|(refine⟨?_,?_,?_⟩<;>omega))|(intro hg;(try simp only[bB]at hg);first|omega|(refine⟨?_,?_⟩<;>omega)|(refine⟨?_,?_,?_⟩<;>first|omega|(show _<_;(try simp only[List.length_set]);omega)|exact leT rfl))|(refine⟨?_,?_⟩<;>omega)|(refine⟨?_,?_,?_⟩<;>first|omega|(show _<_;(try simp only[List.length_set]);omega)|exact leT rfl)|(simp only[show rI.d=(0:Int)from rfl];omega));done));(conv=>whnf))))
  refine EvLoop.inv (α := Nat) (fun k => k ≤ vs.length ∧ ∀ i : Nat, i < k → (d.lo ≤ vs.getD i 0 ∧ vs.getD i 0 ≤ d.hi) ∧ (0 < i → d.down ≤ vs.getD i 0 - vs.getD (i - 1) 0 ∧ vs.getD i 0 - vs.getD (i - 1) 0 ≤ d.up)) (fun k => vs.length - k)
    (fun k => [(28, [], .v (.int .i64 ((k : Int)))), (27, [], .v (.int .i64 ((vs.length : Int)))), (26, [], .s 1 1 vs.length c2), (1, [], .s 0 4 l.length c1), (2, [], .s 1 1 vs.length c2), (3, [], .p 2 0)])
    (fun k => [⟨2, true, 27, 12, 1, .cs (dcS nm (.v (.slice A lb.length c)) d)⟩, ⟨1, false, 3, 1, c2, .rows Int rI vs⟩, ⟨0, false, 62, 4, c1, .rows Cl rC l⟩]) 3 0 ⟨by omega, fun i hi => by omega⟩ (Sub.of [] [] rfl ?_) ?_
  · ((repeat' (refine And.intro ?_ ?_)) <;> first | rfl | exact True.intro | omega)
  intro k ⟨hk, hk2⟩
  have b1 : -1099511627776 ≤ vs.getD (k : Int).toNat rI.d ∧ vs.getD (k : Int).toNat rI.d ≤ 1099511627776 := hvs k
  have b2 : -1099511627776 ≤ vs.getD ((k : Int) - 1).toNat rI.d ∧ vs.getD ((k : Int) - 1).toNat rI.d ≤ 1099511627776 := hvs ((k : Int) - 1).toNat
  have b3 : ((k : Int) - 1).toNat = k - 1 := by omega
  ((conv=>whnf);(repeat(refine And.intro ?_ ?_;(focus((first|omega|exact⟨rfl,True.intro⟩|exact⟨rfl,rfl,True.intro⟩|rfl|(simp only[List.length_set];first|omega|(refine⟨?_,?_⟩<;>omega)|(refine⟨?_,?_,?_⟩<;>omega))|(intro hg;(try simp only[bB]at hg);first|omega|(refine⟨?_,?_⟩<;>omega)|(refine⟨?_,?_,?_⟩<;>first|omega|(show _<_;(try simp only[List.length_set]);omega)|exact leT rfl))|(refine⟨?_,?_⟩<;>omega)|(refine⟨?_,?_,?_⟩<;>first|omega|(show _<_;(try simp only[List.length_set]);omega)|exact leT rfl)|(simp only[show rI.d=(0:Int)from rfl];omega));done));(conv=>whnf))))
  refine EvIf.split (fun g2 => ?_) (fun g2 => ?_)
  · simp only [decide_eq_true_eq] at g2
    ((conv=>whnf);(repeat(refine And.intro ?_ ?_;(focus((first|omega|exact⟨rfl,True.intro⟩|exact⟨rfl,rfl,True.intro⟩|rfl|(simp only[List.length_set];first|omega|(refine⟨?_,?_⟩<;>omega)|(refine⟨?_,?_,?_⟩<;>omega))|(intro hg;(try simp only[bB]at hg);first|omega|(refine⟨?_,?_⟩<;>omega)|(refine⟨?_,?_,?_⟩<;>first|omega|(show _<_;(try simp only[List.length_set]);omega)|exact leT rfl))|(refine⟨?_,?_⟩<;>omega)|(refine⟨?_,?_,?_⟩<;>first|omega|(show _<_;(try simp only[List.length_set]);omega)|exact leT rfl)|(simp only[show rI.d=(0:Int)from rfl];omega));done));(conv=>whnf))))
    refine EvIf.split (fun g3 => ?_) (fun g3 => ?_)
    · simp only [Bool.or_eq_true, decide_eq_true_eq] at g3
      have g4 : vs.getD k 0 < d.lo ∨ d.hi < vs.getD k 0 := g3
      ((conv=>whnf);(repeat(refine And.intro ?_ ?_;(focus((first|omega|exact⟨rfl,True.intro⟩|exact⟨rfl,rfl,True.intro⟩|rfl|(simp only[List.length_set];first|omega|(refine⟨?_,?_⟩<;>omega)|(refine⟨?_,?_,?_⟩<;>omega))|(intro hg;(try simp only[bB]at hg);first|omega|(refine⟨?_,?_⟩<;>omega)|(refine⟨?_,?_,?_⟩<;>first|omega|(show _<_;(try simp only[List.length_set]);omega)|exact leT rfl))|(refine⟨?_,?_⟩<;>omega)|(refine⟨?_,?_,?_⟩<;>first|omega|(show _<_;(try simp only[List.length_set]);omega)|exact leT rfl)|(simp only[show rI.d=(0:Int)from rfl];omega));done));(conv=>whnf))))
      refine EvRet.ret (fun _ => ?_)
      rw [histB_f.2 (fun hh => by have := hh.2.1 k (by omega); omega)]
      rfl
    simp only [Bool.or_eq_false_iff, decide_eq_false_iff_not] at g3
    have g4 : ¬ vs.getD k 0 < d.lo ∧ ¬ d.hi < vs.getD k 0 := g3
    ((conv=>whnf);(repeat(refine And.intro ?_ ?_;(focus((first|omega|exact⟨rfl,True.intro⟩|exact⟨rfl,rfl,True.intro⟩|rfl|(simp only[List.length_set];first|omega|(refine⟨?_,?_⟩<;>omega)|(refine⟨?_,?_,?_⟩<;>omega))|(intro hg;(try simp only[bB]at hg);first|omega|(refine⟨?_,?_⟩<;>omega)|(refine⟨?_,?_,?_⟩<;>first|omega|(show _<_;(try simp only[List.length_set]);omega)|exact leT rfl))|(refine⟨?_,?_⟩<;>omega)|(refine⟨?_,?_,?_⟩<;>first|omega|(show _<_;(try simp only[List.length_set]);omega)|exact leT rfl)|(simp only[show rI.d=(0:Int)from rfl];omega));done));(conv=>whnf))))
    (refine EvDraw.one (.q 0 (.q 1 (.q 2 (.q 3 (.q 4 (.q 5 (.q 6 (.q 7 (.q 8 (.q 9 (.q 10 (.q 11 (.q 12 (.q 13 (.q 14 (.q 15 (.q 16 (.q 17 (.q 18 (.q 19 (.q 20 (.q 21 (.q 22 (.q 23 (.q 24 (.q 25 (.z))))))))))))))))))))))))))) (by kernel_rfl) ?_)
    ((conv=>whnf);(repeat(refine And.intro ?_ ?_;(focus((first|omega|exact⟨rfl,True.intro⟩|exact⟨rfl,rfl,True.intro⟩|rfl|(simp only[List.length_set];first|omega|(refine⟨?_,?_⟩<;>omega)|(refine⟨?_,?_,?_⟩<;>omega))|(intro hg;(try simp only[bB]at hg);first|omega|(refine⟨?_,?_⟩<;>omega)|(refine⟨?_,?_,?_⟩<;>first|omega|(show _<_;(try simp only[List.length_set]);omega)|exact leT rfl))|(refine⟨?_,?_⟩<;>omega)|(refine⟨?_,?_,?_⟩<;>first|omega|(show _<_;(try simp only[List.length_set]);omega)|exact leT rfl)|(simp only[show rI.d=(0:Int)from rfl];omega));done));(conv=>whnf))))
    refine EvIf.split (fun g5 => ?_) (fun g5 => ?_)
    · simp only [Bool.or_eq_true, Bool.and_eq_true, decide_eq_true_eq] at g5
      ((conv=>whnf);(repeat(refine And.intro ?_ ?_;(focus((first|omega|exact⟨rfl,True.intro⟩|exact⟨rfl,rfl,True.intro⟩|rfl|(simp only[List.length_set];first|omega|(refine⟨?_,?_⟩<;>omega)|(refine⟨?_,?_,?_⟩<;>omega))|(intro hg;(try simp only[bB]at hg);first|omega|(refine⟨?_,?_⟩<;>omega)|(refine⟨?_,?_,?_⟩<;>first|omega|(show _<_;(try simp only[List.length_set]);omega)|exact leT rfl))|(refine⟨?_,?_⟩<;>omega)|(refine⟨?_,?_,?_⟩<;>first|omega|(show _<_;(try simp only[List.length_set]);omega)|exact leT rfl)|(simp only[show rI.d=(0:Int)from rfl];omega));done));(conv=>whnf))))
      refine EvRet.ret (fun _ => ?_)
      rw [histB_f.2 (fun hh => by
        have h1 := (hh.2.1 k (by omega)).2 (by omega)
        have g6 : (0 : Int) < k ∧ (vs.getD k 0 - vs.getD ((k : Int) - 1).toNat 0 < d.down ∨ d.up < vs.getD k 0 - vs.getD ((k : Int) - 1).toNat 0) := g5
        rw [b3] at g6
        omega)]
      rfl
    · simp only [Bool.or_eq_false_iff, Bool.and_eq_false_iff, decide_eq_false_iff_not] at g5
      have g6 : ¬ (0 : Int) < k ∨ (¬ vs.getD k 0 - vs.getD ((k : Int) - 1).toNat 0 < d.down ∧ ¬ d.up < vs.getD k 0 - vs.getD ((k : Int) - 1).toNat 0) := g5
      rw [b3] at g6
      ((conv=>whnf);(repeat(refine And.intro ?_ ?_;(focus((first|omega|exact⟨rfl,True.intro⟩|exact⟨rfl,rfl,True.intro⟩|rfl|(simp only[List.length_set];first|omega|(refine⟨?_,?_⟩<;>omega)|(refine⟨?_,?_,?_⟩<;>omega))|(intro hg;(try simp only[bB]at hg);first|omega|(refine⟨?_,?_⟩<;>omega)|(refine⟨?_,?_,?_⟩<;>first|omega|(show _<_;(try simp only[List.length_set]);omega)|exact leT rfl))|(refine⟨?_,?_⟩<;>omega)|(refine⟨?_,?_,?_⟩<;>first|omega|(show _<_;(try simp only[List.length_set]);omega)|exact leT rfl)|(simp only[show rI.d=(0:Int)from rfl];omega));done));(conv=>whnf))))
      refine LoopI.back (k + 1) ⟨by omega, fun i hi => ?_⟩ (by omega) (Sub.of [] [] rfl ?_)
      · by_cases hik : i = k
        · subst hik
          exact ⟨by omega, fun h0 => by omega⟩
        · exact hk2 i (by omega)
      · ((repeat' (refine And.intro ?_ ?_)) <;> first | rfl | exact True.intro | omega)
  simp only [decide_eq_false_iff_not] at g2
  have hk3 : k = vs.length := by omega
  subst hk3
  ((conv=>whnf);(repeat(refine And.intro ?_ ?_;(focus((first|omega|exact⟨rfl,True.intro⟩|exact⟨rfl,rfl,True.intro⟩|rfl|(simp only[List.length_set];first|omega|(refine⟨?_,?_⟩<;>omega)|(refine⟨?_,?_,?_⟩<;>omega))|(intro hg;(try simp only[bB]at hg);first|omega|(refine⟨?_,?_⟩<;>omega)|(refine⟨?_,?_,?_⟩<;>first|omega|(show _<_;(try simp only[List.length_set]);omega)|exact leT rfl))|(refine⟨?_,?_⟩<;>omega)|(refine⟨?_,?_,?_⟩<;>first|omega|(show _<_;(try simp only[List.length_set]);omega)|exact leT rfl)|(simp only[show rI.d=(0:Int)from rfl];omega));done));(conv=>whnf))))
  refine EvLoop.inv (α := Nat) (fun j => j ≤ l.length ∧ ∀ i, i < j → HoldsP d (l.getD i cl0) vs) (fun j => l.length - j)
    (fun j => [(72, [], .v (.int .i64 ((j : Int)))), (71, [], .v (.int .i64 ((l.length : Int)))), (70, [], .s 0 4 l.length c1), (2, [], .s 1 1 vs.length c2), (3, [], .p 2 0)])
    (fun j => [⟨2, true, 27, 12, 1, .cs (dcS nm (.v (.slice A lb.length c)) d)⟩, ⟨1, false, 3, 1, c2, .rows Int rI vs⟩, ⟨0, false, 62, 4, c1, .rows Cl rC l⟩]) 3 0 ⟨by omega, fun i hi => by omega⟩ (Sub.of [] [] rfl ?_) ?_
  · ((repeat' (refine And.intro ?_ ?_)) <;> first | rfl | exact True.intro | omega)
  intro j ⟨hj, hj2⟩
  ((conv=>whnf);(repeat(refine And.intro ?_ ?_;(focus((first|omega|exact⟨rfl,True.intro⟩|exact⟨rfl,rfl,True.intro⟩|rfl|(simp only[List.length_set];first|omega|(refine⟨?_,?_⟩<;>omega)|(refine⟨?_,?_,?_⟩<;>omega))|(intro hg;(try simp only[bB]at hg);first|omega|(refine⟨?_,?_⟩<;>omega)|(refine⟨?_,?_,?_⟩<;>first|omega|(show _<_;(try simp only[List.length_set]);omega)|exact leT rfl))|(refine⟨?_,?_⟩<;>omega)|(refine⟨?_,?_,?_⟩<;>first|omega|(show _<_;(try simp only[List.length_set]);omega)|exact leT rfl)|(simp only[show rI.d=(0:Int)from rfl];omega));done));(conv=>whnf))))
  refine EvIf.split (fun g3 => ?_) (fun g3 => ?_)
  · simp only [decide_eq_true_eq] at g3
    have hm : l.getD j cl0 ∈ l := by rw [List.getD_eq_getElem?_getD, List.getElem?_eq_getElem (by omega)]; exact List.getElem_mem _
    ((conv=>whnf);(repeat(refine And.intro ?_ ?_;(focus((first|omega|exact⟨rfl,True.intro⟩|exact⟨rfl,rfl,True.intro⟩|rfl|(simp only[List.length_set];first|omega|(refine⟨?_,?_⟩<;>omega)|(refine⟨?_,?_,?_⟩<;>omega))|(intro hg;(try simp only[bB]at hg);first|omega|(refine⟨?_,?_⟩<;>omega)|(refine⟨?_,?_,?_⟩<;>first|omega|(show _<_;(try simp only[List.length_set]);omega)|exact leT rfl))|(refine⟨?_,?_⟩<;>omega)|(refine⟨?_,?_,?_⟩<;>first|omega|(show _<_;(try simp only[List.length_set]);omega)|exact leT rfl)|(simp only[show rI.d=(0:Int)from rfl];omega));done));(conv=>whnf))))
    refine EvCall.plain Try.call57 (.v (.bool (holdsB' d (l.getD j cl0) vs))) rfl (fun ρ W hp => holdsG_s nm A lb.length c d (l.getD j cl0) _ vs W hT (hp.rowsIn (R := rI) (n := 1) (c := c2) (xs := vs) rfl (by decide) e3 e4 1)) ?_
    ((conv=>whnf);(repeat(refine And.intro ?_ ?_;(focus((first|omega|exact⟨rfl,True.intro⟩|exact⟨rfl,rfl,True.intro⟩|rfl|(simp only[List.length_set];first|omega|(refine⟨?_,?_⟩<;>omega)|(refine⟨?_,?_,?_⟩<;>omega))|(intro hg;(try simp only[bB]at hg);first|omega|(refine⟨?_,?_⟩<;>omega)|(refine⟨?_,?_,?_⟩<;>first|omega|(show _<_;(try simp only[List.length_set]);omega)|exact leT rfl))|(refine⟨?_,?_⟩<;>omega)|(refine⟨?_,?_,?_⟩<;>first|omega|(show _<_;(try simp only[List.length_set]);omega)|exact leT rfl)|(simp only[show rI.d=(0:Int)from rfl];omega));done));(conv=>whnf))))
    refine EvIf.split (fun g4 => ?_) (fun g4 => ?_)
    · simp only [Bool.not_eq_true'] at g4
      ((conv=>whnf);(repeat(refine And.intro ?_ ?_;(focus((first|omega|exact⟨rfl,True.intro⟩|exact⟨rfl,rfl,True.intro⟩|rfl|(simp only[List.length_set];first|omega|(refine⟨?_,?_⟩<;>omega)|(refine⟨?_,?_,?_⟩<;>omega))|(intro hg;(try simp only[bB]at hg);first|omega|(refine⟨?_,?_⟩<;>omega)|(refine⟨?_,?_,?_⟩<;>first|omega|(show _<_;(try simp only[List.length_set]);omega)|exact leT rfl))|(refine⟨?_,?_⟩<;>omega)|(refine⟨?_,?_,?_⟩<;>first|omega|(show _<_;(try simp only[List.length_set]);omega)|exact leT rfl)|(simp only[show rI.d=(0:Int)from rfl];omega));done));(conv=>whnf))))
      refine EvRet.ret (fun _ => ?_)
      rw [histB_f.2 (fun hh => (holdsB'_f.1 g4) (hh.2.2 _ hm))]
      rfl
    · simp only [Bool.not_eq_false'] at g4
      ((conv=>whnf);(repeat(refine And.intro ?_ ?_;(focus((first|omega|exact⟨rfl,True.intro⟩|exact⟨rfl,rfl,True.intro⟩|rfl|(simp only[List.length_set];first|omega|(refine⟨?_,?_⟩<;>omega)|(refine⟨?_,?_,?_⟩<;>omega))|(intro hg;(try simp only[bB]at hg);first|omega|(refine⟨?_,?_⟩<;>omega)|(refine⟨?_,?_,?_⟩<;>first|omega|(show _<_;(try simp only[List.length_set]);omega)|exact leT rfl))|(refine⟨?_,?_⟩<;>omega)|(refine⟨?_,?_,?_⟩<;>first|omega|(show _<_;(try simp only[List.length_set]);omega)|exact leT rfl)|(simp only[show rI.d=(0:Int)from rfl];omega));done));(conv=>whnf))))
      refine LoopI.back (j + 1) ⟨by omega, fun i hi => ?_⟩ (by omega) (Sub.of [] [] rfl ?_)
      · by_cases hij : i = j
        · subst hij
          exact holdsB'_t.1 g4
        · exact hj2 i (by omega)
      · ((repeat' (refine And.intro ?_ ?_)) <;> first | rfl | exact True.intro | omega)
  · simp only [decide_eq_false_iff_not] at g3
    have hfin : histB d l vs = true := histB_t.2 ⟨hlen.2, hk2, fun x hx => by
      obtain ⟨i, hi, rfl⟩ := List.getElem_of_mem hx
      have := hj2 i (by omega)
      rwa [List.getD_eq_getElem?_getD, List.getElem?_eq_getElem hi] at this⟩
    ((conv=>whnf);(repeat(refine And.intro ?_ ?_;(focus((first|omega|exact⟨rfl,True.intro⟩|exact⟨rfl,rfl,True.intro⟩|rfl|(simp only[List.length_set];first|omega|(refine⟨?_,?_⟩<;>omega)|(refine⟨?_,?_,?_⟩<;>omega))|(intro hg;(try simp only[bB]at hg);first|omega|(refine⟨?_,?_⟩<;>omega)|(refine⟨?_,?_,?_⟩<;>first|omega|(show _<_;(try simp only[List.length_set]);omega)|exact leT rfl))|(refine⟨?_,?_⟩<;>omega)|(refine⟨?_,?_,?_⟩<;>first|omega|(show _<_;(try simp only[List.length_set]);omega)|exact leT rfl)|(simp only[show rI.d=(0:Int)from rfl];omega));done));(conv=>whnf))))
    refine EvRet.ret (fun _ => ?_)
    rw [hfin]
    rfl
theorem u64_rng (z : Int) : 0 ≤ IntKind.u64.wrap z ∧ IntKind.u64.wrap z < 18446744073709551616 := by
  simp only [IntKind.wrap, IntKind.bits, IntKind.signed]
  simp
  omega
theorem mixV_rng (s x : Int) : 0 ≤ mixV s x ∧ mixV s x < 18446744073709551616 := u64_rng _
theorem sumV_rng (s : ByteArray) (ws : List Int) : 0 ≤ sumV s ws ∧ sumV s ws < 18446744073709551616 := mixV_rng _ _
theorem sum_s (s : ByteArray) (v : Value) (ws : List Int) (w : World) (hs : s.size ≤ 1000000) (hv : RowsIn rI w v ws) (h0 : 0 < ws.length) (hl : ws.length ≤ 1000000) :
    Con Try.prog 54 #[.string s, v] w (Ret w (.int .u64 (sumV s ws))) := by
  obtain ⟨A, c, rfl, h1, h2, h3, h4⟩ := hv
  obtain ⟨b, off, rfl, hb, hc⟩ := h4 h0
  exact ⟨sum_any s hs b off c ws w hb (fun k x hx => hc k _ (by
    have e : rowC rI ws = ws.map (Value.int .i64) := cells_ints (fun _ => none) ws
    rw [e, List.getElem?_map, hx]
    rfl)) hl⟩
def sHist : ByteArray := ⟨#[104, 105, 115, 116, 111, 114, 121]⟩
def rdG (d : Dc) (seed : Int) (i : Nat) : Int := sumV sHist [seed, d.first + (i : Int)]
/-- What Random returns. -/
noncomputable def rdR (d : Dc) (l : List Cl) (seed : Int) : List Int × Int :=
  if (newR d l).2 ≠ 0 then ([], (newR d l).2) else (rndL d (fun i => (rLoL d l (spanN d)).getD i 0) (fun i => (rHiL d l (spanN d)).getD i 0) (rdG d seed) (spanN d), 0)
set_option maxRecDepth 20000 in
theorem hrandom_s (V v : Value) (d : Dc) (l : List Cl) (seed : Int) (w : World) (h : DeclIs w V d) (hI : DcI d) (hvc : validCode d = 0) (hll : l.length ≤ 4096) (hlv : ∀ c ∈ l, validB d c = true) (hv : RowsIn rC w v l) :
    Con Try.prog 27 #[V, v, .int .i64 seed] w (RetRowsE rI 3 w (rdR d l seed).1 (rdR d l seed).2) := by
  have hD := h
  obtain ⟨nm, A, c, lb, rfl, hnm, hlab, hS⟩ := h
  obtain ⟨A1, c1, rfl, e1, e2⟩ := hv.form
  have hbd := valid_bounds hvc
  have hsp : (spanN d : Int) = d.last - d.first + 1 := by unfold spanN; omega
  refine enter tabOk mixed Try.func27 rfl Try.ntmps27 Try.results27 [.a (dcS nm (.v (.slice A lb.length c)) d), .s 0 4 l.length c1, .v (.int .i64 seed)] (fun _ => A1) [⟨0, false, 62, 4, c1, .rows Cl rC (l)⟩] 1 rfl rfl (.ro (hp0 _ _ _) _ rfl rfl rfl (ro_rows hv rfl _)) ?_
  ((conv=>whnf);(repeat(refine And.intro ?_ ?_;(focus((first|omega|exact⟨rfl,True.intro⟩|exact⟨rfl,rfl,True.intro⟩|rfl|(simp only[List.length_set];first|omega|(refine⟨?_,?_⟩<;>omega)|(refine⟨?_,?_,?_⟩<;>omega))|(intro hg;(try simp only[bB]at hg);first|omega|(refine⟨?_,?_⟩<;>omega)|(refine⟨?_,?_,?_⟩<;>first|omega|(show _<_;(try simp only[List.length_set]);omega)|exact leT rfl))|(refine⟨?_,?_⟩<;>omega)|(refine⟨?_,?_,?_⟩<;>first|omega|(show _<_;(try simp only[List.length_set]);omega)|exact leT rfl)|(simp only[show rI.d=(0:Int)from rfl];omega));done));(conv=>whnf))))
  rcases two_ok hvc hll hlv with ⟨hok, hN⟩ | ⟨hno, hN⟩
  case inr =>
    have hr : rdR d l seed = ([], 13) := by rw [rdR, hN, if_pos (by simp)]
    rw [hr]
    refine EvCall.two (ty := 3) (xs := []) (ys := []) (envES 0 13) (envES_den _ _) (envES_lt _ _) Try.call14 (fun ρ W hp => by
      have := new_s _ _ d l W (hD.below hp.bel) hI (hp.rowsIn (R := rC) (n := 0) (c := c1) rfl (by decide) e1 e2 4)
      rw [hN] at this
      exact this) (fun p1 p2 q1 q2 q3 q4 => ?_)
    ((conv=>whnf);(repeat(refine And.intro ?_ ?_;(focus((first|omega|exact⟨rfl,True.intro⟩|exact⟨rfl,rfl,True.intro⟩|rfl|(simp only[List.length_set];first|omega|(refine⟨?_,?_⟩<;>omega)|(refine⟨?_,?_,?_⟩<;>omega))|(intro hg;(try simp only[bB]at hg);first|omega|(refine⟨?_,?_⟩<;>omega)|(refine⟨?_,?_,?_⟩<;>first|omega|(show _<_;(try simp only[List.length_set]);omega)|exact leT rfl))|(refine⟨?_,?_⟩<;>omega)|(refine⟨?_,?_,?_⟩<;>first|omega|(show _<_;(try simp only[List.length_set]);omega)|exact leT rfl)|(simp only[show rI.d=(0:Int)from rfl];omega));done));(conv=>whnf))))
    refine EvIf.pos rfl ?_
    ((conv=>whnf);(repeat(refine And.intro ?_ ?_;(focus((first|omega|exact⟨rfl,True.intro⟩|exact⟨rfl,rfl,True.intro⟩|rfl|(simp only[List.length_set];first|omega|(refine⟨?_,?_⟩<;>omega)|(refine⟨?_,?_,?_⟩<;>omega))|(intro hg;(try simp only[bB]at hg);first|omega|(refine⟨?_,?_⟩<;>omega)|(refine⟨?_,?_,?_⟩<;>first|omega|(show _<_;(try simp only[List.length_set]);omega)|exact leT rfl))|(refine⟨?_,?_⟩<;>omega)|(refine⟨?_,?_,?_⟩<;>first|omega|(show _<_;(try simp only[List.length_set]);omega)|exact leT rfl)|(simp only[show rI.d=(0:Int)from rfl];omega));done));(conv=>whnf))))
    exact EvRet.rowsE_nil rfl rfl
  have hr : rdR d l seed = (rndL d (fun i => (rLoL d l (spanN d)).getD i 0) (fun i => (rHiL d l (spanN d)).getD i 0) (rdG d seed) (spanN d), 0) := by rw [rdR, hN, if_neg (by simp)]
  rw [hr]
  have hl1 := rLoL_len d l (spanN d)
  have hl2 := rHiL_len d l (spanN d)
  obtain ⟨hL, hH⟩ := rL_hist hvc hlv hsp hok
  have hcb : ∀ i, (-1099511627776 ≤ (rLoL d l (spanN d)).getD i 0 ∧ (rLoL d l (spanN d)).getD i 0 ≤ 1099511627776) ∧ -1099511627776 ≤ (rHiL d l (spanN d)).getD i 0 ∧ (rHiL d l (spanN d)).getD i 0 ≤ 1099511627776 := fun i => ⟨hist_bd5 hvc hL i, hist_bd5 hvc hH i⟩
  obtain ⟨hRH, hXY⟩ := rnd_hist (rdG d seed) hvc hlv hsp hok
  have hRb := hist_bd5 hvc hRH
  refine EvCall.two (ty := 3) (xs := rLoL d l (spanN d)) (ys := rHiL d l (spanN d)) (envES d.first 0) (envES_den _ _) (envES_lt _ _) Try.call14 (fun ρ W hp => by
    have := new_s _ _ d l W (hD.below hp.bel) hI (hp.rowsIn (R := rC) (n := 0) (c := c1) rfl (by decide) e1 e2 4)
    rw [hN] at this
    exact this) (fun p1 p2 q1 q2 q3 q4 => ?_)
  clear hRH hL hH hr hN hok
  generalize rLoL d l (spanN d) = lo at *
  generalize rHiL d l (spanN d) = hi at *
  generalize spanN d = n at *
  ((conv=>whnf);(repeat(refine And.intro ?_ ?_;(focus((first|omega|exact⟨rfl,True.intro⟩|exact⟨rfl,rfl,True.intro⟩|rfl|(simp only[List.length_set];first|omega|(refine⟨?_,?_⟩<;>omega)|(refine⟨?_,?_,?_⟩<;>omega))|(intro hg;(try simp only[bB]at hg);first|omega|(refine⟨?_,?_⟩<;>omega)|(refine⟨?_,?_,?_⟩<;>first|omega|(show _<_;(try simp only[List.length_set]);omega)|exact leT rfl))|(refine⟨?_,?_⟩<;>omega)|(refine⟨?_,?_,?_⟩<;>first|omega|(show _<_;(try simp only[List.length_set]);omega)|exact leT rfl)|(simp only[show rI.d=(0:Int)from rfl];omega));done));(conv=>whnf))))
  refine EvIf.neg rfl ?_
  ((conv=>whnf);(repeat(refine And.intro ?_ ?_;(focus((first|omega|exact⟨rfl,True.intro⟩|exact⟨rfl,rfl,True.intro⟩|rfl|(simp only[List.length_set];first|omega|(refine⟨?_,?_⟩<;>omega)|(refine⟨?_,?_,?_⟩<;>omega))|(intro hg;(try simp only[bB]at hg);first|omega|(refine⟨?_,?_⟩<;>omega)|(refine⟨?_,?_,?_⟩<;>first|omega|(show _<_;(try simp only[List.length_set]);omega)|exact leT rfl))|(refine⟨?_,?_⟩<;>omega)|(refine⟨?_,?_,?_⟩<;>first|omega|(show _<_;(try simp only[List.length_set]);omega)|exact leT rfl)|(simp only[show rI.d=(0:Int)from rfl];omega));done));(conv=>whnf))))
  refine EvMake.full (R := rI) tyok22 rfl tyok3 rfl (by decide) 0 rfl lo.length (by show 8 * lo.length ≤ _; omega) (by omega) ?_
  rw [hl1]
  obtain ⟨F, hF⟩ : ∃ F, F = rndV d (fun i => lo.getD i 0) (fun i => hi.getD i 0) (rdG d seed) := ⟨_, rfl⟩
  rw [mixL_rep F (fun _ => 0) n 0 (fun _ _ => rfl)]
  have hFb : ∀ j, j < n → -1099511627776 ≤ F j ∧ F j ≤ 1099511627776 := fun j hj => by
    have h5 := hRb j
    have e : (rndL d (fun i => lo.getD i 0) (fun i => hi.getD i 0) (rdG d seed) n).getD j 0 = F j := by rw [hF]; exact map_get _ n j hj
    rwa [e] at h5
  ((conv=>whnf);(repeat(refine And.intro ?_ ?_;(focus((first|omega|exact⟨rfl,True.intro⟩|exact⟨rfl,rfl,True.intro⟩|rfl|(simp only[List.length_set];first|omega|(refine⟨?_,?_⟩<;>omega)|(refine⟨?_,?_,?_⟩<;>omega))|(intro hg;(try simp only[bB]at hg);first|omega|(refine⟨?_,?_⟩<;>omega)|(refine⟨?_,?_,?_⟩<;>first|omega|(show _<_;(try simp only[List.length_set]);omega)|exact leT rfl))|(refine⟨?_,?_⟩<;>omega)|(refine⟨?_,?_,?_⟩<;>first|omega|(show _<_;(try simp only[List.length_set]);omega)|exact leT rfl)|(simp only[show rI.d=(0:Int)from rfl];omega));done));(conv=>whnf))))
  refine EvLoop.inv (α := Nat) (fun i => i ≤ n) (fun i => n - i) (fun i => [(29, [], .v (.int .i64 ((i : Int)))), (28, [], .v (.int .i64 ((n : Int)))), (10, [], .s 5 1 n n), (8, [], .p 4 0), (3, [], .p 1 0), (2, [], .v (.int .i64 (seed)))])
    (fun i => [⟨5, true, 3, 1, n, .rows Int rI (mixL F (fun _ => 0) n i)⟩, ⟨4, true, 33, 3, 1, .cs [.v (.int .i64 d.first), .s 2 1 lo.length p1, .s 3 1 hi.length p2]⟩, ⟨3, true, 3, 1, p2, .rows Int rI hi⟩, ⟨2, true, 3, 1, p1, .rows Int rI lo⟩, ⟨1, true, 27, 12, 1, .cs (dcS nm (.v (.slice A lb.length c)) d)⟩]) 6 0 (by omega) (Sub.of [] [] rfl ?_) ?_
  · (repeat' (refine And.intro ?_ ?_)) <;> first | rfl | exact True.intro | omega | exact hl1 | exact hl1.symm
  intro i hi0
  have hlj := mixL_len F (fun _ => 0) n i
  ((conv=>whnf);(repeat(refine And.intro ?_ ?_;(focus((first|omega|exact⟨rfl,True.intro⟩|exact⟨rfl,rfl,True.intro⟩|rfl|(simp only[List.length_set];first|omega|(refine⟨?_,?_⟩<;>omega)|(refine⟨?_,?_,?_⟩<;>omega))|(intro hg;(try simp only[bB]at hg);first|omega|(refine⟨?_,?_⟩<;>omega)|(refine⟨?_,?_,?_⟩<;>first|omega|(show _<_;(try simp only[List.length_set]);omega)|exact leT rfl))|(refine⟨?_,?_⟩<;>omega)|(refine⟨?_,?_,?_⟩<;>first|omega|(show _<_;(try simp only[List.length_set]);omega)|exact leT rfl)|(simp only[show rI.d=(0:Int)from rfl];omega));done));(conv=>whnf))))
  refine EvIf.split (fun g => ?_) (fun g => ?_)
  · simp only [decide_eq_true_eq] at g
    have bi : (-1099511627776 ≤ lo.getD (i : Int).toNat rI.d ∧ lo.getD (i : Int).toNat rI.d ≤ 1099511627776) ∧ -1099511627776 ≤ hi.getD (i : Int).toNat rI.d ∧ hi.getD (i : Int).toNat rI.d ≤ 1099511627776 := hcb i
    have hxy := hXY i (by omega)
    obtain ⟨X, hX⟩ : ∃ X, X = rndX d (fun i => lo.getD i 0) i (prevV d (fun i => lo.getD i 0) (fun i => hi.getD i 0) (rdG d seed) i) := ⟨_, rfl⟩
    obtain ⟨Y, hY⟩ : ∃ Y, Y = rndY d (fun i => hi.getD i 0) i (prevV d (fun i => lo.getD i 0) (fun i => hi.getD i 0) (rdG d seed) i) := ⟨_, rfl⟩
    have hFi : F i = X + rdG d seed i % (Y - X + 1) := by rw [hF, rndV_prev, hX, hY]; rfl
    rw [← hX, ← hY] at hxy
    have hlo : lo.getD (i : Int).toNat rI.d = lo.getD i 0 := rfl
    have hhi : hi.getD (i : Int).toNat rI.d = hi.getD i 0 := rfl
    have hpz : 0 < i → ((mixL F (fun _ => 0) n i).getD ((i : Int) - 1).toNat rI.d = F (i - 1) ∧ prevV d (fun i => lo.getD i 0) (fun i => hi.getD i 0) (rdG d seed) i = F (i - 1)) := fun h0 => by
      constructor
      · rw [show ((i : Int) - 1).toNat = i - 1 by omega, mixL_get _ _ _ _ _ _ (by omega), if_pos (by omega)]
      · unfold prevV
        rw [if_neg (by omega), hF]
    have hXb : -1099512676352 ≤ X ∧ X ≤ 1099512676352 ∧ -1099512676352 ≤ Y ∧ Y ≤ 1099512676352 := by
      by_cases h0 : i = 0
      · rw [hX, hY]
        unfold rndX rndY
        rw [if_pos h0, if_pos h0]
        dsimp only
        omega
      · have h1 := hFb (i - 1) (by omega)
        rw [hX, hY, (hpz (by omega)).2]
        unfold rndX rndY
        rw [if_neg h0, if_neg h0]
        dsimp only
        omega
    have bp : 0 < i → -1099511627776 ≤ (mixL F (fun _ => 0) n i).getD ((i : Int) - 1).toNat rI.d ∧ (mixL F (fun _ => 0) n i).getD ((i : Int) - 1).toNat rI.d ≤ 1099511627776 := fun h0 => by rw [(hpz h0).1]; exact hFb _ (by omega)
    ((conv=>whnf);(repeat(refine And.intro ?_ ?_;(focus((first|omega|exact⟨rfl,True.intro⟩|exact⟨rfl,rfl,True.intro⟩|rfl|(simp only[List.length_set];first|omega|(refine⟨?_,?_⟩<;>omega)|(refine⟨?_,?_,?_⟩<;>omega))|(intro hg;(try simp only[bB]at hg);first|omega|(refine⟨?_,?_⟩<;>omega)|(refine⟨?_,?_,?_⟩<;>first|omega|(show _<_;(try simp only[List.length_set]);omega)|exact leT rfl))|(refine⟨?_,?_⟩<;>omega)|(refine⟨?_,?_,?_⟩<;>first|omega|(show _<_;(try simp only[List.length_set]);omega)|exact leT rfl)|(simp only[show rI.d=(0:Int)from rfl];omega));done));(conv=>whnf))))
    (refine EvDraw.one (.q 0 (.q 1 (.q 2 (.q 3 (.q 4 (.q 5 (.q 6 (.q 7 (.q 8 (.q 9 (.q 10 (.q 11 (.z))))))))))))) (by kernel_rfl) ?_)
    ((conv=>whnf);(repeat(refine And.intro ?_ ?_;(focus((first|omega|exact⟨rfl,True.intro⟩|exact⟨rfl,rfl,True.intro⟩|rfl|(simp only[List.length_set];first|omega|(refine⟨?_,?_⟩<;>omega)|(refine⟨?_,?_,?_⟩<;>omega))|(intro hg;(try simp only[bB]at hg);first|omega|(refine⟨?_,?_⟩<;>omega)|(refine⟨?_,?_,?_⟩<;>first|omega|(show _<_;(try simp only[List.length_set]);omega)|exact leT rfl))|(refine⟨?_,?_⟩<;>omega)|(refine⟨?_,?_,?_⟩<;>first|omega|(show _<_;(try simp only[List.length_set]);omega)|exact leT rfl)|(simp only[show rI.d=(0:Int)from rfl];omega));done));(conv=>whnf))))
    refine EvIf.meet (α := Unit) (fun _ => True) (fun _ => [(29, [], .v (.int .i64 ((i : Int)))), (28, [], .v (.int .i64 ((n : Int)))), (10, [], .s 5 1 n n), (8, [], .p 4 0), (3, [], .p 1 0), (2, [], .v (.int .i64 (seed))), (11, [], .v (.int .i64 ((i : Int)))), (12, [], .v (.int .i64 (X))), (13, [], .v (.int .i64 (Y)))])
      (fun _ => [⟨5, true, 3, 1, n, .rows Int rI (mixL F (fun _ => 0) n i)⟩, ⟨4, true, 33, 3, 1, .cs [.v (.int .i64 d.first), .s 2 1 lo.length p1, .s 3 1 hi.length p2]⟩, ⟨3, true, 3, 1, p2, .rows Int rI hi⟩, ⟨2, true, 3, 1, p1, .rows Int rI lo⟩, ⟨1, true, 27, 12, 1, .cs (dcS nm (.v (.slice A lb.length c)) d)⟩]) 6 (fun g2 => ?_) (fun g2 => ?_) ?_
    · simp only [decide_eq_true_eq] at g2
      have h0 : 0 < i := by omega
      have b2 := bp h0
      have hX2 : X = max (lo.getD (i : Int).toNat rI.d) ((mixL F (fun _ => 0) n i).getD ((i : Int) - 1).toNat rI.d + d.down) := by
        rw [hX, (hpz h0).2, (hpz h0).1]; unfold rndX; rw [if_neg (by omega)]; rfl
      have hY2 : Y = min (hi.getD (i : Int).toNat rI.d) ((mixL F (fun _ => 0) n i).getD ((i : Int) - 1).toNat rI.d + d.up) := by
        rw [hY, (hpz h0).2, (hpz h0).1]; unfold rndY; rw [if_neg (by omega)]; rfl
      ((conv=>whnf);(repeat(refine And.intro ?_ ?_;(focus((first|omega|exact⟨rfl,True.intro⟩|exact⟨rfl,rfl,True.intro⟩|rfl|(simp only[List.length_set];first|omega|(refine⟨?_,?_⟩<;>omega)|(refine⟨?_,?_,?_⟩<;>omega))|(intro hg;(try simp only[bB]at hg);first|omega|(refine⟨?_,?_⟩<;>omega)|(refine⟨?_,?_,?_⟩<;>first|omega|(show _<_;(try simp only[List.length_set]);omega)|exact leT rfl))|(refine⟨?_,?_⟩<;>omega)|(refine⟨?_,?_,?_⟩<;>first|omega|(show _<_;(try simp only[List.length_set]);omega)|exact leT rfl)|(simp only[show rI.d=(0:Int)from rfl];omega));done));(conv=>whnf))))
      (refine EvDraw.one (.q 0 (.q 1 (.q 2 (.q 3 (.q 4 (.q 5 (.q 6 (.q 7 (.q 8 (.q 9 (.q 10 (.q 11 (.q 12 (.q 13 (.q 14 (.q 15 (.q 16 (.q 17 (.q 18 (.q 19 (.q 20 (.q 21 (.z))))))))))))))))))))))) (by kernel_rfl) ?_)
      ((conv=>whnf);(repeat(refine And.intro ?_ ?_;(focus((first|omega|exact⟨rfl,True.intro⟩|exact⟨rfl,rfl,True.intro⟩|rfl|(simp only[List.length_set];first|omega|(refine⟨?_,?_⟩<;>omega)|(refine⟨?_,?_,?_⟩<;>omega))|(intro hg;(try simp only[bB]at hg);first|omega|(refine⟨?_,?_⟩<;>omega)|(refine⟨?_,?_,?_⟩<;>first|omega|(show _<_;(try simp only[List.length_set]);omega)|exact leT rfl))|(refine⟨?_,?_⟩<;>omega)|(refine⟨?_,?_,?_⟩<;>first|omega|(show _<_;(try simp only[List.length_set]);omega)|exact leT rfl)|(simp only[show rI.d=(0:Int)from rfl];omega));done));(conv=>whnf))))
      refine Exists.intro () (And.intro trivial (Sub.of [] [] rfl ?_))
      (repeat' (refine And.intro ?_ ?_)) <;> first | rfl | exact True.intro | exact hX2 | exact hY2 | omega
    · simp only [decide_eq_false_iff_not] at g2
      have h0 : i = 0 := by omega
      have hX2 : X = lo.getD (i : Int).toNat rI.d := by rw [hX]; unfold rndX; rw [if_pos h0]; rfl
      have hY2 : Y = hi.getD (i : Int).toNat rI.d := by rw [hY]; unfold rndY; rw [if_pos h0]; rfl
      ((conv=>whnf);(repeat(refine And.intro ?_ ?_;(focus((first|omega|exact⟨rfl,True.intro⟩|exact⟨rfl,rfl,True.intro⟩|rfl|(simp only[List.length_set];first|omega|(refine⟨?_,?_⟩<;>omega)|(refine⟨?_,?_,?_⟩<;>omega))|(intro hg;(try simp only[bB]at hg);first|omega|(refine⟨?_,?_⟩<;>omega)|(refine⟨?_,?_,?_⟩<;>first|omega|(show _<_;(try simp only[List.length_set]);omega)|exact leT rfl))|(refine⟨?_,?_⟩<;>omega)|(refine⟨?_,?_,?_⟩<;>first|omega|(show _<_;(try simp only[List.length_set]);omega)|exact leT rfl)|(simp only[show rI.d=(0:Int)from rfl];omega));done));(conv=>whnf))))
      refine Exists.intro () (And.intro trivial (Sub.of [] [] rfl ?_))
      (repeat' (refine And.intro ?_ ?_)) <;> first | rfl | exact True.intro | exact hX2 | exact hY2 | omega
    intro _ _
    have hg0 := sumV_rng sHist [seed, d.first + (i : Int)]
    have hwr : IntKind.u64.wrap (Y - X + 1) = Y - X + 1 := u64_in _ (by omega)
    have hmod : (sumV sHist [seed, d.first + (i : Int)]).tmod (Y - X + 1) = rdG d seed i % (Y - X + 1) := Int.tmod_eq_emod_of_nonneg hg0.1
    have hm := mod_in (rdG d seed i) (Y - X) (by omega)
    rw [← hmod] at hm
    have g1 : (mixL F (fun _ => 0) n i).set i (X + (sumV sHist [seed, d.first + (i : Int)]).tmod (Y - X + 1)) = mixL F (fun _ => 0) n (i + 1) := by
      rw [hmod, ← hFi]
      exact mixL_set F _ _ _ (by omega)
    ((conv=>whnf);(repeat(refine And.intro ?_ ?_;(focus((first|omega|exact⟨rfl,True.intro⟩|exact⟨rfl,rfl,True.intro⟩|rfl|(simp only[List.length_set];first|omega|(refine⟨?_,?_⟩<;>omega)|(refine⟨?_,?_,?_⟩<;>omega))|(intro hg;(try simp only[bB]at hg);first|omega|(refine⟨?_,?_⟩<;>omega)|(refine⟨?_,?_,?_⟩<;>first|omega|(show _<_;(try simp only[List.length_set]);omega)|exact leT rfl))|(refine⟨?_,?_⟩<;>omega)|(refine⟨?_,?_,?_⟩<;>first|omega|(show _<_;(try simp only[List.length_set]);omega)|exact leT rfl)|(simp only[show rI.d=(0:Int)from rfl];omega));done));(conv=>whnf))))
    refine EvCall.plain Try.call54 (.v (.int .u64 (sumV sHist [seed, d.first + (i : Int)]))) rfl (fun ρ W hp => sum_s sHist _ [seed, d.first + (i : Int)] W (by decide) (hp.lit (R := rI) (ys := [seed, d.first + (i : Int)]) (n := 6) (sz := 1) (c := 2) rfl (by decide) (by simp) (by omega) rfl) (by simp) (by simp)) ?_
    ((conv=>whnf);(repeat(refine And.intro ?_ ?_;(focus((first|omega|exact⟨rfl,True.intro⟩|exact⟨rfl,rfl,True.intro⟩|rfl|(simp only[List.length_set];first|omega|(refine⟨?_,?_⟩<;>omega)|(refine⟨?_,?_,?_⟩<;>omega))|(intro hg;(try simp only[bB]at hg);first|omega|(refine⟨?_,?_⟩<;>omega)|(refine⟨?_,?_,?_⟩<;>first|omega|(show _<_;(try simp only[List.length_set]);omega)|exact leT rfl))|(refine⟨?_,?_⟩<;>omega)|(refine⟨?_,?_,?_⟩<;>first|omega|(show _<_;(try simp only[List.length_set]);omega)|exact leT rfl)|(simp only[show rI.d=(0:Int)from rfl];omega));done));(conv=>whnf))))
    rw [hwr]
    refine And.intro (by omega) ?_
    ((conv=>whnf);(repeat(refine And.intro ?_ ?_;(focus((first|omega|exact⟨rfl,True.intro⟩|exact⟨rfl,rfl,True.intro⟩|rfl|(simp only[List.length_set];first|omega|(refine⟨?_,?_⟩<;>omega)|(refine⟨?_,?_,?_⟩<;>omega))|(intro hg;(try simp only[bB]at hg);first|omega|(refine⟨?_,?_⟩<;>omega)|(refine⟨?_,?_,?_⟩<;>first|omega|(show _<_;(try simp only[List.length_set]);omega)|exact leT rfl))|(refine⟨?_,?_⟩<;>omega)|(refine⟨?_,?_,?_⟩<;>first|omega|(show _<_;(try simp only[List.length_set]);omega)|exact leT rfl)|(simp only[show rI.d=(0:Int)from rfl];omega));done));(conv=>whnf))))
    refine LoopI.back (i + 1) (by omega) (by omega) (Sub.of [] [] rfl ?_)
    ((repeat' (refine And.intro ?_ ?_)) <;> first | exact congrArg (Ct.rows Int rI) g1 | exact congrArg (Ct.rows Int rI) g1.symm | rfl | exact True.intro | omega)
  · simp only [decide_eq_false_iff_not] at g
    obtain rfl : i = n := by omega
    have hfin : mixL F (fun _ => 0) i i = rndL d (fun i => lo.getD i 0) (fun i => hi.getD i 0) (rdG d seed) i := by rw [mixL_full, hF]; rfl
    ((conv=>whnf);(repeat(refine And.intro ?_ ?_;(focus((first|omega|exact⟨rfl,True.intro⟩|exact⟨rfl,rfl,True.intro⟩|rfl|(simp only[List.length_set];first|omega|(refine⟨?_,?_⟩<;>omega)|(refine⟨?_,?_,?_⟩<;>omega))|(intro hg;(try simp only[bB]at hg);first|omega|(refine⟨?_,?_⟩<;>omega)|(refine⟨?_,?_,?_⟩<;>first|omega|(show _<_;(try simp only[List.length_set]);omega)|exact leT rfl))|(refine⟨?_,?_⟩<;>omega)|(refine⟨?_,?_,?_⟩<;>first|omega|(show _<_;(try simp only[List.length_set]);omega)|exact leT rfl)|(simp only[show rI.d=(0:Int)from rfl];omega));done));(conv=>whnf))))
    exact EvRet.rowsE (R := rI) (by rw [rndL_len]) (by rw [rndL_len]; omega) hfin rfl rfl
end Go.Proofs.Ytpnngbfmmjjnaaa
