
/- Lossy steps: the reference's Cost and the law LossyCost, walked. -/
import Derived.Test.YtpnngbfmmjjnaaaLe
namespace Go.Proofs.Ytpnngbfmmjjnaaa
open Go.RowKit
set_option linter.unusedVariables false
set_option linter.unusedSimpArgs false

def mxM (g : Nat → Int) : Nat → Int
  | 0 => g 0
  | i + 1 => max (mxM g i) (g i)
theorem grM_mx (g : Nat → Int) : ∀ i, grM g (i + 1) = mxM g (i + 1)
  | 0 => by
    have e : grM g (0 + 1) = g 0 := if_pos (.inl rfl)
    rw [e]
    show g 0 = max (g 0) (g 0)
    omega
  | i + 1 => by
    have ih := grM_mx g i
    have e : grM g (i + 1 + 1) = if i + 1 = 0 ∨ grM g (i + 1) < g (i + 1) then g (i + 1) else grM g (i + 1) := rfl
    have e2 : mxM g (i + 1 + 1) = max (mxM g (i + 1)) (g (i + 1)) := rfl
    rw [e, e2, ← ih]
    by_cases h : grM g (i + 1) < g (i + 1)
    · rw [if_pos (.inr h)]; omega
    · rw [if_neg (by omega)]; omega
theorem grM_congr {f g : Nat → Int} (h : ∀ i, f i = g i) : grM f = grM g := by rw [show f = g from funext h]
theorem histL_bd {d : Dc} {l : List Cl} {vs : List Int} (hv : validCode d = 0) (h : HistP d l vs) : ∀ i, -1099511627776 ≤ vs.getD i 0 ∧ vs.getD i 0 ≤ 1099511627776 := by
  intro i
  have hb := valid_bounds hv
  by_cases hi : i < vs.length
  · have := (h.2.1 i hi).1
    omega
  · have e : vs.getD i 0 = 0 := by simp [List.getD_eq_getElem?_getD, Nat.le_of_not_lt hi]
    rw [e]
    omega
/-- What an envelope that stands is like. -/
theorem newR_facts {d : Dc} {l : List Cl} (h : (newR d l).2 = 0) : validCode d = 0 ∧ (newR d l).1.f = d.first ∧ (newR d l).1.lo.length = spanN d ∧ (newR d l).1.hi.length = spanN d ∧ 0 < spanN d ∧
    (∀ i, -1099511627776 ≤ (newR d l).1.lo.getD i 0 ∧ (newR d l).1.lo.getD i 0 ≤ 1099511627776) ∧ ∀ i, -1099511627776 ≤ (newR d l).1.hi.getD i 0 ∧ (newR d l).1.hi.getD i 0 ≤ 1099511627776 := by
  obtain ⟨hv, hn, hl, hok, he⟩ := newR_ok h
  have hbd := valid_bounds hv
  have hsp : (spanN d : Int) = d.last - d.first + 1 := by unfold spanN; omega
  obtain ⟨hL, hH⟩ := rL_hist hv hl hsp hok
  rw [he]
  exact ⟨hv, rfl, rLoL_len .., rHiL_len .., by omega, histL_bd hv hL, histL_bd hv hH⟩
def gW (a b : Env12) (i : Nat) : Int := b.hi.getD i 0 - b.lo.getD i 0 - a.hi.getD i 0 + a.lo.getD i 0
theorem growth_ok {d : Dc} {a b : List Cl} (ha : (newR d a).2 = 0) (hb : (newR d b).2 = 0) : growthR (newR d a).1 (newR d b).1 = (mxM (gW (newR d a).1 (newR d b).1) (spanN d), 0) := by
  obtain ⟨hv, f1, f2, f3, f4, f5, f6⟩ := newR_facts ha
  obtain ⟨_, g1, g2, g3, g4, g5, g6⟩ := newR_facts hb
  have hal : alikeB (newR d a).1 (newR d b).1 = true := by
    simp only [alikeB, f1, f2, f3, g1, g2, g3, decide_true, Bool.and_self]
  rw [growthR, if_pos ⟨hal, by omega⟩, f2, grM_congr (g := gW (newR d a).1 (newR d b).1) (fun i => by
    have q1 := f5 i
    have q2 := f6 i
    have q3 := g5 i
    have q4 := g6 i
    unfold grW gW
    rw [w64_in ((newR d b).1.hi.getD i 0 - (newR d b).1.lo.getD i 0) (by omega), w64_in ((newR d a).1.hi.getD i 0 - (newR d a).1.lo.getD i 0) (by omega), w64_in _ (by omega)]
    omega)]
  obtain ⟨k, hk⟩ : ∃ k, spanN d = k + 1 := ⟨spanN d - 1, by omega⟩
  rw [hk, grM_mx]
theorem mxM_bd {g : Nat → Int} (h : ∀ i, -4398046511104 ≤ g i ∧ g i ≤ 4398046511104) : ∀ i, -4398046511104 ≤ mxM g i ∧ mxM g i ≤ 4398046511104
  | 0 => h 0
  | i + 1 => by have := mxM_bd h i; have := h i; simp only [mxM]; omega
set_option maxRecDepth 10000 in
theorem ref_cost_s (V v1 v2 : Value) (d : Dc) (a b : List Cl) (w : World) (h : DeclIs w V d) (hI : DcI d) (h1 : RowsIn rC w v1 a) (h2 : RowsIn rC w v2 b) :
    Con Try.prog 32 #[V, v1, v2] w (Ret w (.tuple #[.int .i64 (costR d a b).1, .int .i64 (costR d a b).2])) := by
  have hD := h
  obtain ⟨nm, A, c, lb, rfl, hnm, hlab, hSh⟩ := h
  obtain ⟨A1, c1, rfl, e1, e2⟩ := h1.form
  obtain ⟨A2, c2, rfl, e3, e4⟩ := h2.form
  have hfa := newR_facts (d := d) (l := a)
  have hfb := newR_facts (d := d) (l := b)
  have hgr := growth_ok (d := d) (a := a) (b := b)
  refine enter tabOk mixed Try.func32 rfl Try.ntmps32 Try.results32 [.a (dcS nm (.v (.slice A lb.length c)) d), .s 0 4 a.length c1, .s 1 4 b.length c2] (fun n => if n = 0 then A1 else A2) [⟨1, false, 62, 4, c2, .rows Cl rC (b)⟩, ⟨0, false, 62, 4, c1, .rows Cl rC (a)⟩] 2 rfl rfl (.ro (.ro (hp0 _ _ _) _ rfl rfl rfl (ro_rows h1 rfl _)) _ rfl rfl rfl (ro_rows h2 rfl _)) ?_
  ((conv=>whnf);(repeat(refine And.intro ?_ ?_;(focus((first|omega|exact⟨rfl,True.intro⟩|exact⟨rfl,rfl,True.intro⟩|rfl|(simp only[List.length_set];first|omega|(refine⟨?_,?_⟩<;>omega)|(refine⟨?_,?_,?_⟩<;>omega))|(intro hg;(try simp only[bB]at hg);first|omega|(refine⟨?_,?_⟩<;>omega)|(refine⟨?_,?_,?_⟩<;>first|omega|(show _<_;(try simp only[List.length_set]);omega)|exact leT rfl))|(refine⟨?_,?_⟩<;>omega)|(refine⟨?_,?_,?_⟩<;>first|omega|(show _<_;(try simp only[List.length_set]);omega)|exact leT rfl)|(simp only[show rI.d=(0:Int)from rfl];omega));done));(conv=>whnf))))
  refine EvCall.two (ty := 3) (xs := (newR d a).1.lo) (ys := (newR d a).1.hi) (envES (newR d a).1.f (newR d a).2) (envES_den _ _) (envES_lt _ _) Try.call59 (fun ρ W hp => ref_new_s _ _ d a W (hD.below hp.bel) hI (hp.rowsIn (R := rC) (n := 0) (c := c1) rfl (by decide) e1 e2 4)) (fun p1 p2 q1 q2 q3 q4 => ?_)
  unfold costR
  ((conv=>whnf);(repeat(refine And.intro ?_ ?_;(focus((first|omega|exact⟨rfl,True.intro⟩|exact⟨rfl,rfl,True.intro⟩|rfl|(simp only[List.length_set];first|omega|(refine⟨?_,?_⟩<;>omega)|(refine⟨?_,?_,?_⟩<;>omega))|(intro hg;(try simp only[bB]at hg);first|omega|(refine⟨?_,?_⟩<;>omega)|(refine⟨?_,?_,?_⟩<;>first|omega|(show _<_;(try simp only[List.length_set]);omega)|exact leT rfl))|(refine⟨?_,?_⟩<;>omega)|(refine⟨?_,?_,?_⟩<;>first|omega|(show _<_;(try simp only[List.length_set]);omega)|exact leT rfl)|(simp only[show rI.d=(0:Int)from rfl];omega));done));(conv=>whnf))))
  refine EvIf.split (fun g => ?_) (fun g => ?_)
  · rw [if_pos (by simpa using g)]
    ((conv=>whnf);(repeat(refine And.intro ?_ ?_;(focus((first|omega|exact⟨rfl,True.intro⟩|exact⟨rfl,rfl,True.intro⟩|rfl|(simp only[List.length_set];first|omega|(refine⟨?_,?_⟩<;>omega)|(refine⟨?_,?_,?_⟩<;>omega))|(intro hg;(try simp only[bB]at hg);first|omega|(refine⟨?_,?_⟩<;>omega)|(refine⟨?_,?_,?_⟩<;>first|omega|(show _<_;(try simp only[List.length_set]);omega)|exact leT rfl))|(refine⟨?_,?_⟩<;>omega)|(refine⟨?_,?_,?_⟩<;>first|omega|(show _<_;(try simp only[List.length_set]);omega)|exact leT rfl)|(simp only[show rI.d=(0:Int)from rfl];omega));done));(conv=>whnf))))
    exact EvRet.ret (fun _ => rfl)
  rw [if_neg (by simpa using g)]
  have ha0 : (newR d a).2 = 0 := by simpa using g
  ((conv=>whnf);(repeat(refine And.intro ?_ ?_;(focus((first|omega|exact⟨rfl,True.intro⟩|exact⟨rfl,rfl,True.intro⟩|rfl|(simp only[List.length_set];first|omega|(refine⟨?_,?_⟩<;>omega)|(refine⟨?_,?_,?_⟩<;>omega))|(intro hg;(try simp only[bB]at hg);first|omega|(refine⟨?_,?_⟩<;>omega)|(refine⟨?_,?_,?_⟩<;>first|omega|(show _<_;(try simp only[List.length_set]);omega)|exact leT rfl))|(refine⟨?_,?_⟩<;>omega)|(refine⟨?_,?_,?_⟩<;>first|omega|(show _<_;(try simp only[List.length_set]);omega)|exact leT rfl)|(simp only[show rI.d=(0:Int)from rfl];omega));done));(conv=>whnf))))
  refine EvCall.two (ty := 3) (xs := (newR d b).1.lo) (ys := (newR d b).1.hi) (envES (newR d b).1.f (newR d b).2) (envES_den _ _) (envES_lt _ _) Try.call59 (fun ρ W hp => ref_new_s _ _ d b W (hD.below hp.bel) hI (hp.rowsIn (R := rC) (n := 1) (c := c2) rfl (by decide) e3 e4 4)) (fun r1 r2 s1 s2 s3 s4 => ?_)
  ((conv=>whnf);(repeat(refine And.intro ?_ ?_;(focus((first|omega|exact⟨rfl,True.intro⟩|exact⟨rfl,rfl,True.intro⟩|rfl|(simp only[List.length_set];first|omega|(refine⟨?_,?_⟩<;>omega)|(refine⟨?_,?_,?_⟩<;>omega))|(intro hg;(try simp only[bB]at hg);first|omega|(refine⟨?_,?_⟩<;>omega)|(refine⟨?_,?_,?_⟩<;>first|omega|(show _<_;(try simp only[List.length_set]);omega)|exact leT rfl))|(refine⟨?_,?_⟩<;>omega)|(refine⟨?_,?_,?_⟩<;>first|omega|(show _<_;(try simp only[List.length_set]);omega)|exact leT rfl)|(simp only[show rI.d=(0:Int)from rfl];omega));done));(conv=>whnf))))
  refine EvIf.split (fun g2 => ?_) (fun g2 => ?_)
  · rw [if_pos (by simpa using g2)]
    ((conv=>whnf);(repeat(refine And.intro ?_ ?_;(focus((first|omega|exact⟨rfl,True.intro⟩|exact⟨rfl,rfl,True.intro⟩|rfl|(simp only[List.length_set];first|omega|(refine⟨?_,?_⟩<;>omega)|(refine⟨?_,?_,?_⟩<;>omega))|(intro hg;(try simp only[bB]at hg);first|omega|(refine⟨?_,?_⟩<;>omega)|(refine⟨?_,?_,?_⟩<;>first|omega|(show _<_;(try simp only[List.length_set]);omega)|exact leT rfl))|(refine⟨?_,?_⟩<;>omega)|(refine⟨?_,?_,?_⟩<;>first|omega|(show _<_;(try simp only[List.length_set]);omega)|exact leT rfl)|(simp only[show rI.d=(0:Int)from rfl];omega));done));(conv=>whnf))))
    exact EvRet.ret (fun _ => rfl)
  rw [if_neg (by simpa using g2)]
  have hb0 : (newR d b).2 = 0 := by simpa using g2
  rw [hgr ha0 hb0]
  obtain ⟨hv, f1, f2, f3, f4, f5, f6⟩ := hfa ha0
  obtain ⟨_, k1, k2, k3, k4, k5, k6⟩ := hfb hb0
  clear hgr hfa hfb
  have hbd := valid_bounds hv
  have hsp : (spanN d : Int) = d.last - d.first + 1 := by unfold spanN; omega
  have hmb := mxM_bd (g := gW (newR d a).1 (newR d b).1) (fun i => by
    have := f5 i
    have := f6 i
    have := k5 i
    have := k6 i
    unfold gW
    omega)
  generalize newR d a = x at *
  generalize newR d b = y at *
  have z1 : -1099511627776 ≤ x.1.lo.getD (0 : Int).toNat rI.d ∧ x.1.lo.getD (0 : Int).toNat rI.d ≤ 1099511627776 := f5 0
  have z2 : -1099511627776 ≤ x.1.hi.getD (0 : Int).toNat rI.d ∧ x.1.hi.getD (0 : Int).toNat rI.d ≤ 1099511627776 := f6 0
  have z3 : -1099511627776 ≤ y.1.lo.getD (0 : Int).toNat rI.d ∧ y.1.lo.getD (0 : Int).toNat rI.d ≤ 1099511627776 := k5 0
  have z4 : -1099511627776 ≤ y.1.hi.getD (0 : Int).toNat rI.d ∧ y.1.hi.getD (0 : Int).toNat rI.d ≤ 1099511627776 := k6 0
  ((conv=>whnf);(repeat(refine And.intro ?_ ?_;(focus((first|omega|exact⟨rfl,True.intro⟩|exact⟨rfl,rfl,True.intro⟩|rfl|(simp only[List.length_set];first|omega|(refine⟨?_,?_⟩<;>omega)|(refine⟨?_,?_,?_⟩<;>omega))|(intro hg;(try simp only[bB]at hg);first|omega|(refine⟨?_,?_⟩<;>omega)|(refine⟨?_,?_,?_⟩<;>first|omega|(show _<_;(try simp only[List.length_set]);omega)|exact leT rfl))|(refine⟨?_,?_⟩<;>omega)|(refine⟨?_,?_,?_⟩<;>first|omega|(show _<_;(try simp only[List.length_set]);omega)|exact leT rfl)|(simp only[show rI.d=(0:Int)from rfl];omega));done));(conv=>whnf))))
  (refine EvDraw.one (.q 0 (.q 1 (.q 2 (.q 3 (.q 4 (.q 5 (.q 6 (.q 7 (.q 8 (.q 9 (.q 10 (.q 11 (.q 12 (.q 13 (.q 14 (.q 15 (.q 16 (.q 17 (.q 18 (.q 19 (.z))))))))))))))))))))) (by kernel_rfl) ?_)
  ((conv=>whnf);(repeat(refine And.intro ?_ ?_;(focus((first|omega|exact⟨rfl,True.intro⟩|exact⟨rfl,rfl,True.intro⟩|rfl|(simp only[List.length_set];first|omega|(refine⟨?_,?_⟩<;>omega)|(refine⟨?_,?_,?_⟩<;>omega))|(intro hg;(try simp only[bB]at hg);first|omega|(refine⟨?_,?_⟩<;>omega)|(refine⟨?_,?_,?_⟩<;>first|omega|(show _<_;(try simp only[List.length_set]);omega)|exact leT rfl))|(refine⟨?_,?_⟩<;>omega)|(refine⟨?_,?_,?_⟩<;>first|omega|(show _<_;(try simp only[List.length_set]);omega)|exact leT rfl)|(simp only[show rI.d=(0:Int)from rfl];omega));done));(conv=>whnf))))
  refine EvLoop.inv (α := Nat) (fun i => i ≤ spanN d) (fun i => spanN d - i) (fun i => [(12, [], .v (.int .i64 ((i : Int)))), (11, [], .v (.int .i64 (mxM (gW x.1 y.1) i))), (8, [], .p 5 0), (10, [], .p 8 0)])
    (fun i => [⟨8, true, 97, 3, 1, .cs [.v (.int .i64 y.1.f), .s 6 1 y.1.lo.length r1, .s 7 1 y.1.hi.length r2]⟩, ⟨7, true, 3, 1, r2, .rows Int rI y.1.hi⟩, ⟨6, true, 3, 1, r1, .rows Int rI y.1.lo⟩, ⟨5, true, 97, 3, 1, .cs [.v (.int .i64 x.1.f), .s 3 1 x.1.lo.length p1, .s 4 1 x.1.hi.length p2]⟩, ⟨4, true, 3, 1, p2, .rows Int rI x.1.hi⟩, ⟨3, true, 3, 1, p1, .rows Int rI x.1.lo⟩]) 9 0 (by omega) (Sub.of [] [] rfl ?_) ?_
  · ((repeat' (refine And.intro ?_ ?_)) <;> first | rfl | exact True.intro | omega)
  intro i hi
  have y1 : -1099511627776 ≤ x.1.lo.getD (i : Int).toNat rI.d ∧ x.1.lo.getD (i : Int).toNat rI.d ≤ 1099511627776 := f5 i
  have y2 : -1099511627776 ≤ x.1.hi.getD (i : Int).toNat rI.d ∧ x.1.hi.getD (i : Int).toNat rI.d ≤ 1099511627776 := f6 i
  have y3 : -1099511627776 ≤ y.1.lo.getD (i : Int).toNat rI.d ∧ y.1.lo.getD (i : Int).toNat rI.d ≤ 1099511627776 := k5 i
  have y4 : -1099511627776 ≤ y.1.hi.getD (i : Int).toNat rI.d ∧ y.1.hi.getD (i : Int).toNat rI.d ≤ 1099511627776 := k6 i
  ((conv=>whnf);(repeat(refine And.intro ?_ ?_;(focus((first|omega|exact⟨rfl,True.intro⟩|exact⟨rfl,rfl,True.intro⟩|rfl|(simp only[List.length_set];first|omega|(refine⟨?_,?_⟩<;>omega)|(refine⟨?_,?_,?_⟩<;>omega))|(intro hg;(try simp only[bB]at hg);first|omega|(refine⟨?_,?_⟩<;>omega)|(refine⟨?_,?_,?_⟩<;>first|omega|(show _<_;(try simp only[List.length_set]);omega)|exact leT rfl))|(refine⟨?_,?_⟩<;>omega)|(refine⟨?_,?_,?_⟩<;>first|omega|(show _<_;(try simp only[List.length_set]);omega)|exact leT rfl)|(simp only[show rI.d=(0:Int)from rfl];omega));done));(conv=>whnf))))
  refine EvIf.split (fun g3 => ?_) (fun g3 => ?_)
  · simp only [decide_eq_true_eq] at g3
    ((conv=>whnf);(repeat(refine And.intro ?_ ?_;(focus((first|omega|exact⟨rfl,True.intro⟩|exact⟨rfl,rfl,True.intro⟩|rfl|(simp only[List.length_set];first|omega|(refine⟨?_,?_⟩<;>omega)|(refine⟨?_,?_,?_⟩<;>omega))|(intro hg;(try simp only[bB]at hg);first|omega|(refine⟨?_,?_⟩<;>omega)|(refine⟨?_,?_,?_⟩<;>first|omega|(show _<_;(try simp only[List.length_set]);omega)|exact leT rfl))|(refine⟨?_,?_⟩<;>omega)|(refine⟨?_,?_,?_⟩<;>first|omega|(show _<_;(try simp only[List.length_set]);omega)|exact leT rfl)|(simp only[show rI.d=(0:Int)from rfl];omega));done));(conv=>whnf))))
    (refine EvDraw.one (.q 0 (.q 1 (.q 2 (.q 3 (.q 4 (.q 5 (.q 6 (.q 7 (.q 8 (.q 9 (.q 10 (.q 11 (.q 12 (.q 13 (.q 14 (.q 15 (.q 16 (.q 17 (.q 18 (.q 19 (.q 20 (.q 21 (.q 22 (.q 23 (.q 24 (.q 25 (.z))))))))))))))))))))))))))) (by kernel_rfl) ?_)
    ((conv=>whnf);(repeat(refine And.intro ?_ ?_;(focus((first|omega|exact⟨rfl,True.intro⟩|exact⟨rfl,rfl,True.intro⟩|rfl|(simp only[List.length_set];first|omega|(refine⟨?_,?_⟩<;>omega)|(refine⟨?_,?_,?_⟩<;>omega))|(intro hg;(try simp only[bB]at hg);first|omega|(refine⟨?_,?_⟩<;>omega)|(refine⟨?_,?_,?_⟩<;>first|omega|(show _<_;(try simp only[List.length_set]);omega)|exact leT rfl))|(refine⟨?_,?_⟩<;>omega)|(refine⟨?_,?_,?_⟩<;>first|omega|(show _<_;(try simp only[List.length_set]);omega)|exact leT rfl)|(simp only[show rI.d=(0:Int)from rfl];omega));done));(conv=>whnf))))
    refine LoopI.back (i + 1) (by omega) (by omega) (Sub.of [] [] rfl ?_)
    ((repeat' (refine And.intro ?_ ?_)) <;> first | rfl | exact True.intro | omega)
  · simp only [decide_eq_false_iff_not] at g3
    obtain rfl : i = spanN d := by omega
    ((conv=>whnf);(repeat(refine And.intro ?_ ?_;(focus((first|omega|exact⟨rfl,True.intro⟩|exact⟨rfl,rfl,True.intro⟩|rfl|(simp only[List.length_set];first|omega|(refine⟨?_,?_⟩<;>omega)|(refine⟨?_,?_,?_⟩<;>omega))|(intro hg;(try simp only[bB]at hg);first|omega|(refine⟨?_,?_⟩<;>omega)|(refine⟨?_,?_,?_⟩<;>first|omega|(show _<_;(try simp only[List.length_set]);omega)|exact leT rfl))|(refine⟨?_,?_⟩<;>omega)|(refine⟨?_,?_,?_⟩<;>first|omega|(show _<_;(try simp only[List.length_set]);omega)|exact leT rfl)|(simp only[show rI.d=(0:Int)from rfl];omega));done));(conv=>whnf))))
    exact EvRet.ret (fun _ => rfl)
set_option maxRecDepth 20000 in
theorem lossycost_s (v1 v2 v3 v4 : Value) (zs ms ks es : List Int) (b : Bool) (w : World) (h1 : Ints w v1 zs) (h2 : Ints w v2 ms) (h3 : Ints w v3 ks) (h4 : Ints w v4 es) :
    Con Try.prog 5 #[v1, v2, v3, v4, .bool b] w (Ret w (.bool true)) := by
  obtain ⟨A1, c1, rfl, e1, e2⟩ := h1.form
  obtain ⟨A2, c2, rfl, e3, e4⟩ := h2.form
  obtain ⟨A3, c3, rfl, e5, e6⟩ := h3.form
  obtain ⟨A4, c4, rfl, e7, e8⟩ := h4.form
  have hT := declOf_T zs
  have hI := declOf_I' zs
  refine enter tabOk mixed Try.func5 rfl Try.ntmps5 Try.results5 [.s 0 1 zs.length c1, .s 1 1 ms.length c2, .s 2 1 ks.length c3, .s 3 1 es.length c4, .v (.bool b)] (fun n => if n = 0 then A1 else if n = 1 then A2 else if n = 2 then A3 else A4) [⟨3, false, 3, 1, c4, .rows Int rI (es)⟩, ⟨2, false, 3, 1, c3, .rows Int rI (ks)⟩, ⟨1, false, 3, 1, c2, .rows Int rI (ms)⟩, ⟨0, false, 3, 1, c1, .rows Int rI (zs)⟩] 4 rfl rfl (.ro (.ro (.ro (.ro (hp0 _ _ _) _ rfl rfl rfl (ro_ints h1 rfl _)) _ rfl rfl rfl (ro_ints h2 rfl _)) _ rfl rfl rfl (ro_ints h3 rfl _)) _ rfl rfl rfl (ro_ints h4 rfl _)) ?_
  ((conv=>whnf);(repeat(refine And.intro ?_ ?_;(focus((first|omega|exact⟨rfl,True.intro⟩|exact⟨rfl,rfl,True.intro⟩|rfl|(simp only[List.length_set];first|omega|(refine⟨?_,?_⟩<;>omega)|(refine⟨?_,?_,?_⟩<;>omega))|(intro hg;(try simp only[bB]at hg);first|omega|(refine⟨?_,?_⟩<;>omega)|(refine⟨?_,?_,?_⟩<;>first|omega|(show _<_;(try simp only[List.length_set]);omega)|exact leT rfl))|(refine⟨?_,?_⟩<;>omega)|(refine⟨?_,?_,?_⟩<;>first|omega|(show _<_;(try simp only[List.length_set]);omega)|exact leT rfl)|(simp only[show rI.d=(0:Int)from rfl];omega));done));(conv=>whnf))))
  refine EvCall.decl Try.call11 (fun ρ W hp => decl_s _ zs W (hp.ints (n := 0) rfl e1 e2 h1.2)) (fun nm l c5 hnm hl hc1 hc2 => ?_)
  generalize declOf zs = d at hT hI ⊢
  ((conv=>whnf);(repeat(refine And.intro ?_ ?_;(focus((first|omega|exact⟨rfl,True.intro⟩|exact⟨rfl,rfl,True.intro⟩|rfl|(simp only[List.length_set];first|omega|(refine⟨?_,?_⟩<;>omega)|(refine⟨?_,?_,?_⟩<;>omega))|(intro hg;(try simp only[bB]at hg);first|omega|(refine⟨?_,?_⟩<;>omega)|(refine⟨?_,?_,?_⟩<;>first|omega|(show _<_;(try simp only[List.length_set]);omega)|exact leT rfl))|(refine⟨?_,?_⟩<;>omega)|(refine⟨?_,?_,?_⟩<;>first|omega|(show _<_;(try simp only[List.length_set]);omega)|exact leT rfl)|(simp only[show rI.d=(0:Int)from rfl];omega));done));(conv=>whnf))))
  refine EvCall.rows (R := rC) (ty := 62) (xs := someL d ms ks false) Try.call30 (fun ρ W hp => some_s nm _ _ _ d _ _ ms ks false W hT (hp.ints (n := 1) rfl e3 e4 h2.2) (hp.ints (n := 2) rfl e5 e6 h3.2)) (fun ca a1 a2 => ?_)
  generalize someL d ms ks false = xa at a1 ⊢
  ((conv=>whnf);(repeat(refine And.intro ?_ ?_;(focus((first|omega|exact⟨rfl,True.intro⟩|exact⟨rfl,rfl,True.intro⟩|rfl|(simp only[List.length_set];first|omega|(refine⟨?_,?_⟩<;>omega)|(refine⟨?_,?_,?_⟩<;>omega))|(intro hg;(try simp only[bB]at hg);first|omega|(refine⟨?_,?_⟩<;>omega)|(refine⟨?_,?_,?_⟩<;>first|omega|(show _<_;(try simp only[List.length_set]);omega)|exact leT rfl))|(refine⟨?_,?_⟩<;>omega)|(refine⟨?_,?_,?_⟩<;>first|omega|(show _<_;(try simp only[List.length_set]);omega)|exact leT rfl)|(simp only[show rI.d=(0:Int)from rfl];omega));done));(conv=>whnf))))
  refine EvCall.rows (R := rC) (ty := 62) (xs := someL d ms es b) Try.call30 (fun ρ W hp => some_s nm _ _ _ d _ _ ms es b W hT (hp.ints (n := 1) rfl e3 e4 h2.2) (hp.ints (n := 3) rfl e7 e8 h4.2)) (fun cb b1 b2 => ?_)
  generalize someL d ms es b = xb at b1 ⊢
  ((conv=>whnf);(repeat(refine And.intro ?_ ?_;(focus((first|omega|exact⟨rfl,True.intro⟩|exact⟨rfl,rfl,True.intro⟩|rfl|(simp only[List.length_set];first|omega|(refine⟨?_,?_⟩<;>omega)|(refine⟨?_,?_,?_⟩<;>omega))|(intro hg;(try simp only[bB]at hg);first|omega|(refine⟨?_,?_⟩<;>omega)|(refine⟨?_,?_,?_⟩<;>first|omega|(show _<_;(try simp only[List.length_set]);omega)|exact leT rfl))|(refine⟨?_,?_⟩<;>omega)|(refine⟨?_,?_,?_⟩<;>first|omega|(show _<_;(try simp only[List.length_set]);omega)|exact leT rfl)|(simp only[show rI.d=(0:Int)from rfl];omega));done));(conv=>whnf))))
  refine EvCall.plain Try.call31 (.t [.v (.int .i64 (costR d xa xb).1), .v (.int .i64 (costR d xa xb).2)]) rfl (fun ρ W hp => cost_s _ _ _ d xa xb W (hp.decl (n := 4) (d := d) hnm hl hc1 hc2 rfl) hI (hp.rowsIn (R := rC) (n := 6) (c := ca) rfl (by decide) a1 a2 4) (hp.rowsIn (R := rC) (n := 7) (c := cb) rfl (by decide) b1 b2 4)) ?_
  ((conv=>whnf);(repeat(refine And.intro ?_ ?_;(focus((first|omega|exact⟨rfl,True.intro⟩|exact⟨rfl,rfl,True.intro⟩|rfl|(simp only[List.length_set];first|omega|(refine⟨?_,?_⟩<;>omega)|(refine⟨?_,?_,?_⟩<;>omega))|(intro hg;(try simp only[bB]at hg);first|omega|(refine⟨?_,?_⟩<;>omega)|(refine⟨?_,?_,?_⟩<;>first|omega|(show _<_;(try simp only[List.length_set]);omega)|exact leT rfl))|(refine⟨?_,?_⟩<;>omega)|(refine⟨?_,?_,?_⟩<;>first|omega|(show _<_;(try simp only[List.length_set]);omega)|exact leT rfl)|(simp only[show rI.d=(0:Int)from rfl];omega));done));(conv=>whnf))))
  refine EvCall.plain Try.call32 (.t [.v (.int .i64 (costR d xa xb).1), .v (.int .i64 (costR d xa xb).2)]) rfl (fun ρ W hp => ref_cost_s _ _ _ d xa xb W (hp.decl (n := 4) (d := d) hnm hl hc1 hc2 rfl) hI (hp.rowsIn (R := rC) (n := 6) (c := ca) rfl (by decide) a1 a2 4) (hp.rowsIn (R := rC) (n := 7) (c := cb) rfl (by decide) b1 b2 4)) ?_
  ((conv=>whnf);(repeat(refine And.intro ?_ ?_;(focus((first|omega|exact⟨rfl,True.intro⟩|exact⟨rfl,rfl,True.intro⟩|rfl|(simp only[List.length_set];first|omega|(refine⟨?_,?_⟩<;>omega)|(refine⟨?_,?_,?_⟩<;>omega))|(intro hg;(try simp only[bB]at hg);first|omega|(refine⟨?_,?_⟩<;>omega)|(refine⟨?_,?_,?_⟩<;>first|omega|(show _<_;(try simp only[List.length_set]);omega)|exact leT rfl))|(refine⟨?_,?_⟩<;>omega)|(refine⟨?_,?_,?_⟩<;>first|omega|(show _<_;(try simp only[List.length_set]);omega)|exact leT rfl)|(simp only[show rI.d=(0:Int)from rfl];omega));done));(conv=>whnf))))
  refine EvCall.plain Try.call31 (.t [.v (.int .i64 (costR d xb xa).1), .v (.int .i64 (costR d xb xa).2)]) rfl (fun ρ W hp => cost_s _ _ _ d xb xa W (hp.decl (n := 4) (d := d) hnm hl hc1 hc2 rfl) hI (hp.rowsIn (R := rC) (n := 7) (c := cb) rfl (by decide) b1 b2 4) (hp.rowsIn (R := rC) (n := 6) (c := ca) rfl (by decide) a1 a2 4)) ?_
  ((conv=>whnf);(repeat(refine And.intro ?_ ?_;(focus((first|omega|exact⟨rfl,True.intro⟩|exact⟨rfl,rfl,True.intro⟩|rfl|(simp only[List.length_set];first|omega|(refine⟨?_,?_⟩<;>omega)|(refine⟨?_,?_,?_⟩<;>omega))|(intro hg;(try simp only[bB]at hg);first|omega|(refine⟨?_,?_⟩<;>omega)|(refine⟨?_,?_,?_⟩<;>first|omega|(show _<_;(try simp only[List.length_set]);omega)|exact leT rfl))|(refine⟨?_,?_⟩<;>omega)|(refine⟨?_,?_,?_⟩<;>first|omega|(show _<_;(try simp only[List.length_set]);omega)|exact leT rfl)|(simp only[show rI.d=(0:Int)from rfl];omega));done));(conv=>whnf))))
  refine EvCall.plain Try.call32 (.t [.v (.int .i64 (costR d xb xa).1), .v (.int .i64 (costR d xb xa).2)]) rfl (fun ρ W hp => ref_cost_s _ _ _ d xb xa W (hp.decl (n := 4) (d := d) hnm hl hc1 hc2 rfl) hI (hp.rowsIn (R := rC) (n := 7) (c := cb) rfl (by decide) b1 b2 4) (hp.rowsIn (R := rC) (n := 6) (c := ca) rfl (by decide) a1 a2 4)) ?_
  ((conv=>whnf);(repeat(refine And.intro ?_ ?_;(focus((first|omega|exact⟨rfl,True.intro⟩|exact⟨rfl,rfl,True.intro⟩|rfl|(simp only[List.length_set];first|omega|(refine⟨?_,?_⟩<;>omega)|(refine⟨?_,?_,?_⟩<;>omega))|(intro hg;(try simp only[bB]at hg);first|omega|(refine⟨?_,?_⟩<;>omega)|(refine⟨?_,?_,?_⟩<;>first|omega|(show _<_;(try simp only[List.length_set]);omega)|exact leT rfl))|(refine⟨?_,?_⟩<;>omega)|(refine⟨?_,?_,?_⟩<;>first|omega|(show _<_;(try simp only[List.length_set]);omega)|exact leT rfl)|(simp only[show rI.d=(0:Int)from rfl];omega));done));(conv=>whnf))))
  refine EvCallC.plain Try.call26 (.v (.bool true)) rfl (fun _ ρ W hp => lives16_s W) ?_
  ((conv=>whnf);(repeat(refine And.intro ?_ ?_;(focus((first|omega|exact⟨rfl,True.intro⟩|exact⟨rfl,rfl,True.intro⟩|rfl|(simp only[List.length_set];first|omega|(refine⟨?_,?_⟩<;>omega)|(refine⟨?_,?_,?_⟩<;>omega))|(intro hg;(try simp only[bB]at hg);first|omega|(refine⟨?_,?_⟩<;>omega)|(refine⟨?_,?_,?_⟩<;>first|omega|(show _<_;(try simp only[List.length_set]);omega)|exact leT rfl))|(refine⟨?_,?_⟩<;>omega)|(refine⟨?_,?_,?_⟩<;>first|omega|(show _<_;(try simp only[List.length_set]);omega)|exact leT rfl)|(simp only[show rI.d=(0:Int)from rfl];omega));done));(conv=>whnf))))
  exact EvRet.ret (fun ρ => by simp [den])
theorem walk_LossyCost (w : World) (V0 : Value) (zs : List Int) (h : Ints w V0 zs) (V1 : Value) (ms : List Int) (h2 : Ints w V1 ms) (V2 : Value) (ks : List Int) (h3 : Ints w V2 ks) (V3 : Value) (es : List Int) (h4 : Ints w V3 es) (b : Bool) :
    Calls Try.prog 5 #[V0, V1, V2, V3, .bool b] w fun e w' => e = .returned (.bool true) ∧ Below w.heap.size w w' :=
  (lossycost_s V0 V1 V2 V3 zs ms ks es b w h h2 h3 h4).out
end Go.Proofs.Ytpnngbfmmjjnaaa
