
/- Histories: Count, the example, walked. -/
import Derived.Test.YtnoenmacakbhdaaHc
namespace Go.Proofs.Ytnoenmacakbhdaa
open Go.RowKit
set_option linter.unusedVariables false
set_option linter.unusedSimpArgs false

/-- The numbers of beginnings at each tick, as the program counts them. -/
def cntK (d : Dc) (lo hi : List Int) (m : Int) : Nat → List Int
  | 0 => (List.range (hi.getD 0 0 - lo.getD 0 0 + 1).toNat).map fun _ => 1
  | k + 1 => advL d (lo.getD (k + 1) 0) (hi.getD (k + 1) 0) (lo.getD k 0) (hi.getD k 0) (cntK d lo hi m k) m
theorem cntK_len (d : Dc) (lo hi : List Int) (m : Int) (k : Nat) : (cntK d lo hi m k).length = (hi.getD k 0 - lo.getD k 0 + 1).toNat := by
  cases k with
  | zero => simp [cntK]
  | succ k => simp [cntK, advL_len]
theorem cntK_cnt (d : Dc) (lo hi : List Int) (m : Int) (hm : 0 ≤ m ∧ m ≤ 10000) : ∀ k, Cnt (cntK d lo hi m k)
  | 0 => by
    intro k
    by_cases hk : k < (hi.getD 0 0 - lo.getD 0 0 + 1).toNat
    · have e : (cntK d lo hi m 0).getD k 0 = 1 := map_get _ _ _ hk
      rw [e]
      omega
    · rw [getD_out (by rw [cntK_len]; omega)]
      omega
  | k + 1 => advL_cnt (cntK_cnt d lo hi m hm k) hm
def cntE (d : Dc) (n : Nat) (lo hi : List Int) (m : Int) : Int := if (∃ i, i < n ∧ m ≤ hi.getD i 0 - lo.getD i 0 + 1) then m else min (sumT (cntK d lo hi m (n - 1)) (cntK d lo hi m (n - 1)).length) m
noncomputable def cntR (d : Dc) (l : List Cl) (most : Int) : Int := if (newR d l).2 ≠ 0 ∨ min most 10000 ≤ 0 then 0 else cntE d (spanN d) (newR d l).1.lo (newR d l).1.hi (min most 10000)
set_option maxRecDepth 20000 in
theorem hcount_s (V v : Value) (d : Dc) (l : List Cl) (most : Int) (w : World) (h : DeclIs w V d) (hI : DcI d) (hvc : validCode d = 0) (hll : l.length ≤ 4096) (hlv : ∀ c ∈ l, validB d c = true) (hv : RowsIn rC w v l) :
    Con Try.prog 34 #[V, v, .int .i64 most] w (Ret w (.int .i64 (cntR d l most))) := by
  have hD := h
  obtain ⟨nm, A, c, lb, rfl, hnm, hlab, hS⟩ := h
  obtain ⟨A1, c1, rfl, e1, e2⟩ := hv.form
  have hbd := valid_bounds hvc
  have hsp : (spanN d : Int) = d.last - d.first + 1 := by unfold spanN; omega
  refine enter tabOk mixed Try.func34 rfl Try.ntmps34 Try.results34 [.a (dcS nm (.v (.slice A lb.length c)) d), .s 0 4 l.length c1, .v (.int .i64 most)] (fun _ => A1) [⟨0, false, 52, 4, c1, .rows Cl rC (l)⟩] 1 rfl rfl (.ro (hp0 _ _ _) _ rfl rfl rfl (ro_rows hv rfl _)) ?_
  ((conv=>whnf);repeat(refine And.intro (by omega) ?_;(conv=>whnf)))
  rcases two_ok hvc hll hlv with ⟨hok, hN⟩ | ⟨hno, hN⟩
  case inr =>
    have hr : cntR d l most = 0 := by rw [cntR, hN, if_pos (by simp)]
    rw [hr]
    refine EvCall.two (ty := 3) (xs := []) (ys := []) (envES 0 13) (envES_den _ _) (envES_lt _ _) Try.call17 (fun ρ W hp => by
      have := new_s _ _ d l W (hD.below hp.bel) hI (hp.rowsIn (R := rC) (n := 0) (c := c1) rfl (by decide) e1 e2 4)
      rw [hN] at this
      exact this) (fun p1 p2 q1 q2 q3 q4 => ?_)
    ((conv=>whnf);repeat(refine And.intro (by omega) ?_;(conv=>whnf)))
    refine EvIf.pos (by simp) ?_
    ((conv=>whnf);repeat(refine And.intro (by omega) ?_;(conv=>whnf)))
    exact EvRet.ret (fun _ => rfl)
  have hl1 := rLoL_len d l (spanN d)
  have hl2 := rHiL_len d l (spanN d)
  obtain ⟨hL, hH⟩ := rL_hist hvc hlv hsp hok
  have hcb : ∀ i, (-1099511627776 ≤ (rLoL d l (spanN d)).getD i 0 ∧ (rLoL d l (spanN d)).getD i 0 ≤ 1099511627776) ∧ -1099511627776 ≤ (rHiL d l (spanN d)).getD i 0 ∧ (rHiL d l (spanN d)).getD i 0 ≤ 1099511627776 := fun i => ⟨hist_bd5 hvc hL i, hist_bd5 hvc hH i⟩
  have hle : ∀ i, i < spanN d → (rLoL d l (spanN d)).getD i 0 ≤ (rHiL d l (spanN d)).getD i 0 := fun i hi => by rw [(rL_get d l _ i hi).1, (rL_get d l _ i hi).2]; exact hok i hi
  refine EvCall.two (ty := 3) (xs := rLoL d l (spanN d)) (ys := rHiL d l (spanN d)) (envES d.first 0) (envES_den _ _) (envES_lt _ _) Try.call17 (fun ρ W hp => by
    have := new_s _ _ d l W (hD.below hp.bel) hI (hp.rowsIn (R := rC) (n := 0) (c := c1) rfl (by decide) e1 e2 4)
    rw [hN] at this
    exact this) (fun p1 p2 q1 q2 q3 q4 => ?_)
  obtain ⟨m, hm⟩ : ∃ m, m = min most 10000 := ⟨_, rfl⟩
  have hr : cntR d l most = if m ≤ 0 then 0 else cntE d (spanN d) (rLoL d l (spanN d)) (rHiL d l (spanN d)) m := by
    rw [cntR, hN, hm]
    by_cases h0 : min most 10000 ≤ 0
    · rw [if_pos (.inr h0), if_pos h0]
    · rw [if_neg (by simp; omega), if_neg h0]
  rw [hr]
  have hn0 : 0 < spanN d := by omega
  have hd := dcS_of hvc
  generalize rLoL d l (spanN d) = lo at *
  generalize rHiL d l (spanN d) = hi at *
  generalize spanN d = n at *
  ((conv=>whnf);repeat(refine And.intro (by omega) ?_;(conv=>whnf)))
  rw [← hm]
  refine EvIf.split (fun g => ?_) (fun g => ?_)
  · rw [if_pos (by simpa using g)]
    ((conv=>whnf);repeat(refine And.intro (by omega) ?_;(conv=>whnf)))
    exact EvRet.ret (fun _ => rfl)
  have hm0 : ¬ m ≤ 0 := by simpa using g
  rw [if_neg hm0]
  ((conv=>whnf);repeat(refine And.intro (by omega) ?_;(conv=>whnf)))
  refine EvLoop.inv (α := Nat) (fun i => i ≤ n ∧ ∀ j, j < i → hi.getD j 0 - lo.getD j 0 + 1 < m) (fun i => n - i) (fun i => [(33, [], .v (.int .i64 ((i : Int)))), (32, [], .v (.int .i64 ((lo.length : Int)))), (7, [], .p 4 0), (3, [], .p 1 0), (2, [], .v (.int .i64 (m)))])
    (fun i => [⟨4, true, 32, 3, 1, .cs [.v (.int .i64 d.first), .s 2 1 lo.length p1, .s 3 1 hi.length p2]⟩, ⟨3, true, 3, 1, p2, .rows Int rI hi⟩, ⟨2, true, 3, 1, p1, .rows Int rI lo⟩, ⟨1, true, 27, 12, 1, .cs (dcS nm (.v (.slice A lb.length c)) d)⟩]) 5 0 ⟨by omega, fun j hj => by omega⟩ (Sub.of [] [] rfl ?_) ?_
  · ((repeat' (refine And.intro ?_ ?_)) <;> first | rfl | exact True.intro | omega)
  intro i ⟨hi1, hi2⟩
  have bi : (-1099511627776 ≤ lo.getD (i : Int).toNat rI.d ∧ lo.getD (i : Int).toNat rI.d ≤ 1099511627776) ∧ -1099511627776 ≤ hi.getD (i : Int).toNat rI.d ∧ hi.getD (i : Int).toNat rI.d ≤ 1099511627776 := hcb i
  ((conv=>whnf);repeat(refine And.intro (by omega) ?_;(conv=>whnf)))
  refine EvIf.split (fun g1 => ?_) (fun g1 => ?_)
  · simp only [decide_eq_true_eq] at g1
    ((conv=>whnf);repeat(refine And.intro (by omega) ?_;(conv=>whnf)))
    (refine EvDraw.one (.q 0 (.q 1 (.q 2 (.q 3 (.q 4 (.q 5 (.q 6 (.q 7 (.q 8 (.q 9 (.q 10 (.q 11 (.q 12 (.q 13 (.z))))))))))))))) (by kernel_rfl) ?_)
    ((conv=>whnf);(repeat(refine And.intro ?_ ?_;(focus((first|omega|exact⟨rfl,True.intro⟩|exact⟨rfl,rfl,True.intro⟩|rfl|(simp only[List.length_set];first|omega|(refine⟨?_,?_⟩<;>omega)|(refine⟨?_,?_,?_⟩<;>omega))|(intro hg;(try simp only[bB]at hg);first|omega|(refine⟨?_,?_⟩<;>omega)|(refine⟨?_,?_,?_⟩<;>first|omega|(show _<_;(try simp only[List.length_set]);omega)|exact leT rfl))|(refine⟨?_,?_⟩<;>omega)|(refine⟨?_,?_,?_⟩<;>first|omega|(show _<_;(try simp only[List.length_set]);omega)|exact leT rfl)|(simp only[show rI.d=(0:Int)from rfl];omega));done));(conv=>whnf))))
    refine EvIf.split (fun g2 => ?_) (fun g2 => ?_)
    · simp only [decide_eq_true_eq] at g2
      have hc : cntE d n lo hi m = m := if_pos ⟨i, by omega, g2⟩
      rw [hc]
      ((conv=>whnf);repeat(refine And.intro (by omega) ?_;(conv=>whnf)))
      exact EvRet.ret (fun _ => rfl)
    · simp only [decide_eq_false_iff_not] at g2
      have g3 : ¬ m ≤ hi.getD i 0 - lo.getD i 0 + 1 := g2
      ((conv=>whnf);repeat(refine And.intro (by omega) ?_;(conv=>whnf)))
      refine LoopI.back (i + 1) ⟨by omega, fun j hj => ?_⟩ (by omega) (Sub.of [] [] rfl ?_)
      · by_cases hij : j = i
        · subst hij; omega
        · exact hi2 j (by omega)
      · ((repeat' (refine And.intro ?_ ?_)) <;> first | rfl | exact True.intro | omega)
  simp only [decide_eq_false_iff_not] at g1
  obtain rfl : i = n := by omega
  have hcE : cntE d i lo hi m = min (sumT (cntK d lo hi m (i - 1)) (cntK d lo hi m (i - 1)).length) m := if_neg (fun ⟨j, hj, h⟩ => by have := hi2 j hj; omega)
  rw [hcE]
  have w0 := hi2 0 hn0
  have w1 := hle 0 hn0
  have b0 := hcb 0
  obtain ⟨s0, hs0⟩ : ∃ s0 : Nat, hi.getD 0 0 - lo.getD 0 0 + 1 = (s0 : Int) := ⟨(hi.getD 0 0 - lo.getD 0 0 + 1).toNat, by omega⟩
  have hs0' : hi.getD (0 : Int).toNat rI.d - lo.getD (0 : Int).toNat rI.d + 1 = (s0 : Int) := hs0
  have b0' : (-1099511627776 ≤ lo.getD (0 : Int).toNat rI.d ∧ lo.getD (0 : Int).toNat rI.d ≤ 1099511627776) ∧ -1099511627776 ≤ hi.getD (0 : Int).toNat rI.d ∧ hi.getD (0 : Int).toNat rI.d ≤ 1099511627776 := b0
  ((conv=>whnf);repeat(refine And.intro (by omega) ?_;(conv=>whnf)))
  (refine EvDraw.one (.q 0 (.q 1 (.q 2 (.q 3 (.q 4 (.q 5 (.q 6 (.q 7 (.q 8 (.q 9 (.n 10 false (.q 11 (.z)) (.e)))))))))))) (by kernel_rfl) ?_)
  ((conv=>whnf);(repeat(refine And.intro ?_ ?_;(focus((first|omega|exact⟨rfl,True.intro⟩|exact⟨rfl,rfl,True.intro⟩|rfl|(simp only[List.length_set];first|omega|(refine⟨?_,?_⟩<;>omega)|(refine⟨?_,?_,?_⟩<;>omega))|(intro hg;(try simp only[bB]at hg);first|omega|(refine⟨?_,?_⟩<;>omega)|(refine⟨?_,?_,?_⟩<;>first|omega|(show _<_;(try simp only[List.length_set]);omega)|exact leT rfl))|(refine⟨?_,?_⟩<;>omega)|(refine⟨?_,?_,?_⟩<;>first|omega|(show _<_;(try simp only[List.length_set]);omega)|exact leT rfl)|(simp only[show rI.d=(0:Int)from rfl];omega));done));(conv=>whnf))))
  rw [show hi.getD (Int.toNat 0) rI.d - lo.getD (Int.toNat 0) rI.d + 1 = (s0 : Int) from hs0]
  refine EvMake.full (R := rI) tyok22 rfl tyok3 rfl (by decide) 0 rfl s0 (by show 8 * s0 ≤ _; omega) (by omega) ?_
  rw [mixL_rep (fun _ => 1) (fun _ => 0) s0 0 (fun _ _ => rfl)]
  ((conv=>whnf);repeat(refine And.intro (by omega) ?_;(conv=>whnf)))
  refine EvLoop.inv (α := Nat) (fun j => j ≤ s0) (fun j => s0 - j) (fun j => [(65, [], .v (.int .i64 ((j : Int)))), (64, [], .v (.int .i64 ((s0 : Int)))), (10, [], .s 5 1 s0 s0), (7, [], .p 4 0), (3, [], .p 1 0), (2, [], .v (.int .i64 (m)))])
    (fun j => [⟨5, true, 3, 1, s0, .rows Int rI (mixL (fun _ => 1) (fun _ => 0) s0 j)⟩, ⟨4, true, 32, 3, 1, .cs [.v (.int .i64 d.first), .s 2 1 lo.length p1, .s 3 1 hi.length p2]⟩, ⟨3, true, 3, 1, p2, .rows Int rI hi⟩, ⟨2, true, 3, 1, p1, .rows Int rI lo⟩, ⟨1, true, 27, 12, 1, .cs (dcS nm (.v (.slice A lb.length c)) d)⟩]) 6 0 (by omega) (Sub.of [] [] rfl ?_) ?_
  · ((repeat' (refine And.intro ?_ ?_)) <;> first | rfl | exact True.intro | omega)
  intro j hj
  have hlj := mixL_len (fun _ => 1) (fun _ => 0) s0 j
  ((conv=>whnf);repeat(refine And.intro (by omega) ?_;(conv=>whnf)))
  refine EvIf.split (fun g2 => ?_) (fun g2 => ?_)
  · simp only [decide_eq_true_eq] at g2
    have g3 := mixL_set (fun _ => 1) (fun _ => 0) s0 j (by omega)
    ((conv=>whnf);(repeat(refine And.intro ?_ ?_;(focus((first|omega|exact⟨rfl,True.intro⟩|exact⟨rfl,rfl,True.intro⟩|rfl|(simp only[List.length_set];first|omega|(refine⟨?_,?_⟩<;>omega)|(refine⟨?_,?_,?_⟩<;>omega))|(intro hg;(try simp only[bB]at hg);first|omega|(refine⟨?_,?_⟩<;>omega)|(refine⟨?_,?_,?_⟩<;>first|omega|(show _<_;(try simp only[List.length_set]);omega)|exact leT rfl))|(refine⟨?_,?_⟩<;>omega)|(refine⟨?_,?_,?_⟩<;>first|omega|(show _<_;(try simp only[List.length_set]);omega)|exact leT rfl)|(simp only[show rI.d=(0:Int)from rfl];omega));done));(conv=>whnf))))
    refine LoopI.back (j + 1) (by omega) (by omega) (Sub.of [] [] rfl ?_)
    ((repeat' (refine And.intro ?_ ?_)) <;> first | exact congrArg (Ct.rows Int rI) g3 | exact congrArg (Ct.rows Int rI) g3.symm | rfl | exact True.intro | omega)
  simp only [decide_eq_false_iff_not] at g2
  obtain rfl : j = s0 := by omega
  rw [mixL_full]
  have hk0 : (List.range j).map (fun _ => (1 : Int)) = cntK d lo hi m 0 := by
    show _ = (List.range (hi.getD 0 0 - lo.getD 0 0 + 1).toNat).map (fun _ => (1 : Int))
    rw [show (hi.getD 0 0 - lo.getD 0 0 + 1).toNat = j by omega]
  rw [hk0]
  have hkl := cntK_len d lo hi m
  have hkc := cntK_cnt d lo hi m (by omega)
  have hkl0 : (cntK d lo hi m 0).length = j := by rw [hkl]; omega
  ((conv=>whnf);repeat(refine And.intro (by omega) ?_;(conv=>whnf)))
  refine EvLoop.inv (α := Nat × Nat) (fun p => p.1 + 1 ≤ i ∧ (cntK d lo hi m p.1).length ≤ p.2 ∧ p.2 ≤ 9223372036854775807) (fun p => i - p.1) (fun p => [(12, [], .v (.int .i64 (((p.1 + 1 : Nat) : Int)))), (10, [], .s 5 1 (cntK d lo hi m p.1).length p.2), (7, [], .p 4 0), (3, [], .p 1 0), (2, [], .v (.int .i64 (m)))])
    (fun p => [⟨5, true, 3, 1, p.2, .rows Int rI (cntK d lo hi m p.1)⟩, ⟨4, true, 32, 3, 1, .cs [.v (.int .i64 d.first), .s 2 1 lo.length p1, .s 3 1 hi.length p2]⟩, ⟨3, true, 3, 1, p2, .rows Int rI hi⟩, ⟨2, true, 3, 1, p1, .rows Int rI lo⟩, ⟨1, true, 27, 12, 1, .cs (dcS nm (.v (.slice A lb.length c)) d)⟩]) 6 (0, j) ⟨by omega, by simp only; omega, by simp only; omega⟩ (Sub.of [] [] rfl ?_) ?_
  · (repeat' (refine And.intro ?_ ?_)) <;> first | rfl | exact True.intro | omega | exact hkl0 | exact hkl0.symm
  intro p ⟨hp1, hp2, hp3⟩
  ((conv=>whnf);repeat(refine And.intro (by omega) ?_;(conv=>whnf)))
  refine EvIf.split (fun g3 => ?_) (fun g3 => ?_)
  · simp only [decide_eq_true_eq] at g3
    have w2 := hi2 (p.1 + 1) (by omega)
    have w3 := hle (p.1 + 1) (by omega)
    have w4 := hi2 p.1 (by omega)
    have w5 := hle p.1 (by omega)
    have w6 := hkl p.1
    ((conv=>whnf);repeat(refine And.intro (by omega) ?_;(conv=>whnf)))
    refine EvCall.rows (R := rI) (ty := 3) (xs := cntK d lo hi m (p.1 + 1)) Try.call79 (fun ρ W hp => advance_s nm A lb.length c d ⟨d.first, lo, hi⟩ _ _ _ _ _ _ (p.1 + 1) _ (cntK d lo hi m p.1) m W hd (hp.rowsIn (R := rI) (n := 2) (c := p1) rfl (by decide) q1 q2 1) (hp.rowsIn (R := rI) (n := 3) (c := p2) rfl (by decide) q3 q4 1) (hp.rowsIn (R := rI) (n := 5) (c := p.2) rfl (by decide) hp2 hp3 1) (by omega) (by show p.1 + 1 < lo.length; omega) (by show p.1 + 1 < hi.length; omega) (by show lo.length ≤ 4096; omega) hcb (by show lo.getD (p.1 + 1) 0 ≤ hi.getD (p.1 + 1) 0 ∧ hi.getD (p.1 + 1) 0 - lo.getD (p.1 + 1) 0 ≤ 20000; omega) (by show ((cntK d lo hi m p.1).length : Int) = hi.getD p.1 0 - lo.getD p.1 0 + 1; omega) (hkc p.1) (by omega) (by omega)) (fun cap hc1 hc2 => ?_)
    ((conv=>whnf);repeat(refine And.intro (by omega) ?_;(conv=>whnf)))
    refine LoopI.back (p.1 + 1, cap) ⟨by simp only; omega, hc1, hc2⟩ (by simp only; omega) (Sub.of [(5, 6)] [] rfl ?_)
    ((repeat' (refine And.intro ?_ ?_)) <;> first | rfl | exact True.intro | omega)
  simp only [decide_eq_false_iff_not] at g3
  obtain ⟨k, hk⟩ : ∃ k, k = p.1 := ⟨_, rfl⟩
  have hki : i - 1 = k := by omega
  rw [hki, hk]
  have w4 := hi2 p.1 (by omega)
  have w5 := hle p.1 (by omega)
  have w6 := hkl p.1
  have w7 := hkc p.1
  generalize cntK d lo hi m p.1 = cs at *
  ((conv=>whnf);repeat(refine And.intro (by omega) ?_;(conv=>whnf)))
  refine EvLoop.inv (α := Nat) (fun k => k ≤ cs.length) (fun k => cs.length - k) (fun k => [(87, [], .v (.int .i64 ((k : Int)))), (86, [], .v (.int .i64 ((cs.length : Int)))), (85, [], .s 5 1 cs.length p.2), (13, [], .v (.int .i64 (sumT cs k))), (2, [], .v (.int .i64 (m)))])
    (fun k => [⟨5, true, 3, 1, p.2, .rows Int rI cs⟩]) 6 0 (by omega) (Sub.of [] [] rfl ?_) ?_
  · ((repeat' (refine And.intro ?_ ?_)) <;> first | rfl | exact True.intro | omega)
  intro k hk
  have y1 := sumT_bd w7 k
  have y2 : 0 ≤ cs.getD (k : Int).toNat rI.d ∧ cs.getD (k : Int).toNat rI.d ≤ 10000 := w7 k
  ((conv=>whnf);repeat(refine And.intro (by omega) ?_;(conv=>whnf)))
  refine EvIf.split (fun g4 => ?_) (fun g4 => ?_)
  · simp only [decide_eq_true_eq] at g4
    ((conv=>whnf);(repeat(refine And.intro ?_ ?_;(focus((first|omega|exact⟨rfl,True.intro⟩|exact⟨rfl,rfl,True.intro⟩|rfl|(simp only[List.length_set];first|omega|(refine⟨?_,?_⟩<;>omega)|(refine⟨?_,?_,?_⟩<;>omega))|(intro hg;(try simp only[bB]at hg);first|omega|(refine⟨?_,?_⟩<;>omega)|(refine⟨?_,?_,?_⟩<;>first|omega|(show _<_;(try simp only[List.length_set]);omega)|exact leT rfl))|(refine⟨?_,?_⟩<;>omega)|(refine⟨?_,?_,?_⟩<;>first|omega|(show _<_;(try simp only[List.length_set]);omega)|exact leT rfl)|(simp only[show rI.d=(0:Int)from rfl];omega));done));(conv=>whnf))))
    refine LoopI.back (k + 1) (by omega) (by omega) (Sub.of [] [] rfl ?_)
    ((repeat' (refine And.intro ?_ ?_)) <;> first | rfl | exact True.intro | omega)
  · simp only [decide_eq_false_iff_not] at g4
    obtain rfl : k = cs.length := by omega
    ((conv=>whnf);repeat(refine And.intro (by omega) ?_;(conv=>whnf)))
    exact EvRet.ret (fun _ => rfl)
end Go.Proofs.Ytnoenmacakbhdaa
