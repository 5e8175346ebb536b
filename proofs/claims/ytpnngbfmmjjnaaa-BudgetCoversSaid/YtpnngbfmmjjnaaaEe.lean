
/- Envelopes: the reference's functions; SameInts, Same, At. -/
import Derived.Test.YtpnngbfmmjjnaaaEd
namespace Go.Proofs.Ytpnngbfmmjjnaaa
open Go.RowKit
set_option linter.unusedVariables false
set_option linter.unusedSimpArgs false

set_option maxRecDepth 10000 in
theorem ref_source_s (nm : ByteArray) (A : Option Addr) (ln c : Nat) (v : Value) (d : Dc) (l : List Cl) (i : Int) (w : World) (hv : RowsIn rC w v l) (h1 : -1 ≤ i) (h2 : i < l.length) :
    Con Try.prog 96 #[.agg (dcCells nm (.slice A ln c) d), v, .int .i64 i] w (Ret w (.agg (clA ((srcL d l).getD (i + 1).toNat cl0)))) := by
  obtain ⟨A1, c1, rfl, e1, e2⟩ := hv.form
  refine enter tabOk mixed Try.func96 rfl Try.ntmps96 Try.results96 [.a (dcS nm (.v (.slice A ln c)) d), .s 0 4 l.length c1, .v (.int .i64 i)] (fun _ => A1) [⟨0, false, 62, 4, c1, .rows Cl rC (l)⟩] 1 rfl rfl (.ro (hp0 _ _ _) _ rfl rfl rfl (ro_rows hv rfl _)) ?_
  ((conv=>whnf);repeat(refine And.intro (by omega) ?_;(conv=>whnf)))
  refine EvIf.split (fun g => ?_) (fun g => ?_)
  · simp only [decide_eq_true_eq] at g
    obtain rfl : i = -1 := by omega
    ((conv=>whnf);repeat(refine And.intro (by omega) ?_;(conv=>whnf)))
    exact EvRet.ret (fun _ => rfl)
  · simp only [decide_eq_false_iff_not] at g
    ((conv=>whnf);(repeat(refine And.intro ?_ ?_;(focus((first|omega|exact⟨rfl,True.intro⟩|exact⟨rfl,rfl,True.intro⟩|rfl|(simp only[List.length_set];first|omega|(refine⟨?_,?_⟩<;>omega)|(refine⟨?_,?_,?_⟩<;>omega))|(intro hg;(try simp only[bB]at hg);first|omega|(refine⟨?_,?_⟩<;>omega)|(refine⟨?_,?_,?_⟩<;>first|omega|(show _<_;(try simp only[List.length_set]);omega)|exact leT rfl))|(refine⟨?_,?_⟩<;>omega)|(refine⟨?_,?_,?_⟩<;>first|omega|(show _<_;(try simp only[List.length_set]);omega)|exact leT rfl)|(simp only[show rI.d=(0:Int)from rfl];omega));done));(conv=>whnf))))
    refine EvRet.ret (fun _ => ?_)
    rw [show (i + 1).toNat = i.toNat + 1 by omega]
    rfl
/-- Ticks and sources for which nothing overflows. -/
def SrcT (d : Dc) (c : Cl) : Prop := 0 ≤ d.first ∧ d.first ≤ c.f ∧ c.f ≤ c.t ∧ c.t ≤ d.last ∧ d.last ≤ 1048576 ∧ -1099511627776 ≤ c.lo ∧ c.lo ≤ c.hi ∧ c.hi ≤ 1099511627776
theorem srcT {d : Dc} {c : Cl} (hv : validCode d = 0) (h : SrcOk d c) : SrcT d c := by
  have := valid_bounds hv
  unfold SrcOk at h
  unfold SrcT
  omega
theorem dcS_of {d : Dc} (hv : validCode d = 0) : DcS d := by have := valid_bounds hv; unfold DcS; omega
set_option maxRecDepth 10000 in
theorem leastV_s (nm : ByteArray) (A : Option Addr) (ln c : Nat) (d : Dc) (x : Cl) (t : Int) (w : World) (hd : DcS d) (hx : SrcT d x) (ht : 0 ≤ t ∧ t ≤ 1048576) :
    Con Try.prog 95 #[.agg (dcCells nm (.slice A ln c) d), .agg (clA x), .int .i64 t] w (Ret w (.int .i64 (leastV d x t))) := by
  unfold SrcT at hx
  refine enter tabOk mixed Try.func95 rfl Try.ntmps95 Try.results95 [.a (dcS nm (.v (.slice A ln c)) d), .a (clS x), .v (.int .i64 t)] (fun _ => none) [] 0 rfl rfl (hp0 _ _ _) ?_
  ((conv=>whnf);repeat(refine And.intro (by omega) ?_;(conv=>whnf)))
  refine EvCall.plain Try.call113 (.v (.int .i64 (lowV d x.f t x.lo))) rfl (fun ρ W hp => low_s nm A ln c d x.f t x.lo W hd (by omega) ht (by omega)) ?_
  ((conv=>whnf);repeat(refine And.intro (by omega) ?_;(conv=>whnf)))
  refine EvLoop.inv (α := Nat) (fun k => x.f + k ≤ x.t + 1) (fun k => (x.t + 1 - x.f - k).toNat) (fun k => [(8, [], .v (.int .i64 (x.f + (k : Int)))), (7, [], .v (.int .i64 (leastK d x t k))), (3, [], .p 0 0), (4, [], .p 1 0), (2, [], .v (.int .i64 (t)))])
    (fun k => [⟨1, true, 62, 4, 1, .cs (clS x)⟩, ⟨0, true, 27, 12, 1, .cs (dcS nm (.v (.slice A ln c)) d)⟩]) 2 0 (by omega) (Sub.of [] [] rfl ?_) ?_
  · ((repeat' (refine And.intro ?_ ?_)) <;> first | rfl | exact True.intro | omega)
  intro k hk
  ((conv=>whnf);repeat(refine And.intro (by omega) ?_;(conv=>whnf)))
  refine EvIf.split (fun g => ?_) (fun g => ?_)
  · simp only [decide_eq_true_eq] at g
    ((conv=>whnf);repeat(refine And.intro (by omega) ?_;(conv=>whnf)))
    refine EvCall.plain Try.call113 (.v (.int .i64 (lowV d (x.f + (k : Int)) t x.lo))) rfl (fun ρ W hp => low_s nm A ln c d (x.f + (k : Int)) t x.lo W hd (by omega) ht (by omega)) ?_
    ((conv=>whnf);repeat(refine And.intro (by omega) ?_;(conv=>whnf)))
    refine LoopI.back (k + 1) (by omega) (by omega) (Sub.of [] [] rfl ?_)
    ((repeat' (refine And.intro ?_ ?_)) <;> first | rfl | exact True.intro | omega)
  · simp only [decide_eq_false_iff_not] at g
    ((conv=>whnf);repeat(refine And.intro (by omega) ?_;(conv=>whnf)))
    refine ret_code ?_
    unfold leastV
    rw [show (x.t - x.f + 1).toNat = k by omega]
set_option maxRecDepth 10000 in
theorem greatV_s (nm : ByteArray) (A : Option Addr) (ln c : Nat) (d : Dc) (x : Cl) (t : Int) (w : World) (hd : DcS d) (hx : SrcT d x) (ht : 0 ≤ t ∧ t ≤ 1048576) :
    Con Try.prog 97 #[.agg (dcCells nm (.slice A ln c) d), .agg (clA x), .int .i64 t] w (Ret w (.int .i64 (greatV d x t))) := by
  unfold SrcT at hx
  refine enter tabOk mixed Try.func97 rfl Try.ntmps97 Try.results97 [.a (dcS nm (.v (.slice A ln c)) d), .a (clS x), .v (.int .i64 t)] (fun _ => none) [] 0 rfl rfl (hp0 _ _ _) ?_
  ((conv=>whnf);repeat(refine And.intro (by omega) ?_;(conv=>whnf)))
  refine EvCall.plain Try.call114 (.v (.int .i64 (highV d x.f t x.hi))) rfl (fun ρ W hp => high_s nm A ln c d x.f t x.hi W hd (by omega) ht (by omega)) ?_
  ((conv=>whnf);repeat(refine And.intro (by omega) ?_;(conv=>whnf)))
  refine EvLoop.inv (α := Nat) (fun k => x.f + k ≤ x.t + 1) (fun k => (x.t + 1 - x.f - k).toNat) (fun k => [(8, [], .v (.int .i64 (x.f + (k : Int)))), (7, [], .v (.int .i64 (greatK d x t k))), (3, [], .p 0 0), (4, [], .p 1 0), (2, [], .v (.int .i64 (t)))])
    (fun k => [⟨1, true, 62, 4, 1, .cs (clS x)⟩, ⟨0, true, 27, 12, 1, .cs (dcS nm (.v (.slice A ln c)) d)⟩]) 2 0 (by omega) (Sub.of [] [] rfl ?_) ?_
  · ((repeat' (refine And.intro ?_ ?_)) <;> first | rfl | exact True.intro | omega)
  intro k hk
  ((conv=>whnf);repeat(refine And.intro (by omega) ?_;(conv=>whnf)))
  refine EvIf.split (fun g => ?_) (fun g => ?_)
  · simp only [decide_eq_true_eq] at g
    ((conv=>whnf);repeat(refine And.intro (by omega) ?_;(conv=>whnf)))
    refine EvCall.plain Try.call114 (.v (.int .i64 (highV d (x.f + (k : Int)) t x.hi))) rfl (fun ρ W hp => high_s nm A ln c d (x.f + (k : Int)) t x.hi W hd (by omega) ht (by omega)) ?_
    ((conv=>whnf);repeat(refine And.intro (by omega) ?_;(conv=>whnf)))
    refine LoopI.back (k + 1) (by omega) (by omega) (Sub.of [] [] rfl ?_)
    ((repeat' (refine And.intro ?_ ?_)) <;> first | rfl | exact True.intro | omega)
  · simp only [decide_eq_false_iff_not] at g
    ((conv=>whnf);repeat(refine And.intro (by omega) ?_;(conv=>whnf)))
    refine ret_code ?_
    unfold greatV
    rw [show (x.t - x.f + 1).toNat = k by omega]
theorem rLo_snoc (d : Dc) (l : List Cl) (c : Cl) (t : Int) : rLo d (l ++ [c]) t = max (rLo d l t) (leastV d c t) := by simp [rLo, List.foldl_append]
theorem rHi_snoc (d : Dc) (l : List Cl) (c : Cl) (t : Int) : rHi d (l ++ [c]) t = min (rHi d l t) (greatV d c t) := by simp [rHi, List.foldl_append]
set_option maxRecDepth 10000 in
theorem bounds_s (nm : ByteArray) (A : Option Addr) (ln c : Nat) (v : Value) (d : Dc) (l : List Cl) (t : Int) (w : World) (hvc : validCode d = 0) (hv : RowsIn rC w v l) (hl : ∀ c ∈ l, validB d c = true) (ht : 0 ≤ t ∧ t ≤ 1048576) :
    Con Try.prog 77 #[.agg (dcCells nm (.slice A ln c) d), v, .int .i64 t] w (Ret w (.tuple #[.int .i64 (rLo d l t), .int .i64 (rHi d l t)])) := by
  obtain ⟨A1, c1, rfl, e1, e2⟩ := hv.form
  have hd := dcS_of hvc
  have hok := src_ok hvc hl
  have hr := srcT hvc (hok (rangeC d) (List.mem_cons_self ..))
  refine enter tabOk mixed Try.func77 rfl Try.ntmps77 Try.results77 [.a (dcS nm (.v (.slice A ln c)) d), .s 0 4 l.length c1, .v (.int .i64 t)] (fun _ => A1) [⟨0, false, 62, 4, c1, .rows Cl rC (l)⟩] 1 rfl rfl (.ro (hp0 _ _ _) _ rfl rfl rfl (ro_rows hv rfl _)) ?_
  ((conv=>whnf);repeat(refine And.intro (by omega) ?_;(conv=>whnf)))
  (refine EvDraw.one (.q 0 (.q 1 (.q 2 (.q 4 (.n 3 false (.n 5 true (.q 6 (.z)) (.e)) (.e)))))) (by kernel_rfl) ?_)
  ((conv=>whnf);repeat(refine And.intro (by omega) ?_;(conv=>whnf)))
  refine EvCall.plain Try.call96 (.a (clS (rangeC d))) rfl (fun ρ W hp => ref_source_s nm A ln c _ d l (-1) W (hp.rowsIn (R := rC) (n := 0) rfl (by decide) e1 e2 4) (by omega) (by omega)) ?_
  ((conv=>whnf);repeat(refine And.intro (by omega) ?_;(conv=>whnf)))
  refine EvCall.plain Try.call95 (.v (.int .i64 (leastV d (rangeC d) t))) rfl (fun ρ W hp => leastV_s nm A ln c d (rangeC d) t W hd hr ht) ?_
  ((conv=>whnf);repeat(refine And.intro (by omega) ?_;(conv=>whnf)))
  (refine EvDraw.one (.q 0 (.q 1 (.q 2 (.q 4 (.n 3 false (.n 5 true (.q 6 (.z)) (.e)) (.e)))))) (by kernel_rfl) ?_)
  ((conv=>whnf);repeat(refine And.intro (by omega) ?_;(conv=>whnf)))
  refine EvCall.plain Try.call96 (.a (clS (rangeC d))) rfl (fun ρ W hp => ref_source_s nm A ln c _ d l (-1) W (hp.rowsIn (R := rC) (n := 0) rfl (by decide) e1 e2 4) (by omega) (by omega)) ?_
  ((conv=>whnf);repeat(refine And.intro (by omega) ?_;(conv=>whnf)))
  refine EvCall.plain Try.call97 (.v (.int .i64 (greatV d (rangeC d) t))) rfl (fun ρ W hp => greatV_s nm A ln c d (rangeC d) t W hd hr ht) ?_
  ((conv=>whnf);repeat(refine And.intro (by omega) ?_;(conv=>whnf)))
  refine EvLoop.inv (α := Nat) (fun i => i ≤ l.length) (fun i => l.length - i) (fun i => [(10, [], .v (.int .i64 ((i : Int)))), (8, [], .v (.int .i64 (rLo d (l.take i) t))), (9, [], .v (.int .i64 (rHi d (l.take i) t))), (1, [], .s 0 4 l.length c1), (2, [], .v (.int .i64 (t))), (3, [], .p 1 0)])
    (fun i => [⟨1, true, 27, 12, 1, .cs (dcS nm (.v (.slice A ln c)) d)⟩, ⟨0, false, 62, 4, c1, .rows Cl rC (l)⟩]) 2 0 (by omega) (Sub.of [] [] rfl ?_) ?_
  · ((repeat' (refine And.intro ?_ ?_)) <;> first | rfl | exact True.intro | omega)
  intro i hi
  ((conv=>whnf);repeat(refine And.intro (by omega) ?_;(conv=>whnf)))
  refine EvIf.split (fun g => ?_) (fun g => ?_)
  · simp only [decide_eq_true_eq] at g
    have hm : l.getD i cl0 ∈ srcL d l := List.mem_cons_of_mem _ (by rw [List.getD_eq_getElem?_getD, List.getElem?_eq_getElem (by omega)]; exact List.getElem_mem _)
    have hx := srcT hvc (hok _ hm)
    have g1 : rLo d (l.take (i + 1)) t = max (rLo d (l.take i) t) (leastV d (l.getD i cl0) t) := by rw [take_snoc l i (by omega), rLo_snoc]
    have g2 : rHi d (l.take (i + 1)) t = min (rHi d (l.take i) t) (greatV d (l.getD i cl0) t) := by rw [take_snoc l i (by omega), rHi_snoc]
    ((conv=>whnf);repeat(refine And.intro (by omega) ?_;(conv=>whnf)))
    (refine EvDraw.one (.q 0 (.q 1 (.q 2 (.q 3 (.q 4 (.q 5 (.q 6 (.n 7 true (.q 8 (.q 9 (.z))) (.e))))))))) (by kernel_rfl) ?_)
    ((conv=>whnf);(repeat(refine And.intro ?_ ?_;(focus((first|omega|exact⟨rfl,True.intro⟩|exact⟨rfl,rfl,True.intro⟩|rfl|(simp only[List.length_set];first|omega|(refine⟨?_,?_⟩<;>omega)|(refine⟨?_,?_,?_⟩<;>omega))|(intro hg;(try simp only[bB]at hg);first|omega|(refine⟨?_,?_⟩<;>omega)|(refine⟨?_,?_,?_⟩<;>first|omega|(show _<_;(try simp only[List.length_set]);omega)|exact leT rfl))|(refine⟨?_,?_⟩<;>omega)|(refine⟨?_,?_,?_⟩<;>first|omega|(show _<_;(try simp only[List.length_set]);omega)|exact leT rfl)|(simp only[show rI.d=(0:Int)from rfl];omega));done));(conv=>whnf))))
    refine EvCall.plain Try.call95 (.v (.int .i64 (leastV d (l.getD i cl0) t))) rfl (fun ρ W hp => leastV_s nm A ln c d (l.getD i cl0) t W hd hx ht) ?_
    ((conv=>whnf);repeat(refine And.intro (by omega) ?_;(conv=>whnf)))
    (refine EvDraw.one (.q 0 (.q 1 (.q 2 (.q 3 (.q 4 (.q 5 (.q 6 (.n 7 true (.q 8 (.q 9 (.z))) (.e))))))))) (by kernel_rfl) ?_)
    ((conv=>whnf);(repeat(refine And.intro ?_ ?_;(focus((first|omega|exact⟨rfl,True.intro⟩|exact⟨rfl,rfl,True.intro⟩|rfl|(simp only[List.length_set];first|omega|(refine⟨?_,?_⟩<;>omega)|(refine⟨?_,?_,?_⟩<;>omega))|(intro hg;(try simp only[bB]at hg);first|omega|(refine⟨?_,?_⟩<;>omega)|(refine⟨?_,?_,?_⟩<;>first|omega|(show _<_;(try simp only[List.length_set]);omega)|exact leT rfl))|(refine⟨?_,?_⟩<;>omega)|(refine⟨?_,?_,?_⟩<;>first|omega|(show _<_;(try simp only[List.length_set]);omega)|exact leT rfl)|(simp only[show rI.d=(0:Int)from rfl];omega));done));(conv=>whnf))))
    refine EvCall.plain Try.call97 (.v (.int .i64 (greatV d (l.getD i cl0) t))) rfl (fun ρ W hp => greatV_s nm A ln c d (l.getD i cl0) t W hd hx ht) ?_
    ((conv=>whnf);repeat(refine And.intro (by omega) ?_;(conv=>whnf)))
    refine LoopI.back (i + 1) (by omega) (by omega) (Sub.of [] [] rfl ?_)
    (repeat' (refine And.intro ?_ ?_)) <;> first | exact g1.symm | exact g2.symm | rfl | exact True.intro | omega
  · simp only [decide_eq_false_iff_not] at g
    have hi2 : l.take i = l := List.take_of_length_le (by omega)
    rw [hi2]
    ((conv=>whnf);repeat(refine And.intro (by omega) ?_;(conv=>whnf)))
    exact EvRet.ret (fun _ => rfl)
theorem check_ok {d : Dc} {l : List Cl} (h : checkR d l = 0) : validCode d = 0 ∧ l.length ≤ 4096 ∧ ∀ c ∈ l, validB d c = true := by
  unfold checkR at h
  split at h
  · rename_i h1; exact absurd h h1
  · rename_i h1
    split at h
    · cases h
    · rename_i h2
      split at h
      · cases h
      · rename_i h3
        exact ⟨by omega, by omega, by simpa using h3⟩
theorem newR_bad {d : Dc} {l : List Cl} (h : checkR d l ≠ 0) : newR d l = (env0', checkR d l) := by
  unfold newR
  rw [bandsR_bad h, if_pos h]
set_option maxRecDepth 20000 in
theorem ref_new_s (V v : Value) (d : Dc) (l : List Cl) (w : World) (h : DeclIs w V d) (hI : DcI d) (hv : RowsIn rC w v l) :
    Con Try.prog 59 #[V, v] w (Ret2 3 w (newR d l).1.lo (newR d l).1.hi (envEV (newR d l).1.f (newR d l).2)) := by
  have hD := h
  obtain ⟨nm, A, c, lb, rfl, hnm, hl, hS⟩ := h
  obtain ⟨A1, c1, rfl, e1, e2⟩ := hv.form
  refine enter tabOk mixed Try.func59 rfl Try.ntmps59 Try.results59 [.a (dcS nm (.v (.slice A lb.length c)) d), .s 0 4 l.length c1] (fun _ => A1) [⟨0, false, 62, 4, c1, .rows Cl rC (l)⟩] 1 rfl rfl (.ro (hp0 _ _ _) _ rfl rfl rfl (ro_rows hv rfl _)) ?_
  ((conv=>whnf);repeat(refine And.intro (by omega) ?_;(conv=>whnf)))
  refine EvCall.plain Try.call76 (.v (.int .i64 (checkR d l))) rfl (fun ρ W hp => ref_check_s _ _ d l W (hD.below hp.bel) hI (hp.rowsIn (R := rC) (n := 0) rfl (by decide) e1 e2 4)) ?_
  ((conv=>whnf);repeat(refine And.intro (by omega) ?_;(conv=>whnf)))
  refine EvIf.split (fun g1 => ?_) (fun g1 => ?_)
  · simp only [Bool.not_eq_true', decide_eq_false_iff_not] at g1
    rw [newR_bad g1]
    ((conv=>whnf);repeat(refine And.intro (by omega) ?_;(conv=>whnf)))
    exact EvRet.two_nil (fun ρ => by simp [den, denL, envEV, envV, env0']) rfl rfl
  simp only [Bool.not_eq_false', decide_eq_true_eq] at g1
  obtain ⟨hvc, hll, hlv⟩ := check_ok g1
  have hbd := valid_bounds hvc
  obtain ⟨sp, hsp⟩ : ∃ sp : Nat, (sp : Int) = d.last - d.first + 1 := ⟨(d.last - d.first + 1).toNat, by omega⟩
  have hR := newR_cases hvc hll hlv hsp
  ((conv=>whnf);repeat(refine And.intro (by omega) ?_;(conv=>whnf)))
  refine EvLoop.inv (α := Nat × Nat × Nat) (fun p => p.1 ≤ sp ∧ (p.1 ≤ p.2.1 ∧ p.2.1 ≤ 9223372036854775807) ∧ (p.1 ≤ p.2.2 ∧ p.2.2 ≤ 9223372036854775807) ∧ ∀ i : Nat, i < p.1 → rLo d l (d.first + i) ≤ rHi d l (d.first + i)) (fun p => sp - p.1)
    (fun p => [(8, [], .v (.int .i64 (d.first + (p.1 : Int)))), (7, [], .p 3 0), (4, [], .p 2 0), (2, [], .p 1 0), (1, [], .s 0 4 l.length c1), (5, [], .v (.int .i64 (0)))])
    (fun p => [⟨5, true, 3, 1, p.2.2, .rows Int rI (rHiL d l p.1)⟩, ⟨4, true, 3, 1, p.2.1, .rows Int rI (rLoL d l p.1)⟩, ⟨3, true, 97, 3, 1, .cs [.v (.int .i64 d.first), .s 4 1 p.1 p.2.1, .s 5 1 p.1 p.2.2]⟩, ⟨2, true, 97, 3, 1, .cs [.v (.int .i64 0), .v (.slice none 0 0), .v (.slice none 0 0)]⟩, ⟨1, true, 27, 12, 1, .cs (dcS nm (.v (.slice A lb.length c)) d)⟩, ⟨0, false, 62, 4, c1, .rows Cl rC l⟩]) 6 (0, 0, 0) ⟨by simp, by simp, by simp, fun i hi => by omega⟩ (Sub.of [] [4, 5] rfl ?_) ?_
  · (repeat' (refine And.intro ?_ ?_)) <;> first | rfl | exact True.intro | omega | (show _ = _ ; simp)
  intro p ⟨q1, q2, q3, q4⟩
  have hll1 := rLoL_len d l p.1
  have hll2 := rHiL_len d l p.1
  ((conv=>whnf);repeat(refine And.intro (by omega) ?_;(conv=>whnf)))
  refine EvIf.split (fun g2 => ?_) (fun g2 => ?_)
  · simp only [decide_eq_true_eq] at g2
    ((conv=>whnf);repeat(refine And.intro (by omega) ?_;(conv=>whnf)))
    refine EvCall.plain Try.call77 (.t [.v (.int .i64 (rLo d l (d.first + p.1))), .v (.int .i64 (rHi d l (d.first + p.1)))]) rfl (fun ρ W hp => bounds_s nm A lb.length c _ d l (d.first + p.1) W hvc (hp.rowsIn (R := rC) (n := 0) rfl (by decide) e1 e2 4) hlv (by omega)) ?_
    ((conv=>whnf);repeat(refine And.intro (by omega) ?_;(conv=>whnf)))
    refine EvIf.split (fun g3 => ?_) (fun g3 => ?_)
    · simp only [decide_eq_true_eq] at g3
      have hR2 : newR d l = (env0', 13) := by
        rcases hR with ⟨h1, _⟩ | ⟨_, h2⟩
        · have := h1 p.1 (by omega); omega
        · exact h2
      rw [hR2]
      ((conv=>whnf);repeat(refine And.intro (by omega) ?_;(conv=>whnf)))
      exact EvRet.two_nil (fun ρ => by simp [den, denL, envEV, envV, env0']) rfl rfl
    · simp only [decide_eq_false_iff_not] at g3
      ((conv=>whnf);repeat(refine And.intro (by omega) ?_;(conv=>whnf)))
      refine EvBi.append (R := rI) tyok22 rfl tyok3 rfl (by decide) rfl rfl hll1.symm (by rw [hll1]; exact q2.1) [rLo d l (d.first + p.1)] (fun ρ W hp => hp.lit (R := rI) (ys := [rLo d l (d.first + p.1)]) (n := 6) rfl (by decide) (by simp) (by omega) rfl) (by rw [hll1]; show (_ + 1) * 8 ≤ _; omega) (by rw [hll1]; show _ + 1 ≤ _; omega) (fun ca hq1 hq2 => ?_)
      rw [← rLoL_succ, hll1] at *
      ((conv=>whnf);repeat(refine And.intro (by omega) ?_;(conv=>whnf)))
      refine EvBi.append (R := rI) tyok22 rfl tyok3 rfl (by decide) rfl rfl hll2.symm (by rw [hll2]; exact q3.1) [rHi d l (d.first + p.1)] (fun ρ W hp => hp.lit (R := rI) (ys := [rHi d l (d.first + p.1)]) (n := 8) rfl (by decide) (by simp) (by omega) rfl) (by rw [hll2]; show (_ + 1) * 8 ≤ _; omega) (by rw [hll2]; show _ + 1 ≤ _; omega) (fun cb hq3 hq4 => ?_)
      rw [← rHiL_succ, hll2] at *
      ((conv=>whnf);repeat(refine And.intro (by omega) ?_;(conv=>whnf)))
      refine LoopI.back (p.1 + 1, ca, cb) ⟨by show p.1 + 1 ≤ sp; omega, ⟨hq1, hq2⟩, ⟨hq3, hq4⟩, fun i hi => ?_⟩ (by show sp - (p.1 + 1) < sp - p.1; omega) (Sub.of [(4, 7), (5, 9)] [] rfl ?_)
      · by_cases hip : i = p.1
        · rw [hip]; omega
        · exact q4 i (by have : i < p.1 + 1 := hi; omega)
      · ((repeat' (refine And.intro ?_ ?_)) <;> first | rfl | exact True.intro | omega)
  · simp only [decide_eq_false_iff_not] at g2
    have hp1 : p.1 = sp := by omega
    have hR2 : newR d l = (⟨d.first, rLoL d l p.1, rHiL d l p.1⟩, 0) := by
      rcases hR with ⟨_, h2⟩ | ⟨h1, _⟩
      · rw [hp1]; exact h2
      · exact absurd (fun i hi => q4 i (by omega)) h1
    rw [hR2]
    ((conv=>whnf);repeat(refine And.intro (by omega) ?_;(conv=>whnf)))
    exact EvRet.two (n := 4) (m := 5) (fun ρ => by simp [den, denL, envEV, envV]) hll1.symm hll2.symm (by show (rLoL d l p.1).length ≤ _; omega) (by show (rHiL d l p.1).length ≤ _; omega) rfl rfl (by decide)
end Go.Proofs.Ytpnngbfmmjjnaaa
