
/- Histories: the reference's capped, Through, Steep, walked. -/
import Derived.Test.YtnoenmacakbhdaaHe
namespace Go.Proofs.Ytnoenmacakbhdaa
open Go.RowKit
set_option linter.unusedVariables false
set_option linter.unusedSimpArgs false

def capF (d : Dc) (es : List Int) (t v : Int) (i : Nat) : Int := min (es.getD i 0) (highV d t (d.first + i) v)
def capK (d : Dc) (es : List Int) (t v : Int) (k : Nat) : List Int := (List.range k).map (capF d es t v)
theorem capK_len (d : Dc) (es : List Int) (t v : Int) (k : Nat) : (capK d es t v k).length = k := by simp [capK]
theorem capK_succ (d : Dc) (es : List Int) (t v : Int) (k : Nat) : capK d es t v (k + 1) = capK d es t v k ++ [capF d es t v k] := by simp [capK, List.range_succ]
theorem capK_all (d : Dc) (es : List Int) (t v : Int) : capK d es t v es.length = capL d es t v := rfl
set_option maxRecDepth 10000 in
theorem ref_capped_s (nm : ByteArray) (A : Option Addr) (ln c : Nat) (d : Dc) (v : Value) (es : List Int) (t val : Int) (w : World) (hv : RowsIn rI w v es) (hd : DcS d) (ht : 0 ≤ t ∧ t ≤ 1048576) (hx : -4611686018427387904 ≤ val ∧ val ≤ 4611686018427387904) (hf : 0 ≤ d.first) (hl : d.first + es.length ≤ 1048577) :
    Con Try.prog 86 #[.agg (dcCells nm (.slice A ln c) d), v, .int .i64 t, .int .i64 val] w (RetRows rI 3 w (capL d es t val)) := by
  obtain ⟨A1, c1, rfl, e1, e2⟩ := hv.form
  rw [← capK_all]
  refine enter tabOk mixed Try.func86 rfl Try.ntmps86 Try.results86 [.a (dcS nm (.v (.slice A ln c)) d), .s 0 1 es.length c1, .v (.int .i64 t), .v (.int .i64 val)] (fun _ => A1) [⟨0, false, 3, 1, c1, .rows Int rI (es)⟩] 1 rfl rfl (.ro (hp0 _ _ _) _ rfl rfl rfl (ro_rows hv rfl _)) ?_
  ((conv=>whnf);(repeat(refine And.intro ?_ ?_;(focus((first|omega|exact⟨rfl,True.intro⟩|exact⟨rfl,rfl,True.intro⟩|rfl|(simp only[List.length_set];first|omega|(refine⟨?_,?_⟩<;>omega)|(refine⟨?_,?_,?_⟩<;>omega))|(intro hg;(try simp only[bB]at hg);first|omega|(refine⟨?_,?_⟩<;>omega)|(refine⟨?_,?_,?_⟩<;>first|omega|(show _<_;(try simp only[List.length_set]);omega)|exact leT rfl))|(refine⟨?_,?_⟩<;>omega)|(refine⟨?_,?_,?_⟩<;>first|omega|(show _<_;(try simp only[List.length_set]);omega)|exact leT rfl)|(simp only[show rI.d=(0:Int)from rfl];omega));done));(conv=>whnf))))
  refine EvLoop.inv (α := Nat × Nat) (fun p => p.1 ≤ es.length ∧ p.1 ≤ p.2 ∧ p.2 ≤ 9223372036854775807) (fun p => es.length - p.1)
    (fun p => [(10, [], .v (.int .i64 ((p.1 : Int)))), (9, [], .s 2 1 p.1 p.2), (4, [], .p 1 0), (1, [], .s 0 1 es.length c1), (2, [], .v (.int .i64 (t))), (3, [], .v (.int .i64 (val)))])
    (fun p => [⟨2, true, 3, 1, p.2, .rows Int rI (capK d es t val p.1)⟩, ⟨1, true, 27, 12, 1, .cs (dcS nm (.v (.slice A ln c)) d)⟩, ⟨0, false, 3, 1, c1, .rows Int rI (es)⟩]) 3 (0, 0) ⟨by simp, by simp, by decide⟩ (Sub.of [] [2] rfl ?_) ?_
  · (repeat' (refine And.intro ?_ ?_)) <;> first | rfl | exact True.intro | omega | (show _ = _ ; simp [capK])
  intro p ⟨q1, q2, q3⟩
  have hll := capK_len d es t val p.1
  ((conv=>whnf);(repeat(refine And.intro ?_ ?_;(focus((first|omega|exact⟨rfl,True.intro⟩|exact⟨rfl,rfl,True.intro⟩|rfl|(simp only[List.length_set];first|omega|(refine⟨?_,?_⟩<;>omega)|(refine⟨?_,?_,?_⟩<;>omega))|(intro hg;(try simp only[bB]at hg);first|omega|(refine⟨?_,?_⟩<;>omega)|(refine⟨?_,?_,?_⟩<;>first|omega|(show _<_;(try simp only[List.length_set]);omega)|exact leT rfl))|(refine⟨?_,?_⟩<;>omega)|(refine⟨?_,?_,?_⟩<;>first|omega|(show _<_;(try simp only[List.length_set]);omega)|exact leT rfl)|(simp only[show rI.d=(0:Int)from rfl];omega));done));(conv=>whnf))))
  refine EvIf.split (fun g1 => ?_) (fun g1 => ?_)
  · simp only [decide_eq_true_eq] at g1
    ((conv=>whnf);(repeat(refine And.intro ?_ ?_;(focus((first|omega|exact⟨rfl,True.intro⟩|exact⟨rfl,rfl,True.intro⟩|rfl|(simp only[List.length_set];first|omega|(refine⟨?_,?_⟩<;>omega)|(refine⟨?_,?_,?_⟩<;>omega))|(intro hg;(try simp only[bB]at hg);first|omega|(refine⟨?_,?_⟩<;>omega)|(refine⟨?_,?_,?_⟩<;>first|omega|(show _<_;(try simp only[List.length_set]);omega)|exact leT rfl))|(refine⟨?_,?_⟩<;>omega)|(refine⟨?_,?_,?_⟩<;>first|omega|(show _<_;(try simp only[List.length_set]);omega)|exact leT rfl)|(simp only[show rI.d=(0:Int)from rfl];omega));done));(conv=>whnf))))
    (refine EvDraw.one (.q 0 (.q 1 (.q 2 (.q 3 (.q 4 (.q 5 (.q 6 (.q 7 (.q 8 (.q 9 (.q 10 (.q 11 (.n 12 false (.q 13 (.n 14 false (.n 15 true (.q 16 (.z)) (.e)) (.e))) (.e)))))))))))))) (by kernel_rfl) ?_)
    ((conv=>whnf);(repeat(refine And.intro ?_ ?_;(focus((first|omega|exact⟨rfl,True.intro⟩|exact⟨rfl,rfl,True.intro⟩|rfl|(simp only[List.length_set];first|omega|(refine⟨?_,?_⟩<;>omega)|(refine⟨?_,?_,?_⟩<;>omega))|(intro hg;(try simp only[bB]at hg);first|omega|(refine⟨?_,?_⟩<;>omega)|(refine⟨?_,?_,?_⟩<;>first|omega|(show _<_;(try simp only[List.length_set]);omega)|exact leT rfl))|(refine⟨?_,?_⟩<;>omega)|(refine⟨?_,?_,?_⟩<;>first|omega|(show _<_;(try simp only[List.length_set]);omega)|exact leT rfl)|(simp only[show rI.d=(0:Int)from rfl];omega));done));(conv=>whnf))))
    refine EvCall.plain Try.call69 (.v (.int .i64 (highV d t (d.first + p.1) val))) rfl (fun ρ W hp => high_s nm A ln c d t (d.first + p.1) val W hd ht (by omega) hx) ?_
    ((conv=>whnf);(repeat(refine And.intro ?_ ?_;(focus((first|omega|exact⟨rfl,True.intro⟩|exact⟨rfl,rfl,True.intro⟩|rfl|(simp only[List.length_set];first|omega|(refine⟨?_,?_⟩<;>omega)|(refine⟨?_,?_,?_⟩<;>omega))|(intro hg;(try simp only[bB]at hg);first|omega|(refine⟨?_,?_⟩<;>omega)|(refine⟨?_,?_,?_⟩<;>first|omega|(show _<_;(try simp only[List.length_set]);omega)|exact leT rfl))|(refine⟨?_,?_⟩<;>omega)|(refine⟨?_,?_,?_⟩<;>first|omega|(show _<_;(try simp only[List.length_set]);omega)|exact leT rfl)|(simp only[show rI.d=(0:Int)from rfl];omega));done));(conv=>whnf))))
    refine EvBi.append (R := rI) tyok22 rfl tyok3 rfl (by decide) rfl rfl hll.symm (by rw [hll]; exact q2) [capF d es t val p.1] (fun ρ W hp => hp.lit (R := rI) (ys := [capF d es t val p.1]) rfl (by decide) (by simp) (by omega) rfl) (by rw [hll]; show (_ + 1) * 8 ≤ _; omega) (by rw [hll]; show _ + 1 ≤ _; omega) (fun cap' hq1 hq2 => ?_)
    rw [← capK_succ, hll] at *
    ((conv=>whnf);(repeat(refine And.intro ?_ ?_;(focus((first|omega|exact⟨rfl,True.intro⟩|exact⟨rfl,rfl,True.intro⟩|rfl|(simp only[List.length_set];first|omega|(refine⟨?_,?_⟩<;>omega)|(refine⟨?_,?_,?_⟩<;>omega))|(intro hg;(try simp only[bB]at hg);first|omega|(refine⟨?_,?_⟩<;>omega)|(refine⟨?_,?_,?_⟩<;>first|omega|(show _<_;(try simp only[List.length_set]);omega)|exact leT rfl))|(refine⟨?_,?_⟩<;>omega)|(refine⟨?_,?_,?_⟩<;>first|omega|(show _<_;(try simp only[List.length_set]);omega)|exact leT rfl)|(simp only[show rI.d=(0:Int)from rfl];omega));done));(conv=>whnf))))
    refine LoopI.back (p.1 + 1, cap') ⟨by show p.1 + 1 ≤ es.length; omega, hq1, hq2⟩ (by show es.length - (p.1 + 1) < es.length - p.1; omega) (Sub.of [(2, 4)] [] rfl ?_)
    ((repeat' (refine And.intro ?_ ?_)) <;> first | rfl | exact True.intro | omega)
  · simp only [decide_eq_false_iff_not] at g1
    have hsp : es.length = p.1 := by omega
    rw [hsp]
    ((conv=>whnf);(repeat(refine And.intro ?_ ?_;(focus((first|omega|exact⟨rfl,True.intro⟩|exact⟨rfl,rfl,True.intro⟩|rfl|(simp only[List.length_set];first|omega|(refine⟨?_,?_⟩<;>omega)|(refine⟨?_,?_,?_⟩<;>omega))|(intro hg;(try simp only[bB]at hg);first|omega|(refine⟨?_,?_⟩<;>omega)|(refine⟨?_,?_,?_⟩<;>first|omega|(show _<_;(try simp only[List.length_set]);omega)|exact leT rfl))|(refine⟨?_,?_⟩<;>omega)|(refine⟨?_,?_,?_⟩<;>first|omega|(show _<_;(try simp only[List.length_set]);omega)|exact leT rfl)|(simp only[show rI.d=(0:Int)from rfl];omega));done));(conv=>whnf))))
    exact EvRet.rows (R := rI) hll.symm (by rw [hll]; exact q2) rfl rfl
set_option maxRecDepth 10000 in
theorem ref_through_s (V v : Value) (d : Dc) (l : List Cl) (t val : Int) (w : World) (h : DeclIs w V d) (hI : DcI d) (hvc : validCode d = 0) (hll : l.length ≤ 4096) (hlv : ∀ c ∈ l, validB d c = true) (hv : RowsIn rC w v l) (ht : -1000000000 ≤ t ∧ t ≤ 1000000000) :
    Con Try.prog 50 #[V, v, .int .i64 t, .int .i64 val] w (RetRowsE rI 3 w (thR d l t val).1 (thR d l t val).2) := by
  have hD := h
  obtain ⟨nm, A, c, lb, rfl, hnm, hl, hS⟩ := h
  obtain ⟨A1, c1, rfl, e1, e2⟩ := hv.form
  have hbd := valid_bounds hvc
  have hsp : (spanN d : Int) = d.last - d.first + 1 := by unfold spanN; omega
  have hl1 := rLoL_len d l (spanN d)
  have hl2 := rHiL_len d l (spanN d)
  refine enter tabOk mixed Try.func50 rfl Try.ntmps50 Try.results50 [.a (dcS nm (.v (.slice A lb.length c)) d), .s 0 4 l.length c1, .v (.int .i64 t), .v (.int .i64 val)] (fun _ => A1) [⟨0, false, 52, 4, c1, .rows Cl rC (l)⟩] 1 rfl rfl (.ro (hp0 _ _ _) _ rfl rfl rfl (ro_rows hv rfl _)) ?_
  ((conv=>whnf);(repeat(refine And.intro ?_ ?_;(focus((first|omega|exact⟨rfl,True.intro⟩|exact⟨rfl,rfl,True.intro⟩|rfl|(simp only[List.length_set];first|omega|(refine⟨?_,?_⟩<;>omega)|(refine⟨?_,?_,?_⟩<;>omega))|(intro hg;(try simp only[bB]at hg);first|omega|(refine⟨?_,?_⟩<;>omega)|(refine⟨?_,?_,?_⟩<;>first|omega|(show _<_;(try simp only[List.length_set]);omega)|exact leT rfl))|(refine⟨?_,?_⟩<;>omega)|(refine⟨?_,?_,?_⟩<;>first|omega|(show _<_;(try simp only[List.length_set]);omega)|exact leT rfl)|(simp only[show rI.d=(0:Int)from rfl];omega));done));(conv=>whnf))))
  rcases two_ok hvc hll hlv with ⟨hok, hN⟩ | ⟨hno, hN⟩
  · skip
    refine EvCall.two (ty := 3) (xs := rLoL d l (spanN d)) (ys := rHiL d l (spanN d)) (envES d.first 0) (envES_den _ _) (envES_lt _ _) Try.call21 (fun ρ W hp => by
      have := ref_new_s _ _ d l W (hD.below hp.bel) hI (hp.rowsIn (R := rC) (n := 0) (c := c1) rfl (by decide) e1 e2 4)
      rw [hN] at this
      exact this) (fun p1 p2 q1 q2 q3 q4 => ?_)
    ((conv=>whnf);(repeat(refine And.intro ?_ ?_;(focus((first|omega|exact⟨rfl,True.intro⟩|exact⟨rfl,rfl,True.intro⟩|rfl|(simp only[List.length_set];first|omega|(refine⟨?_,?_⟩<;>omega)|(refine⟨?_,?_,?_⟩<;>omega))|(intro hg;(try simp only[bB]at hg);first|omega|(refine⟨?_,?_⟩<;>omega)|(refine⟨?_,?_,?_⟩<;>first|omega|(show _<_;(try simp only[List.length_set]);omega)|exact leT rfl))|(refine⟨?_,?_⟩<;>omega)|(refine⟨?_,?_,?_⟩<;>first|omega|(show _<_;(try simp only[List.length_set]);omega)|exact leT rfl)|(simp only[show rI.d=(0:Int)from rfl];omega));done));(conv=>whnf))))
    refine EvIf.neg rfl ?_
    ((conv=>whnf);(repeat(refine And.intro ?_ ?_;(focus((first|omega|exact⟨rfl,True.intro⟩|exact⟨rfl,rfl,True.intro⟩|rfl|(simp only[List.length_set];first|omega|(refine⟨?_,?_⟩<;>omega)|(refine⟨?_,?_,?_⟩<;>omega))|(intro hg;(try simp only[bB]at hg);first|omega|(refine⟨?_,?_⟩<;>omega)|(refine⟨?_,?_,?_⟩<;>first|omega|(show _<_;(try simp only[List.length_set]);omega)|exact leT rfl))|(refine⟨?_,?_⟩<;>omega)|(refine⟨?_,?_,?_⟩<;>first|omega|(show _<_;(try simp only[List.length_set]);omega)|exact leT rfl)|(simp only[show rI.d=(0:Int)from rfl];omega));done));(conv=>whnf))))
    refine EvIf.split (fun g => ?_) (fun g => ?_)
    · have hin : t < d.first ∨ d.last < t := by simpa using g
      have hr : thR d l t val = ([], 9) := by rw [thR, hN, if_neg (by simp), if_pos hin]
      rw [hr]
      ((conv=>whnf);(repeat(refine And.intro ?_ ?_;(focus((first|omega|exact⟨rfl,True.intro⟩|exact⟨rfl,rfl,True.intro⟩|rfl|(simp only[List.length_set];first|omega|(refine⟨?_,?_⟩<;>omega)|(refine⟨?_,?_,?_⟩<;>omega))|(intro hg;(try simp only[bB]at hg);first|omega|(refine⟨?_,?_⟩<;>omega)|(refine⟨?_,?_,?_⟩<;>first|omega|(show _<_;(try simp only[List.length_set]);omega)|exact leT rfl))|(refine⟨?_,?_⟩<;>omega)|(refine⟨?_,?_,?_⟩<;>first|omega|(show _<_;(try simp only[List.length_set]);omega)|exact leT rfl)|(simp only[show rI.d=(0:Int)from rfl];omega));done));(conv=>whnf))))
      exact EvRet.rowsE_nil rfl rfl
    have hin : ¬ (t < d.first ∨ d.last < t) := by simp at g; omega
    obtain ⟨hL, hH⟩ := rL_hist hvc hlv hsp hok
    have r1 := (rL_get d l (spanN d) (t - d.first).toNat (by omega)).1
    have r2 := (rL_get d l (spanN d) (t - d.first).toNat (by omega)).2
    rw [show d.first + ((t - d.first).toNat : Int) = t by omega] at r1 r2
    have b1 := hist_bd5 hvc hL (t - d.first).toNat
    have b2 := hist_bd5 hvc hH (t - d.first).toNat
    ((conv=>whnf);(repeat(refine And.intro ?_ ?_;(focus((first|omega|exact⟨rfl,True.intro⟩|exact⟨rfl,rfl,True.intro⟩|rfl|(simp only[List.length_set];first|omega|(refine⟨?_,?_⟩<;>omega)|(refine⟨?_,?_,?_⟩<;>omega))|(intro hg;(try simp only[bB]at hg);first|omega|(refine⟨?_,?_⟩<;>omega)|(refine⟨?_,?_,?_⟩<;>first|omega|(show _<_;(try simp only[List.length_set]);omega)|exact leT rfl))|(refine⟨?_,?_⟩<;>omega)|(refine⟨?_,?_,?_⟩<;>first|omega|(show _<_;(try simp only[List.length_set]);omega)|exact leT rfl)|(simp only[show rI.d=(0:Int)from rfl];omega));done));(conv=>whnf))))
    refine EvIf.split (fun g2 => ?_) (fun g2 => ?_)
    · simp only [Bool.or_eq_true, decide_eq_true_eq] at g2
      have g3 : val < (rLoL d l (spanN d)).getD (t - d.first).toNat 0 ∨ (rHiL d l (spanN d)).getD (t - d.first).toNat 0 < val := g2
      rw [r1, r2] at g3
      have hr : thR d l t val = ([], 5) := by rw [thR, hN, if_neg (by simp), if_neg hin, if_pos g3]
      rw [hr]
      ((conv=>whnf);(repeat(refine And.intro ?_ ?_;(focus((first|omega|exact⟨rfl,True.intro⟩|exact⟨rfl,rfl,True.intro⟩|rfl|(simp only[List.length_set];first|omega|(refine⟨?_,?_⟩<;>omega)|(refine⟨?_,?_,?_⟩<;>omega))|(intro hg;(try simp only[bB]at hg);first|omega|(refine⟨?_,?_⟩<;>omega)|(refine⟨?_,?_,?_⟩<;>first|omega|(show _<_;(try simp only[List.length_set]);omega)|exact leT rfl))|(refine⟨?_,?_⟩<;>omega)|(refine⟨?_,?_,?_⟩<;>first|omega|(show _<_;(try simp only[List.length_set]);omega)|exact leT rfl)|(simp only[show rI.d=(0:Int)from rfl];omega));done));(conv=>whnf))))
      exact EvRet.rowsE_nil rfl rfl
    · simp only [Bool.or_eq_false_iff, decide_eq_false_iff_not] at g2
      have g3 : ¬ val < (rLoL d l (spanN d)).getD (t - d.first).toNat 0 ∧ ¬ (rHiL d l (spanN d)).getD (t - d.first).toNat 0 < val := g2
      have g4 := g3
      rw [r1, r2] at g3
      have hr : thR d l t val = (capL d (rHiL d l (spanN d)) t val, 0) := by rw [thR, hN, if_neg (by simp), if_neg hin, if_neg (fun h => by omega)]
      rw [hr]
      ((conv=>whnf);(repeat(refine And.intro ?_ ?_;(focus((first|omega|exact⟨rfl,True.intro⟩|exact⟨rfl,rfl,True.intro⟩|rfl|(simp only[List.length_set];first|omega|(refine⟨?_,?_⟩<;>omega)|(refine⟨?_,?_,?_⟩<;>omega))|(intro hg;(try simp only[bB]at hg);first|omega|(refine⟨?_,?_⟩<;>omega)|(refine⟨?_,?_,?_⟩<;>first|omega|(show _<_;(try simp only[List.length_set]);omega)|exact leT rfl))|(refine⟨?_,?_⟩<;>omega)|(refine⟨?_,?_,?_⟩<;>first|omega|(show _<_;(try simp only[List.length_set]);omega)|exact leT rfl)|(simp only[show rI.d=(0:Int)from rfl];omega));done));(conv=>whnf))))
      refine EvCall.rows (R := rI) (ty := 3) (xs := capL d (rHiL d l (spanN d)) t val) Try.call86 (fun ρ W hp => ref_capped_s nm A lb.length c d _ (rHiL d l (spanN d)) t val W (hp.rowsIn (R := rI) (n := 3) (c := p2) rfl (by decide) q3 q4 1) (dcS_of hvc) (by omega) (by omega) (by omega) (by omega)) (fun cap hc1 hc2 => ?_)
      ((conv=>whnf);(repeat(refine And.intro ?_ ?_;(focus((first|omega|exact⟨rfl,True.intro⟩|exact⟨rfl,rfl,True.intro⟩|rfl|(simp only[List.length_set];first|omega|(refine⟨?_,?_⟩<;>omega)|(refine⟨?_,?_,?_⟩<;>omega))|(intro hg;(try simp only[bB]at hg);first|omega|(refine⟨?_,?_⟩<;>omega)|(refine⟨?_,?_,?_⟩<;>first|omega|(show _<_;(try simp only[List.length_set]);omega)|exact leT rfl))|(refine⟨?_,?_⟩<;>omega)|(refine⟨?_,?_,?_⟩<;>first|omega|(show _<_;(try simp only[List.length_set]);omega)|exact leT rfl)|(simp only[show rI.d=(0:Int)from rfl];omega));done));(conv=>whnf))))
      exact EvRet.rowsE (R := rI) rfl hc1 rfl rfl rfl
  · have hr : thR d l t val = ([], 13) := by rw [thR, hN, if_pos (by simp)]
    rw [hr]
    refine EvCall.two (ty := 3) (xs := []) (ys := []) (envES 0 13) (envES_den _ _) (envES_lt _ _) Try.call21 (fun ρ W hp => by
      have := ref_new_s _ _ d l W (hD.below hp.bel) hI (hp.rowsIn (R := rC) (n := 0) (c := c1) rfl (by decide) e1 e2 4)
      rw [hN] at this
      exact this) (fun p1 p2 q1 q2 q3 q4 => ?_)
    ((conv=>whnf);(repeat(refine And.intro ?_ ?_;(focus((first|omega|exact⟨rfl,True.intro⟩|exact⟨rfl,rfl,True.intro⟩|rfl|(simp only[List.length_set];first|omega|(refine⟨?_,?_⟩<;>omega)|(refine⟨?_,?_,?_⟩<;>omega))|(intro hg;(try simp only[bB]at hg);first|omega|(refine⟨?_,?_⟩<;>omega)|(refine⟨?_,?_,?_⟩<;>first|omega|(show _<_;(try simp only[List.length_set]);omega)|exact leT rfl))|(refine⟨?_,?_⟩<;>omega)|(refine⟨?_,?_,?_⟩<;>first|omega|(show _<_;(try simp only[List.length_set]);omega)|exact leT rfl)|(simp only[show rI.d=(0:Int)from rfl];omega));done));(conv=>whnf))))
    refine EvIf.pos rfl ?_
    ((conv=>whnf);(repeat(refine And.intro ?_ ?_;(focus((first|omega|exact⟨rfl,True.intro⟩|exact⟨rfl,rfl,True.intro⟩|rfl|(simp only[List.length_set];first|omega|(refine⟨?_,?_⟩<;>omega)|(refine⟨?_,?_,?_⟩<;>omega))|(intro hg;(try simp only[bB]at hg);first|omega|(refine⟨?_,?_⟩<;>omega)|(refine⟨?_,?_,?_⟩<;>first|omega|(show _<_;(try simp only[List.length_set]);omega)|exact leT rfl))|(refine⟨?_,?_⟩<;>omega)|(refine⟨?_,?_,?_⟩<;>first|omega|(show _<_;(try simp only[List.length_set]);omega)|exact leT rfl)|(simp only[show rI.d=(0:Int)from rfl];omega));done));(conv=>whnf))))
    exact EvRet.rowsE_nil rfl rfl
set_option maxRecDepth 20000 in
theorem ref_steep_s (V v : Value) (d : Dc) (l : List Cl) (s t : Int) (down : Bool) (w : World) (h : DeclIs w V d) (hI : DcI d) (hvc : validCode d = 0) (hll : l.length ≤ 4096) (hlv : ∀ c ∈ l, validB d c = true) (hv : RowsIn rC w v l) (hs : -1000000000 ≤ s ∧ s ≤ 1000000000) (ht : -1000000000 ≤ t ∧ t ≤ 1000000000) :
    Con Try.prog 43 #[V, v, .int .i64 s, .int .i64 t, .bool down] w (RetRowsE rI 3 w (stR d l s t down).1 (stR d l s t down).2) := by
  have hD := h
  obtain ⟨nm, A, c, lb, rfl, hnm, hl, hS⟩ := h
  obtain ⟨A1, c1, rfl, e1, e2⟩ := hv.form
  have hbd := valid_bounds hvc
  have hsp : (spanN d : Int) = d.last - d.first + 1 := by unfold spanN; omega
  have hl1 := rLoL_len d l (spanN d)
  have hl2 := rHiL_len d l (spanN d)
  refine enter tabOk mixed Try.func43 rfl Try.ntmps43 Try.results43 [.a (dcS nm (.v (.slice A lb.length c)) d), .s 0 4 l.length c1, .v (.int .i64 s), .v (.int .i64 t), .v (.bool down)] (fun _ => A1) [⟨0, false, 52, 4, c1, .rows Cl rC (l)⟩] 1 rfl rfl (.ro (hp0 _ _ _) _ rfl rfl rfl (ro_rows hv rfl _)) ?_
  ((conv=>whnf);(repeat(refine And.intro ?_ ?_;(focus((first|omega|exact⟨rfl,True.intro⟩|exact⟨rfl,rfl,True.intro⟩|rfl|(simp only[List.length_set];first|omega|(refine⟨?_,?_⟩<;>omega)|(refine⟨?_,?_,?_⟩<;>omega))|(intro hg;(try simp only[bB]at hg);first|omega|(refine⟨?_,?_⟩<;>omega)|(refine⟨?_,?_,?_⟩<;>first|omega|(show _<_;(try simp only[List.length_set]);omega)|exact leT rfl))|(refine⟨?_,?_⟩<;>omega)|(refine⟨?_,?_,?_⟩<;>first|omega|(show _<_;(try simp only[List.length_set]);omega)|exact leT rfl)|(simp only[show rI.d=(0:Int)from rfl];omega));done));(conv=>whnf))))
  rcases two_ok hvc hll hlv with ⟨hok, hN⟩ | ⟨hno, hN⟩
  · obtain ⟨hL, hH⟩ := rL_hist hvc hlv hsp hok
    have hcb : ∀ i, (-1099511627776 ≤ (rLoL d l (spanN d)).getD i 0 ∧ (rLoL d l (spanN d)).getD i 0 ≤ 1099511627776) ∧ -1099511627776 ≤ (rHiL d l (spanN d)).getD i 0 ∧ (rHiL d l (spanN d)).getD i 0 ≤ 1099511627776 := fun i => ⟨hist_bd5 hvc hL i, hist_bd5 hvc hH i⟩
    refine EvCall.two (ty := 3) (xs := rLoL d l (spanN d)) (ys := rHiL d l (spanN d)) (envES d.first 0) (envES_den _ _) (envES_lt _ _) Try.call21 (fun ρ W hp => by
      have := ref_new_s _ _ d l W (hD.below hp.bel) hI (hp.rowsIn (R := rC) (n := 0) (c := c1) rfl (by decide) e1 e2 4)
      rw [hN] at this
      exact this) (fun p1 p2 q1 q2 q3 q4 => ?_)
    ((conv=>whnf);(repeat(refine And.intro ?_ ?_;(focus((first|omega|exact⟨rfl,True.intro⟩|exact⟨rfl,rfl,True.intro⟩|rfl|(simp only[List.length_set];first|omega|(refine⟨?_,?_⟩<;>omega)|(refine⟨?_,?_,?_⟩<;>omega))|(intro hg;(try simp only[bB]at hg);first|omega|(refine⟨?_,?_⟩<;>omega)|(refine⟨?_,?_,?_⟩<;>first|omega|(show _<_;(try simp only[List.length_set]);omega)|exact leT rfl))|(refine⟨?_,?_⟩<;>omega)|(refine⟨?_,?_,?_⟩<;>first|omega|(show _<_;(try simp only[List.length_set]);omega)|exact leT rfl)|(simp only[show rI.d=(0:Int)from rfl];omega));done));(conv=>whnf))))
    refine EvIf.neg rfl ?_
    ((conv=>whnf);(repeat(refine And.intro ?_ ?_;(focus((first|omega|exact⟨rfl,True.intro⟩|exact⟨rfl,rfl,True.intro⟩|rfl|(simp only[List.length_set];first|omega|(refine⟨?_,?_⟩<;>omega)|(refine⟨?_,?_,?_⟩<;>omega))|(intro hg;(try simp only[bB]at hg);first|omega|(refine⟨?_,?_⟩<;>omega)|(refine⟨?_,?_,?_⟩<;>first|omega|(show _<_;(try simp only[List.length_set]);omega)|exact leT rfl))|(refine⟨?_,?_⟩<;>omega)|(refine⟨?_,?_,?_⟩<;>first|omega|(show _<_;(try simp only[List.length_set]);omega)|exact leT rfl)|(simp only[show rI.d=(0:Int)from rfl];omega));done));(conv=>whnf))))
    refine EvIf.split (fun g => ?_) (fun g => ?_)
    · have hin : (s < d.first ∨ d.last < s) ∨ t < d.first ∨ d.last < t := by simp at g; omega
      have hr : stR d l s t down = ([], 9) := by rw [stR, hN, if_neg (by simp), if_pos hin]
      rw [hr]
      ((conv=>whnf);(repeat(refine And.intro ?_ ?_;(focus((first|omega|exact⟨rfl,True.intro⟩|exact⟨rfl,rfl,True.intro⟩|rfl|(simp only[List.length_set];first|omega|(refine⟨?_,?_⟩<;>omega)|(refine⟨?_,?_,?_⟩<;>omega))|(intro hg;(try simp only[bB]at hg);first|omega|(refine⟨?_,?_⟩<;>omega)|(refine⟨?_,?_,?_⟩<;>first|omega|(show _<_;(try simp only[List.length_set]);omega)|exact leT rfl))|(refine⟨?_,?_⟩<;>omega)|(refine⟨?_,?_,?_⟩<;>first|omega|(show _<_;(try simp only[List.length_set]);omega)|exact leT rfl)|(simp only[show rI.d=(0:Int)from rfl];omega));done));(conv=>whnf))))
      exact EvRet.rowsE_nil rfl rfl
    have hin : ¬ ((s < d.first ∨ d.last < s) ∨ t < d.first ∨ d.last < t) := by simp at g; omega
    have r1 := (rL_get d l (spanN d) (s - d.first).toNat (by omega)).1
    have r2 := (rL_get d l (spanN d) (t - d.first).toNat (by omega)).1
    rw [show d.first + ((s - d.first).toNat : Int) = s by omega] at r1
    rw [show d.first + ((t - d.first).toNat : Int) = t by omega] at r2
    have r1' : (rLoL d l (spanN d)).getD (s - d.first).toNat rI.d = rLo d l s := r1
    have r2' : (rLoL d l (spanN d)).getD (t - d.first).toNat rI.d = rLo d l t := r2
    have hr : stR d l s t down = (capL d (capL d (rHiL d l (spanN d)) s (max (rLo d l s) (rLo d l t - stM d l s t down))) t (max (rLo d l s) (rLo d l t - stM d l s t down) + stM d l s t down), 0) := by
      rw [stR, hN, if_neg (by simp), if_neg hin]
      unfold stL stA
      rw [show d.first + ((s - d.first).toNat : Int) = s by omega, show d.first + ((t - d.first).toNat : Int) = t by omega]
    obtain ⟨f1, f2, f3⟩ := st_facts (s := s) (t := t) (down := down) hvc hlv hok (by omega) (by omega)
    have f1' := f1
    have f2' := f2
    rw [← r1'] at f1'
    rw [← r2'] at f2'
    rw [hr]
    ((conv=>whnf);(repeat(refine And.intro ?_ ?_;(focus((first|omega|exact⟨rfl,True.intro⟩|exact⟨rfl,rfl,True.intro⟩|rfl|(simp only[List.length_set];first|omega|(refine⟨?_,?_⟩<;>omega)|(refine⟨?_,?_,?_⟩<;>omega))|(intro hg;(try simp only[bB]at hg);first|omega|(refine⟨?_,?_⟩<;>omega)|(refine⟨?_,?_,?_⟩<;>first|omega|(show _<_;(try simp only[List.length_set]);omega)|exact leT rfl))|(refine⟨?_,?_⟩<;>omega)|(refine⟨?_,?_,?_⟩<;>first|omega|(show _<_;(try simp only[List.length_set]);omega)|exact leT rfl)|(simp only[show rI.d=(0:Int)from rfl];omega));done));(conv=>whnf))))
    refine EvCall.plain Try.call22 (.t [.v (.int .i64 (chLo d ⟨d.first, rLoL d l (spanN d), rHiL d l (spanN d)⟩ s t)), .v (.int .i64 (chHi d ⟨d.first, rLoL d l (spanN d), rHiL d l (spanN d)⟩ s t))]) rfl (fun ρ W hp => ref_change_s nm _ _ _ d ⟨d.first, rLoL d l (spanN d), rHiL d l (spanN d)⟩ _ _ _ _ _ _ s t W (dcS_of hvc) (hp.rowsIn (R := rI) (n := 2) (c := p1) rfl (by decide) q1 q2 1) (hp.rowsIn (R := rI) (n := 3) (c := p2) rfl (by decide) q3 q4 1) (by omega) (by omega) (by show 0 ≤ d.first ∧ d.first ≤ 1048576; omega) (by unfold inE; simp only; omega) (by unfold inE; simp only; omega) hcb) ?_
    cases down with
    | true =>
      have hm : stM d l s t true = chLo d ⟨d.first, rLoL d l (spanN d), rHiL d l (spanN d)⟩ s t := rfl
      rw [hm] at f3 ⊢
      generalize chLo d ⟨d.first, rLoL d l (spanN d), rHiL d l (spanN d)⟩ s t = m at f3 ⊢
      ((conv=>whnf);(repeat(refine And.intro ?_ ?_;(focus((first|omega|exact⟨rfl,True.intro⟩|exact⟨rfl,rfl,True.intro⟩|rfl|(simp only[List.length_set];first|omega|(refine⟨?_,?_⟩<;>omega)|(refine⟨?_,?_,?_⟩<;>omega))|(intro hg;(try simp only[bB]at hg);first|omega|(refine⟨?_,?_⟩<;>omega)|(refine⟨?_,?_,?_⟩<;>first|omega|(show _<_;(try simp only[List.length_set]);omega)|exact leT rfl))|(refine⟨?_,?_⟩<;>omega)|(refine⟨?_,?_,?_⟩<;>first|omega|(show _<_;(try simp only[List.length_set]);omega)|exact leT rfl)|(simp only[show rI.d=(0:Int)from rfl];omega));done));(conv=>whnf))))
      refine EvIf.pos rfl ?_
      ((conv=>whnf);(repeat(refine And.intro ?_ ?_;(focus((first|omega|exact⟨rfl,True.intro⟩|exact⟨rfl,rfl,True.intro⟩|rfl|(simp only[List.length_set];first|omega|(refine⟨?_,?_⟩<;>omega)|(refine⟨?_,?_,?_⟩<;>omega))|(intro hg;(try simp only[bB]at hg);first|omega|(refine⟨?_,?_⟩<;>omega)|(refine⟨?_,?_,?_⟩<;>first|omega|(show _<_;(try simp only[List.length_set]);omega)|exact leT rfl))|(refine⟨?_,?_⟩<;>omega)|(refine⟨?_,?_,?_⟩<;>first|omega|(show _<_;(try simp only[List.length_set]);omega)|exact leT rfl)|(simp only[show rI.d=(0:Int)from rfl];omega));done));(conv=>whnf))))
      (refine EvDraw.one (.q 0 (.q 1 (.q 2 (.q 3 (.q 4 (.q 5 (.q 6 (.q 7 (.q 8 (.q 9 (.q 10 (.q 11 (.q 12 (.q 13 (.q 14 (.q 15 (.q 16 (.q 17 (.q 18 (.q 19 (.z))))))))))))))))))))) (by kernel_rfl) ?_)
      ((conv=>whnf);(repeat(refine And.intro ?_ ?_;(focus((first|omega|exact⟨rfl,True.intro⟩|exact⟨rfl,rfl,True.intro⟩|rfl|(simp only[List.length_set];first|omega|(refine⟨?_,?_⟩<;>omega)|(refine⟨?_,?_,?_⟩<;>omega))|(intro hg;(try simp only[bB]at hg);first|omega|(refine⟨?_,?_⟩<;>omega)|(refine⟨?_,?_,?_⟩<;>first|omega|(show _<_;(try simp only[List.length_set]);omega)|exact leT rfl))|(refine⟨?_,?_⟩<;>omega)|(refine⟨?_,?_,?_⟩<;>first|omega|(show _<_;(try simp only[List.length_set]);omega)|exact leT rfl)|(simp only[show rI.d=(0:Int)from rfl];omega));done));(conv=>whnf))))
      (refine EvDraw.one (.q 0 (.q 1 (.q 2 (.q 3 (.q 4 (.q 5 (.q 7 (.q 8 (.q 9 (.q 10 (.n 6 false (.n 11 true (.q 12 (.q 13 (.z))) (.e)) (.e)))))))))))) (by kernel_rfl) ?_)
      ((conv=>whnf);(repeat(refine And.intro ?_ ?_;(focus((first|omega|exact⟨rfl,True.intro⟩|exact⟨rfl,rfl,True.intro⟩|rfl|(simp only[List.length_set];first|omega|(refine⟨?_,?_⟩<;>omega)|(refine⟨?_,?_,?_⟩<;>omega))|(intro hg;(try simp only[bB]at hg);first|omega|(refine⟨?_,?_⟩<;>omega)|(refine⟨?_,?_,?_⟩<;>first|omega|(show _<_;(try simp only[List.length_set]);omega)|exact leT rfl))|(refine⟨?_,?_⟩<;>omega)|(refine⟨?_,?_,?_⟩<;>first|omega|(show _<_;(try simp only[List.length_set]);omega)|exact leT rfl)|(simp only[show rI.d=(0:Int)from rfl];omega));done));(conv=>whnf))))
      simp only [r1', r2']
      refine EvCall.rows (R := rI) (ty := 3) (xs := capL d (rHiL d l (spanN d)) s (max (rLo d l s) (rLo d l t - m))) Try.call86 (fun ρ W hp => ref_capped_s nm A lb.length c d _ (rHiL d l (spanN d)) s _ W (hp.rowsIn (R := rI) (n := 3) (c := p2) rfl (by decide) q3 q4 1) (dcS_of hvc) (by omega) (by omega) (by omega) (by omega)) (fun cap hc1 hc2 => ?_)
      ((conv=>whnf);(repeat(refine And.intro ?_ ?_;(focus((first|omega|exact⟨rfl,True.intro⟩|exact⟨rfl,rfl,True.intro⟩|rfl|(simp only[List.length_set];first|omega|(refine⟨?_,?_⟩<;>omega)|(refine⟨?_,?_,?_⟩<;>omega))|(intro hg;(try simp only[bB]at hg);first|omega|(refine⟨?_,?_⟩<;>omega)|(refine⟨?_,?_,?_⟩<;>first|omega|(show _<_;(try simp only[List.length_set]);omega)|exact leT rfl))|(refine⟨?_,?_⟩<;>omega)|(refine⟨?_,?_,?_⟩<;>first|omega|(show _<_;(try simp only[List.length_set]);omega)|exact leT rfl)|(simp only[show rI.d=(0:Int)from rfl];omega));done));(conv=>whnf))))
      refine EvCall.rows (R := rI) (ty := 3) (xs := capL d (capL d (rHiL d l (spanN d)) s (max (rLo d l s) (rLo d l t - m))) t (max (rLo d l s) (rLo d l t - m) + m)) Try.call86 (fun ρ W hp => ref_capped_s nm A lb.length c d _ _ t _ W (hp.rowsIn (R := rI) (n := 5) (c := cap) (xs := capL d (rHiL d l (spanN d)) s (max (rLo d l s) (rLo d l t - m))) rfl (by decide) hc1 hc2 1) (dcS_of hvc) (by omega) (by omega) (by omega) (by rw [capL_len]; omega)) (fun cap2 hc3 hc4 => ?_)
      ((conv=>whnf);(repeat(refine And.intro ?_ ?_;(focus((first|omega|exact⟨rfl,True.intro⟩|exact⟨rfl,rfl,True.intro⟩|rfl|(simp only[List.length_set];first|omega|(refine⟨?_,?_⟩<;>omega)|(refine⟨?_,?_,?_⟩<;>omega))|(intro hg;(try simp only[bB]at hg);first|omega|(refine⟨?_,?_⟩<;>omega)|(refine⟨?_,?_,?_⟩<;>first|omega|(show _<_;(try simp only[List.length_set]);omega)|exact leT rfl))|(refine⟨?_,?_⟩<;>omega)|(refine⟨?_,?_,?_⟩<;>first|omega|(show _<_;(try simp only[List.length_set]);omega)|exact leT rfl)|(simp only[show rI.d=(0:Int)from rfl];omega));done));(conv=>whnf))))
      exact EvRet.rowsE (R := rI) rfl hc3 rfl rfl rfl
    | false =>
      have hm : stM d l s t false = chHi d ⟨d.first, rLoL d l (spanN d), rHiL d l (spanN d)⟩ s t := rfl
      rw [hm] at f3 ⊢
      generalize chHi d ⟨d.first, rLoL d l (spanN d), rHiL d l (spanN d)⟩ s t = m at f3 ⊢
      ((conv=>whnf);(repeat(refine And.intro ?_ ?_;(focus((first|omega|exact⟨rfl,True.intro⟩|exact⟨rfl,rfl,True.intro⟩|rfl|(simp only[List.length_set];first|omega|(refine⟨?_,?_⟩<;>omega)|(refine⟨?_,?_,?_⟩<;>omega))|(intro hg;(try simp only[bB]at hg);first|omega|(refine⟨?_,?_⟩<;>omega)|(refine⟨?_,?_,?_⟩<;>first|omega|(show _<_;(try simp only[List.length_set]);omega)|exact leT rfl))|(refine⟨?_,?_⟩<;>omega)|(refine⟨?_,?_,?_⟩<;>first|omega|(show _<_;(try simp only[List.length_set]);omega)|exact leT rfl)|(simp only[show rI.d=(0:Int)from rfl];omega));done));(conv=>whnf))))
      refine EvIf.neg rfl ?_
      ((conv=>whnf);(repeat(refine And.intro ?_ ?_;(focus((first|omega|exact⟨rfl,True.intro⟩|exact⟨rfl,rfl,True.intro⟩|rfl|(simp only[List.length_set];first|omega|(refine⟨?_,?_⟩<;>omega)|(refine⟨?_,?_,?_⟩<;>omega))|(intro hg;(try simp only[bB]at hg);first|omega|(refine⟨?_,?_⟩<;>omega)|(refine⟨?_,?_,?_⟩<;>first|omega|(show _<_;(try simp only[List.length_set]);omega)|exact leT rfl))|(refine⟨?_,?_⟩<;>omega)|(refine⟨?_,?_,?_⟩<;>first|omega|(show _<_;(try simp only[List.length_set]);omega)|exact leT rfl)|(simp only[show rI.d=(0:Int)from rfl];omega));done));(conv=>whnf))))
      (refine EvDraw.one (.q 0 (.q 1 (.q 2 (.q 3 (.q 4 (.q 5 (.q 6 (.q 7 (.q 8 (.q 9 (.q 10 (.q 11 (.q 12 (.q 13 (.q 14 (.q 15 (.q 16 (.q 17 (.q 18 (.q 19 (.z))))))))))))))))))))) (by kernel_rfl) ?_)
      ((conv=>whnf);(repeat(refine And.intro ?_ ?_;(focus((first|omega|exact⟨rfl,True.intro⟩|exact⟨rfl,rfl,True.intro⟩|rfl|(simp only[List.length_set];first|omega|(refine⟨?_,?_⟩<;>omega)|(refine⟨?_,?_,?_⟩<;>omega))|(intro hg;(try simp only[bB]at hg);first|omega|(refine⟨?_,?_⟩<;>omega)|(refine⟨?_,?_,?_⟩<;>first|omega|(show _<_;(try simp only[List.length_set]);omega)|exact leT rfl))|(refine⟨?_,?_⟩<;>omega)|(refine⟨?_,?_,?_⟩<;>first|omega|(show _<_;(try simp only[List.length_set]);omega)|exact leT rfl)|(simp only[show rI.d=(0:Int)from rfl];omega));done));(conv=>whnf))))
      (refine EvDraw.one (.q 0 (.q 1 (.q 2 (.q 3 (.q 4 (.q 5 (.q 7 (.q 8 (.q 9 (.q 10 (.n 6 false (.n 11 true (.q 12 (.q 13 (.z))) (.e)) (.e)))))))))))) (by kernel_rfl) ?_)
      ((conv=>whnf);(repeat(refine And.intro ?_ ?_;(focus((first|omega|exact⟨rfl,True.intro⟩|exact⟨rfl,rfl,True.intro⟩|rfl|(simp only[List.length_set];first|omega|(refine⟨?_,?_⟩<;>omega)|(refine⟨?_,?_,?_⟩<;>omega))|(intro hg;(try simp only[bB]at hg);first|omega|(refine⟨?_,?_⟩<;>omega)|(refine⟨?_,?_,?_⟩<;>first|omega|(show _<_;(try simp only[List.length_set]);omega)|exact leT rfl))|(refine⟨?_,?_⟩<;>omega)|(refine⟨?_,?_,?_⟩<;>first|omega|(show _<_;(try simp only[List.length_set]);omega)|exact leT rfl)|(simp only[show rI.d=(0:Int)from rfl];omega));done));(conv=>whnf))))
      simp only [r1', r2']
      refine EvCall.rows (R := rI) (ty := 3) (xs := capL d (rHiL d l (spanN d)) s (max (rLo d l s) (rLo d l t - m))) Try.call86 (fun ρ W hp => ref_capped_s nm A lb.length c d _ (rHiL d l (spanN d)) s _ W (hp.rowsIn (R := rI) (n := 3) (c := p2) rfl (by decide) q3 q4 1) (dcS_of hvc) (by omega) (by omega) (by omega) (by omega)) (fun cap hc1 hc2 => ?_)
      ((conv=>whnf);(repeat(refine And.intro ?_ ?_;(focus((first|omega|exact⟨rfl,True.intro⟩|exact⟨rfl,rfl,True.intro⟩|rfl|(simp only[List.length_set];first|omega|(refine⟨?_,?_⟩<;>omega)|(refine⟨?_,?_,?_⟩<;>omega))|(intro hg;(try simp only[bB]at hg);first|omega|(refine⟨?_,?_⟩<;>omega)|(refine⟨?_,?_,?_⟩<;>first|omega|(show _<_;(try simp only[List.length_set]);omega)|exact leT rfl))|(refine⟨?_,?_⟩<;>omega)|(refine⟨?_,?_,?_⟩<;>first|omega|(show _<_;(try simp only[List.length_set]);omega)|exact leT rfl)|(simp only[show rI.d=(0:Int)from rfl];omega));done));(conv=>whnf))))
      refine EvCall.rows (R := rI) (ty := 3) (xs := capL d (capL d (rHiL d l (spanN d)) s (max (rLo d l s) (rLo d l t - m))) t (max (rLo d l s) (rLo d l t - m) + m)) Try.call86 (fun ρ W hp => ref_capped_s nm A lb.length c d _ _ t _ W (hp.rowsIn (R := rI) (n := 5) (c := cap) (xs := capL d (rHiL d l (spanN d)) s (max (rLo d l s) (rLo d l t - m))) rfl (by decide) hc1 hc2 1) (dcS_of hvc) (by omega) (by omega) (by omega) (by rw [capL_len]; omega)) (fun cap2 hc3 hc4 => ?_)
      ((conv=>whnf);(repeat(refine And.intro ?_ ?_;(focus((first|omega|exact⟨rfl,True.intro⟩|exact⟨rfl,rfl,True.intro⟩|rfl|(simp only[List.length_set];first|omega|(refine⟨?_,?_⟩<;>omega)|(refine⟨?_,?_,?_⟩<;>omega))|(intro hg;(try simp only[bB]at hg);first|omega|(refine⟨?_,?_⟩<;>omega)|(refine⟨?_,?_,?_⟩<;>first|omega|(show _<_;(try simp only[List.length_set]);omega)|exact leT rfl))|(refine⟨?_,?_⟩<;>omega)|(refine⟨?_,?_,?_⟩<;>first|omega|(show _<_;(try simp only[List.length_set]);omega)|exact leT rfl)|(simp only[show rI.d=(0:Int)from rfl];omega));done));(conv=>whnf))))
      exact EvRet.rowsE (R := rI) rfl hc3 rfl rfl rfl
  · have hr : stR d l s t down = ([], 13) := by rw [stR, hN, if_pos (by simp)]
    rw [hr]
    refine EvCall.two (ty := 3) (xs := []) (ys := []) (envES 0 13) (envES_den _ _) (envES_lt _ _) Try.call21 (fun ρ W hp => by
      have := ref_new_s _ _ d l W (hD.below hp.bel) hI (hp.rowsIn (R := rC) (n := 0) (c := c1) rfl (by decide) e1 e2 4)
      rw [hN] at this
      exact this) (fun p1 p2 q1 q2 q3 q4 => ?_)
    ((conv=>whnf);(repeat(refine And.intro ?_ ?_;(focus((first|omega|exact⟨rfl,True.intro⟩|exact⟨rfl,rfl,True.intro⟩|rfl|(simp only[List.length_set];first|omega|(refine⟨?_,?_⟩<;>omega)|(refine⟨?_,?_,?_⟩<;>omega))|(intro hg;(try simp only[bB]at hg);first|omega|(refine⟨?_,?_⟩<;>omega)|(refine⟨?_,?_,?_⟩<;>first|omega|(show _<_;(try simp only[List.length_set]);omega)|exact leT rfl))|(refine⟨?_,?_⟩<;>omega)|(refine⟨?_,?_,?_⟩<;>first|omega|(show _<_;(try simp only[List.length_set]);omega)|exact leT rfl)|(simp only[show rI.d=(0:Int)from rfl];omega));done));(conv=>whnf))))
    refine EvIf.pos rfl ?_
    ((conv=>whnf);(repeat(refine And.intro ?_ ?_;(focus((first|omega|exact⟨rfl,True.intro⟩|exact⟨rfl,rfl,True.intro⟩|rfl|(simp only[List.length_set];first|omega|(refine⟨?_,?_⟩<;>omega)|(refine⟨?_,?_,?_⟩<;>omega))|(intro hg;(try simp only[bB]at hg);first|omega|(refine⟨?_,?_⟩<;>omega)|(refine⟨?_,?_,?_⟩<;>first|omega|(show _<_;(try simp only[List.length_set]);omega)|exact leT rfl))|(refine⟨?_,?_⟩<;>omega)|(refine⟨?_,?_,?_⟩<;>first|omega|(show _<_;(try simp only[List.length_set]);omega)|exact leT rfl)|(simp only[show rI.d=(0:Int)from rfl];omega));done));(conv=>whnf))))
    exact EvRet.rowsE_nil rfl rfl
end Go.Proofs.Ytnoenmacakbhdaa
