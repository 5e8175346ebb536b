
/- The reference's Count and the law HistoryCount, walked. -/
import Derived.Test.YtnoenmacakbhdaaJb
import Derived.Test.YtnoenmacakbhdaaHe
namespace Go.Proofs.Ytnoenmacakbhdaa
open Go.RowKit
set_option linter.unusedVariables false
set_option linter.unusedSimpArgs false

theorem wasL_zero (d : Dc) (l : List Cl) : wasL d l 0 = List.replicate (valS d) 0 := by
  refine list_ext' (by simp [wasL]) (fun i hi => ?_)
  rw [wasL_len] at hi
  have e : (wasL d l 0).getD i 0 = if 0 = 0 then 0 else min 10000 (cF d l (0 - 1) i) := map_get _ _ _ hi
  rw [e, if_pos rfl]
  simp [List.getD_eq_getElem?_getD, hi]
set_option maxHeartbeats 1000000 in
set_option maxRecDepth 20000 in
theorem ref_count_s (V v : Value) (d : Dc) (l : List Cl) (most : Int) (w : World) (h : DeclIs w V d) (hI : DcI d) (hT : DcT d) (hvc : validCode d = 0) (hll : l.length ≤ 4096) (hlv : ∀ c ∈ l, validB d c = true) (hv : RowsIn rC w v l) (hmo : -3000 ≤ most ∧ most ≤ 3000) :
    Con Try.prog 35 #[V, v, .int .i64 most] w (Ret w (.int .i64 (max 0 (min (min most 10000) (totN d l (spanN d)))))) := by
  have hD := h
  obtain ⟨nm, A, c, lb, rfl, hnm, hlab, hSh⟩ := h
  obtain ⟨A1, c1, rfl, e1, e2⟩ := hv.form
  have hbd := valid_bounds hvc
  have hsp : (spanN d : Int) = d.last - d.first + 1 := by unfold spanN; omega
  have hck := check5 hvc hll hlv
  obtain ⟨t1, t2, t3⟩ := hT
  obtain ⟨lim, hlim⟩ : ∃ lim, lim = min most 10000 := ⟨_, rfl⟩
  refine enter tabOk mixed Try.func35 rfl Try.ntmps35 Try.results35 [.a (dcS nm (.v (.slice A lb.length c)) d), .s 0 4 l.length c1, .v (.int .i64 most)] (fun _ => A1) [⟨0, false, 52, 4, c1, .rows Cl rC (l)⟩] 1 rfl rfl (.ro (hp0 _ _ _) _ rfl rfl rfl (ro_rows hv rfl _)) ?_
  ((conv=>whnf);(repeat(refine And.intro ?_ ?_;(focus((first|omega|exact⟨rfl,True.intro⟩|exact⟨rfl,rfl,True.intro⟩|rfl|(simp only[List.length_set];first|omega|(refine⟨?_,?_⟩<;>omega)|(refine⟨?_,?_,?_⟩<;>omega))|(intro hg;(try simp only[bB]at hg);first|omega|(refine⟨?_,?_⟩<;>omega)|(refine⟨?_,?_,?_⟩<;>first|omega|(show _<_;(try simp only[List.length_set]);omega)|exact leT rfl))|(refine⟨?_,?_⟩<;>omega)|(refine⟨?_,?_,?_⟩<;>first|omega|(show _<_;(try simp only[List.length_set]);omega)|exact leT rfl)|(simp only[show rI.d=(0:Int)from rfl];omega));done));(conv=>whnf))))
  refine EvCall.plain Try.call66 (.v (.int .i64 0)) rfl (fun ρ W hp => by
    have := ref_check_s _ _ d l W (hD.below hp.bel) hI (hp.rowsIn (R := rC) (n := 0) (c := c1) rfl (by decide) e1 e2 4)
    rw [hck] at this
    exact this) ?_
  ((conv=>whnf);(repeat(refine And.intro ?_ ?_;(focus((first|omega|exact⟨rfl,True.intro⟩|exact⟨rfl,rfl,True.intro⟩|rfl|(simp only[List.length_set];first|omega|(refine⟨?_,?_⟩<;>omega)|(refine⟨?_,?_,?_⟩<;>omega))|(intro hg;(try simp only[bB]at hg);first|omega|(refine⟨?_,?_⟩<;>omega)|(refine⟨?_,?_,?_⟩<;>first|omega|(show _<_;(try simp only[List.length_set]);omega)|exact leT rfl))|(refine⟨?_,?_⟩<;>omega)|(refine⟨?_,?_,?_⟩<;>first|omega|(show _<_;(try simp only[List.length_set]);omega)|exact leT rfl)|(simp only[show rI.d=(0:Int)from rfl];omega));done));(conv=>whnf))))
  refine EvIf.split (fun g => ?_) (fun g => ?_)
  · have g' : most < 0 := by simpa using g
    rw [show max 0 (min (min most 10000) (totN d l (spanN d))) = 0 by omega]
    ((conv=>whnf);(repeat(refine And.intro ?_ ?_;(focus((first|omega|exact⟨rfl,True.intro⟩|exact⟨rfl,rfl,True.intro⟩|rfl|(simp only[List.length_set];first|omega|(refine⟨?_,?_⟩<;>omega)|(refine⟨?_,?_,?_⟩<;>omega))|(intro hg;(try simp only[bB]at hg);first|omega|(refine⟨?_,?_⟩<;>omega)|(refine⟨?_,?_,?_⟩<;>first|omega|(show _<_;(try simp only[List.length_set]);omega)|exact leT rfl))|(refine⟨?_,?_⟩<;>omega)|(refine⟨?_,?_,?_⟩<;>first|omega|(show _<_;(try simp only[List.length_set]);omega)|exact leT rfl)|(simp only[show rI.d=(0:Int)from rfl];omega));done));(conv=>whnf))))
    exact EvRet.ret (fun _ => rfl)
  have g' : ¬ most < 0 := by simpa using g
  have hS : d.hi - d.lo + 1 = (valS d : Int) := by unfold valS; omega
  have hW0 := wasL_zero d l
  ((conv=>whnf);(repeat(refine And.intro ?_ ?_;(focus((first|omega|exact⟨rfl,True.intro⟩|exact⟨rfl,rfl,True.intro⟩|rfl|(simp only[List.length_set];first|omega|(refine⟨?_,?_⟩<;>omega)|(refine⟨?_,?_,?_⟩<;>omega))|(intro hg;(try simp only[bB]at hg);first|omega|(refine⟨?_,?_⟩<;>omega)|(refine⟨?_,?_,?_⟩<;>first|omega|(show _<_;(try simp only[List.length_set]);omega)|exact leT rfl))|(refine⟨?_,?_⟩<;>omega)|(refine⟨?_,?_,?_⟩<;>first|omega|(show _<_;(try simp only[List.length_set]);omega)|exact leT rfl)|(simp only[show rI.d=(0:Int)from rfl];omega));done));(conv=>whnf))))
  rw [hS]
  refine EvMake.full (R := rI) tyok22 rfl tyok3 rfl (by decide) 0 rfl (valS d) (by show 8 * valS d ≤ _; omega) (by omega) ?_
  rw [← hW0]
  ((conv=>whnf);(repeat(refine And.intro ?_ ?_;(focus((first|omega|exact⟨rfl,True.intro⟩|exact⟨rfl,rfl,True.intro⟩|rfl|(simp only[List.length_set];first|omega|(refine⟨?_,?_⟩<;>omega)|(refine⟨?_,?_,?_⟩<;>omega))|(intro hg;(try simp only[bB]at hg);first|omega|(refine⟨?_,?_⟩<;>omega)|(refine⟨?_,?_,?_⟩<;>first|omega|(show _<_;(try simp only[List.length_set]);omega)|exact leT rfl))|(refine⟨?_,?_⟩<;>omega)|(refine⟨?_,?_,?_⟩<;>first|omega|(show _<_;(try simp only[List.length_set]);omega)|exact leT rfl)|(simp only[show rI.d=(0:Int)from rfl];omega));done));(conv=>whnf))))
  rw [← hlim]
  refine EvLoop.inv (α := Nat) (fun k => k ≤ spanN d) (fun k => spanN d - k) (fun k => [(11, [], .v (.int .i64 (d.first + (k : Int)))), (10, [], .s 2 1 (valS d) (valS d)), (9, [], .v (.int .i64 ((valS d : Int)))), (8, [], .v (.int .i64 (lim))), (3, [], .p 1 0), (1, [], .s 0 4 l.length c1)])
    (fun k => [⟨2, true, 3, 1, valS d, .rows Int rI (wasL d l k)⟩, ⟨1, true, 27, 12, 1, .cs (dcS nm (.v (.slice A lb.length c)) d)⟩, ⟨0, false, 52, 4, c1, .rows Cl rC l⟩]) 3 0 (by omega) (Sub.of [] [] rfl ?_) ?_
  · ((repeat' (refine And.intro ?_ ?_)) <;> first | rfl | exact True.intro | omega)
  intro k hk
  have hwl := wasL_len d l k
  ((conv=>whnf);(repeat(refine And.intro ?_ ?_;(focus((first|omega|exact⟨rfl,True.intro⟩|exact⟨rfl,rfl,True.intro⟩|rfl|(simp only[List.length_set];first|omega|(refine⟨?_,?_⟩<;>omega)|(refine⟨?_,?_,?_⟩<;>omega))|(intro hg;(try simp only[bB]at hg);first|omega|(refine⟨?_,?_⟩<;>omega)|(refine⟨?_,?_,?_⟩<;>first|omega|(show _<_;(try simp only[List.length_set]);omega)|exact leT rfl))|(refine⟨?_,?_⟩<;>omega)|(refine⟨?_,?_,?_⟩<;>first|omega|(show _<_;(try simp only[List.length_set]);omega)|exact leT rfl)|(simp only[show rI.d=(0:Int)from rfl];omega));done));(conv=>whnf))))
  refine EvIf.split (fun g1 => ?_) (fun g1 => ?_)
  · simp only [decide_eq_true_eq] at g1
    have q1 := (lowB_le (d := d) (l := l) (t := d.first + k)).1 (Int.le_refl _)
    have q2 := (le_highB (d := d) (l := l) (t := d.first + k)).1 (Int.le_refl _)
    have q1' := q1.1
    have q2' := q2.1
    have hf0 := nowL_first (d := d) (l := l) (k := k)
    have hlast : ∀ b : Int, highB d l (d.first + k) < b → nowL d l k b = wasL d l (k + 1) := fun b h => nowL_last h
    have hfull : ∀ j : Nat, lowB d l (d.first + k) ≤ d.lo + j → d.lo + j ≤ highB d l (d.first + k) → ∀ r : Nat, (r : Int) = d.up - d.down + 1 → accV d l k j r = min 10000 (cF d l k j) := fun j h1 h2 r hr => accV_full hr ⟨h1, h2⟩
    ((conv=>whnf);(repeat(refine And.intro ?_ ?_;(focus((first|omega|exact⟨rfl,True.intro⟩|exact⟨rfl,rfl,True.intro⟩|rfl|(simp only[List.length_set];first|omega|(refine⟨?_,?_⟩<;>omega)|(refine⟨?_,?_,?_⟩<;>omega))|(intro hg;(try simp only[bB]at hg);first|omega|(refine⟨?_,?_⟩<;>omega)|(refine⟨?_,?_,?_⟩<;>first|omega|(show _<_;(try simp only[List.length_set]);omega)|exact leT rfl))|(refine⟨?_,?_⟩<;>omega)|(refine⟨?_,?_,?_⟩<;>first|omega|(show _<_;(try simp only[List.length_set]);omega)|exact leT rfl)|(simp only[show rI.d=(0:Int)from rfl];omega));done));(conv=>whnf))))
    refine EvCall.plain Try.call80 (.t [.v (.int .i64 (lowB d l (d.first + k))), .v (.int .i64 (highB d l (d.first + k)))]) rfl (fun ρ W hp => ref_band_s nm _ _ _ _ d l _ W (hp.rowsIn (R := rC) (n := 0) (c := c1) rfl (by decide) e1 e2 4)) ?_
    generalize lowB d l (d.first + k) = LB at *
    generalize highB d l (d.first + k) = HB at *
    ((conv=>whnf);(repeat(refine And.intro ?_ ?_;(focus((first|omega|exact⟨rfl,True.intro⟩|exact⟨rfl,rfl,True.intro⟩|rfl|(simp only[List.length_set];first|omega|(refine⟨?_,?_⟩<;>omega)|(refine⟨?_,?_,?_⟩<;>omega))|(intro hg;(try simp only[bB]at hg);first|omega|(refine⟨?_,?_⟩<;>omega)|(refine⟨?_,?_,?_⟩<;>first|omega|(show _<_;(try simp only[List.length_set]);omega)|exact leT rfl))|(refine⟨?_,?_⟩<;>omega)|(refine⟨?_,?_,?_⟩<;>first|omega|(show _<_;(try simp only[List.length_set]);omega)|exact leT rfl)|(simp only[show rI.d=(0:Int)from rfl];omega));done));(conv=>whnf))))
    refine EvMake.full (R := rI) tyok22 rfl tyok3 rfl (by decide) 0 rfl (valS d) (by show 8 * valS d ≤ _; omega) (by omega) ?_
    rw [← hf0]
    ((conv=>whnf);(repeat(refine And.intro ?_ ?_;(focus((first|omega|exact⟨rfl,True.intro⟩|exact⟨rfl,rfl,True.intro⟩|rfl|(simp only[List.length_set];first|omega|(refine⟨?_,?_⟩<;>omega)|(refine⟨?_,?_,?_⟩<;>omega))|(intro hg;(try simp only[bB]at hg);first|omega|(refine⟨?_,?_⟩<;>omega)|(refine⟨?_,?_,?_⟩<;>first|omega|(show _<_;(try simp only[List.length_set]);omega)|exact leT rfl))|(refine⟨?_,?_⟩<;>omega)|(refine⟨?_,?_,?_⟩<;>first|omega|(show _<_;(try simp only[List.length_set]);omega)|exact leT rfl)|(simp only[show rI.d=(0:Int)from rfl];omega));done));(conv=>whnf))))
    refine EvLoop.inv (α := Int) (fun b => LB ≤ b) (fun b => (HB + 1 - b).toNat) (fun b => [(15, [], .v (.int .i64 (b))), (14, [], .s 3 1 (valS d) (valS d)), (13, [], .v (.int .i64 (HB))), (11, [], .v (.int .i64 (d.first + (k : Int)))), (10, [], .s 2 1 (valS d) (valS d)), (9, [], .v (.int .i64 ((valS d : Int)))), (8, [], .v (.int .i64 (lim))), (3, [], .p 1 0), (1, [], .s 0 4 l.length c1)])
      (fun b => [⟨3, true, 3, 1, valS d, .rows Int rI (nowL d l k b)⟩, ⟨2, true, 3, 1, valS d, .rows Int rI (wasL d l k)⟩, ⟨1, true, 27, 12, 1, .cs (dcS nm (.v (.slice A lb.length c)) d)⟩, ⟨0, false, 52, 4, c1, .rows Cl rC l⟩]) 4 LB (Int.le_refl _) (Sub.of [] [] rfl ?_) ?_
    · ((repeat' (refine And.intro ?_ ?_)) <;> first | rfl | exact True.intro | omega)
    intro b hb
    ((conv=>whnf);(repeat(refine And.intro ?_ ?_;(focus((first|omega|exact⟨rfl,True.intro⟩|exact⟨rfl,rfl,True.intro⟩|rfl|(simp only[List.length_set];first|omega|(refine⟨?_,?_⟩<;>omega)|(refine⟨?_,?_,?_⟩<;>omega))|(intro hg;(try simp only[bB]at hg);first|omega|(refine⟨?_,?_⟩<;>omega)|(refine⟨?_,?_,?_⟩<;>first|omega|(show _<_;(try simp only[List.length_set]);omega)|exact leT rfl))|(refine⟨?_,?_⟩<;>omega)|(refine⟨?_,?_,?_⟩<;>first|omega|(show _<_;(try simp only[List.length_set]);omega)|exact leT rfl)|(simp only[show rI.d=(0:Int)from rfl];omega));done));(conv=>whnf))))
    refine EvIf.split (fun g2 => ?_) (fun g2 => ?_)
    · simp only [decide_eq_true_eq] at g2
      obtain ⟨j, rfl⟩ : ∃ j : Nat, b = d.lo + (j : Int) := ⟨(b - d.lo).toNat, by omega⟩
      have hjS : j < valS d := by omega
      have hnl := nowL_len d l k (d.lo + j)
      have hjj : Int.toNat (d.lo + (j : Int) - d.lo) = j := by omega
      ((conv=>whnf);(repeat(refine And.intro ?_ ?_;(focus((first|omega|exact⟨rfl,True.intro⟩|exact⟨rfl,rfl,True.intro⟩|rfl|(simp only[List.length_set];first|omega|(refine⟨?_,?_⟩<;>omega)|(refine⟨?_,?_,?_⟩<;>omega))|(intro hg;(try simp only[bB]at hg);first|omega|(refine⟨?_,?_⟩<;>omega)|(refine⟨?_,?_,?_⟩<;>first|omega|(show _<_;(try simp only[List.length_set]);omega)|exact leT rfl))|(refine⟨?_,?_⟩<;>omega)|(refine⟨?_,?_,?_⟩<;>first|omega|(show _<_;(try simp only[List.length_set]);omega)|exact leT rfl)|(simp only[show rI.d=(0:Int)from rfl];omega));done));(conv=>whnf))))
      refine EvIf.meet (α := Unit) (fun _ => True) (fun _ => [(15, [], .v (.int .i64 (d.lo + (j : Int)))), (14, [], .s 3 1 (valS d) (valS d)), (13, [], .v (.int .i64 (HB))), (11, [], .v (.int .i64 (d.first + (k : Int)))), (10, [], .s 2 1 (valS d) (valS d)), (9, [], .v (.int .i64 ((valS d : Int)))), (8, [], .v (.int .i64 (lim))), (3, [], .p 1 0), (1, [], .s 0 4 l.length c1)])
        (fun _ => [⟨3, true, 3, 1, valS d, .rows Int rI ((nowL d l k (d.lo + j)).set j (accV d l k j 0))⟩, ⟨2, true, 3, 1, valS d, .rows Int rI (wasL d l k)⟩, ⟨1, true, 27, 12, 1, .cs (dcS nm (.v (.slice A lb.length c)) d)⟩, ⟨0, false, 52, 4, c1, .rows Cl rC l⟩]) 4 (fun g3 => ?_) (fun g3 => ?_) ?_
      · simp only [decide_eq_true_eq] at g3
        have ha : (nowL d l k (d.lo + j)).set (Int.toNat (d.lo + (j : Int) - d.lo)) 1 = (nowL d l k (d.lo + j)).set j (accV d l k j 0) := by
          rw [hjj]; unfold accV; rw [if_pos (by omega)]
        ((conv=>whnf);(repeat(refine And.intro ?_ ?_;(focus((first|omega|exact⟨rfl,True.intro⟩|exact⟨rfl,rfl,True.intro⟩|rfl|(simp only[List.length_set];first|omega|(refine⟨?_,?_⟩<;>omega)|(refine⟨?_,?_,?_⟩<;>omega))|(intro hg;(try simp only[bB]at hg);first|omega|(refine⟨?_,?_⟩<;>omega)|(refine⟨?_,?_,?_⟩<;>first|omega|(show _<_;(try simp only[List.length_set]);omega)|exact leT rfl))|(refine⟨?_,?_⟩<;>omega)|(refine⟨?_,?_,?_⟩<;>first|omega|(show _<_;(try simp only[List.length_set]);omega)|exact leT rfl)|(simp only[show rI.d=(0:Int)from rfl];omega));done));(conv=>whnf))))
        refine Exists.intro () (And.intro trivial (Sub.of [] [] rfl ?_))
        ((repeat' (refine And.intro ?_ ?_)) <;> first | exact congrArg (Ct.rows Int rI) ha | exact congrArg (Ct.rows Int rI) ha.symm | rfl | exact True.intro | omega)
      · simp only [decide_eq_false_iff_not] at g3
        have ha : nowL d l k (d.lo + j) = (nowL d l k (d.lo + j)).set j (accV d l k j 0) := by
          have : accV d l k j 0 = 0 := by unfold accV; rw [if_neg (by omega)]; rfl
          rw [this, nowL_set0 hjS]
        ((conv=>whnf);(repeat(refine And.intro ?_ ?_;(focus((first|omega|exact⟨rfl,True.intro⟩|exact⟨rfl,rfl,True.intro⟩|rfl|(simp only[List.length_set];first|omega|(refine⟨?_,?_⟩<;>omega)|(refine⟨?_,?_,?_⟩<;>omega))|(intro hg;(try simp only[bB]at hg);first|omega|(refine⟨?_,?_⟩<;>omega)|(refine⟨?_,?_,?_⟩<;>first|omega|(show _<_;(try simp only[List.length_set]);omega)|exact leT rfl))|(refine⟨?_,?_⟩<;>omega)|(refine⟨?_,?_,?_⟩<;>first|omega|(show _<_;(try simp only[List.length_set]);omega)|exact leT rfl)|(simp only[show rI.d=(0:Int)from rfl];omega));done));(conv=>whnf))))
        refine Exists.intro () (And.intro trivial (Sub.of [] [] rfl ?_))
        ((repeat' (refine And.intro ?_ ?_)) <;> first | exact congrArg (Ct.rows Int rI) ha | exact congrArg (Ct.rows Int rI) ha.symm | rfl | exact True.intro | omega)
      intro _ _
      ((conv=>whnf);(repeat(refine And.intro ?_ ?_;(focus((first|omega|exact⟨rfl,True.intro⟩|exact⟨rfl,rfl,True.intro⟩|rfl|(simp only[List.length_set];first|omega|(refine⟨?_,?_⟩<;>omega)|(refine⟨?_,?_,?_⟩<;>omega))|(intro hg;(try simp only[bB]at hg);first|omega|(refine⟨?_,?_⟩<;>omega)|(refine⟨?_,?_,?_⟩<;>first|omega|(show _<_;(try simp only[List.length_set]);omega)|exact leT rfl))|(refine⟨?_,?_⟩<;>omega)|(refine⟨?_,?_,?_⟩<;>first|omega|(show _<_;(try simp only[List.length_set]);omega)|exact leT rfl)|(simp only[show rI.d=(0:Int)from rfl];omega));done));(conv=>whnf))))
      refine EvLoop.inv (α := Nat) (fun r => (r : Int) ≤ d.up - d.down + 1) (fun r => (d.up - d.down + 1 - r).toNat) (fun r => [(16, [], .v (.int .i64 (d.lo + (j : Int) - d.up + (r : Int)))), (15, [], .v (.int .i64 (d.lo + (j : Int)))), (14, [], .s 3 1 (valS d) (valS d)), (13, [], .v (.int .i64 (HB))), (11, [], .v (.int .i64 (d.first + (k : Int)))), (10, [], .s 2 1 (valS d) (valS d)), (9, [], .v (.int .i64 ((valS d : Int)))), (8, [], .v (.int .i64 (lim))), (3, [], .p 1 0), (1, [], .s 0 4 l.length c1)])
        (fun r => [⟨3, true, 3, 1, valS d, .rows Int rI ((nowL d l k (d.lo + j)).set j (accV d l k j r))⟩, ⟨2, true, 3, 1, valS d, .rows Int rI (wasL d l k)⟩, ⟨1, true, 27, 12, 1, .cs (dcS nm (.v (.slice A lb.length c)) d)⟩, ⟨0, false, 52, 4, c1, .rows Cl rC l⟩]) 4 0 (by omega) (Sub.of [] [] rfl ?_) ?_
      · ((repeat' (refine And.intro ?_ ?_)) <;> first | rfl | exact True.intro | omega)
      intro r hr
      have hac := accV_bd d l k j r
      have hsl : ((nowL d l k (d.lo + j)).set j (accV d l k j r)).length = valS d := by rw [List.length_set, hnl]
      have hcur : ((nowL d l k (d.lo + j)).set j (accV d l k j r)).getD (Int.toNat (d.lo + (j : Int) - d.lo)) rI.d = accV d l k j r := by
        rw [hjj]
        show ((nowL d l k (d.lo + j)).set j (accV d l k j r)).getD j 0 = _
        rw [set_getD' _ _ _ _ (by rw [hnl]; exact hjS), if_pos rfl]
      have hwb : 0 ≤ (wasL d l k).getD (Int.toNat (d.lo + (j : Int) - d.up + (r : Int) - d.lo)) rI.d ∧ (wasL d l k).getD (Int.toNat (d.lo + (j : Int) - d.up + (r : Int) - d.lo)) rI.d ≤ 10000 := wasL_bd d l k _
      ((conv=>whnf);(repeat(refine And.intro ?_ ?_;(focus((first|omega|exact⟨rfl,True.intro⟩|exact⟨rfl,rfl,True.intro⟩|rfl|(simp only[List.length_set];first|omega|(refine⟨?_,?_⟩<;>omega)|(refine⟨?_,?_,?_⟩<;>omega))|(intro hg;(try simp only[bB]at hg);first|omega|(refine⟨?_,?_⟩<;>omega)|(refine⟨?_,?_,?_⟩<;>first|omega|(show _<_;(try simp only[List.length_set]);omega)|exact leT rfl))|(refine⟨?_,?_⟩<;>omega)|(refine⟨?_,?_,?_⟩<;>first|omega|(show _<_;(try simp only[List.length_set]);omega)|exact leT rfl)|(simp only[show rI.d=(0:Int)from rfl];omega));done));(conv=>whnf))))
      refine EvIf.split (fun g4 => ?_) (fun g4 => ?_)
      · simp only [decide_eq_true_eq] at g4
        ((conv=>whnf);(repeat(refine And.intro ?_ ?_;(focus((first|omega|exact⟨rfl,True.intro⟩|exact⟨rfl,rfl,True.intro⟩|rfl|(simp only[List.length_set];first|omega|(refine⟨?_,?_⟩<;>omega)|(refine⟨?_,?_,?_⟩<;>omega))|(intro hg;(try simp only[bB]at hg);first|omega|(refine⟨?_,?_⟩<;>omega)|(refine⟨?_,?_,?_⟩<;>first|omega|(show _<_;(try simp only[List.length_set]);omega)|exact leT rfl))|(refine⟨?_,?_⟩<;>omega)|(refine⟨?_,?_,?_⟩<;>first|omega|(show _<_;(try simp only[List.length_set]);omega)|exact leT rfl)|(simp only[show rI.d=(0:Int)from rfl];omega));done));(conv=>whnf))))
        refine EvIf.split (fun g5 => ?_) (fun g5 => ?_)
        · simp only [Bool.and_eq_true, decide_eq_true_eq] at g5
          have hst := accV_step (d := d) (l := l) (k := k) (j := j) (r := r) (by omega) (by omega)
          have hx : ((nowL d l k (d.lo + j)).set j (accV d l k j r)).set (Int.toNat (d.lo + (j : Int) - d.lo)) (min 10000 (((nowL d l k (d.lo + j)).set j (accV d l k j r)).getD (Int.toNat (d.lo + (j : Int) - d.lo)) rI.d + (wasL d l k).getD (Int.toNat (d.lo + (j : Int) - d.up + (r : Int) - d.lo)) rI.d)) = (nowL d l k (d.lo + j)).set j (accV d l k j (r + 1)) := by
            rw [hcur, hjj, List.set_set, hst, show d.lo + (j : Int) - d.up + (r : Int) - d.lo = (j : Int) - d.up + r by omega]
            rfl
          ((conv=>whnf);(repeat(refine And.intro ?_ ?_;(focus((first|omega|exact⟨rfl,True.intro⟩|exact⟨rfl,rfl,True.intro⟩|rfl|(simp only[List.length_set];first|omega|(refine⟨?_,?_⟩<;>omega)|(refine⟨?_,?_,?_⟩<;>omega))|(intro hg;(try simp only[bB]at hg);first|omega|(refine⟨?_,?_⟩<;>omega)|(refine⟨?_,?_,?_⟩<;>first|omega|(show _<_;(try simp only[List.length_set]);omega)|exact leT rfl))|(refine⟨?_,?_⟩<;>omega)|(refine⟨?_,?_,?_⟩<;>first|omega|(show _<_;(try simp only[List.length_set]);omega)|exact leT rfl)|(simp only[show rI.d=(0:Int)from rfl];omega));done));(conv=>whnf))))
          (refine EvDraw.one (.q 0 (.q 1 (.q 2 (.q 3 (.q 4 (.q 5 (.q 6 (.q 7 (.q 8 (.q 9 (.q 10 (.q 11 (.q 12 (.q 13 (.q 14 (.q 15 (.q 16 (.q 17 (.q 18 (.q 19 (.q 20 (.q 21 (.n 22 true (.z) (.e)))))))))))))))))))))))) (by kernel_rfl) ?_)
          ((conv=>whnf);(repeat(refine And.intro ?_ ?_;(focus((first|omega|exact⟨rfl,True.intro⟩|exact⟨rfl,rfl,True.intro⟩|rfl|(simp only[List.length_set];first|omega|(refine⟨?_,?_⟩<;>omega)|(refine⟨?_,?_,?_⟩<;>omega))|(intro hg;(try simp only[bB]at hg);first|omega|(refine⟨?_,?_⟩<;>omega)|(refine⟨?_,?_,?_⟩<;>first|omega|(show _<_;(try simp only[List.length_set]);omega)|exact leT rfl))|(refine⟨?_,?_⟩<;>omega)|(refine⟨?_,?_,?_⟩<;>first|omega|(show _<_;(try simp only[List.length_set]);omega)|exact leT rfl)|(simp only[show rI.d=(0:Int)from rfl];omega));done));(conv=>whnf))))
          refine LoopI.back (r + 1) (by omega) (by omega) (Sub.of [] [] rfl ?_)
          ((repeat' (refine And.intro ?_ ?_)) <;> first | exact congrArg (Ct.rows Int rI) hx | exact congrArg (Ct.rows Int rI) hx.symm | rfl | exact True.intro | omega)
        · have hst := accV_keep (d := d) (l := l) (k := k) (j := j) (r := r) (by
            simp only [Bool.and_eq_false_iff, decide_eq_false_iff_not] at g5
            rcases Nat.eq_zero_or_pos k with h0 | h0
            · exact .inl h0
            · exact .inr (by omega))
          have hx : (nowL d l k (d.lo + j)).set j (accV d l k j r) = (nowL d l k (d.lo + j)).set j (accV d l k j (r + 1)) := by rw [hst]
          ((conv=>whnf);(repeat(refine And.intro ?_ ?_;(focus((first|omega|exact⟨rfl,True.intro⟩|exact⟨rfl,rfl,True.intro⟩|rfl|(simp only[List.length_set];first|omega|(refine⟨?_,?_⟩<;>omega)|(refine⟨?_,?_,?_⟩<;>omega))|(intro hg;(try simp only[bB]at hg);first|omega|(refine⟨?_,?_⟩<;>omega)|(refine⟨?_,?_,?_⟩<;>first|omega|(show _<_;(try simp only[List.length_set]);omega)|exact leT rfl))|(refine⟨?_,?_⟩<;>omega)|(refine⟨?_,?_,?_⟩<;>first|omega|(show _<_;(try simp only[List.length_set]);omega)|exact leT rfl)|(simp only[show rI.d=(0:Int)from rfl];omega));done));(conv=>whnf))))
          refine LoopI.back (r + 1) (by omega) (by omega) (Sub.of [] [] rfl ?_)
          ((repeat' (refine And.intro ?_ ?_)) <;> first | exact congrArg (Ct.rows Int rI) hx | exact congrArg (Ct.rows Int rI) hx.symm | rfl | exact True.intro | omega)
      · simp only [decide_eq_false_iff_not] at g4
        have hx : (nowL d l k (d.lo + j)).set j (accV d l k j r) = nowL d l k (d.lo + j + 1) := by
          rw [hfull j hb g2 r (by omega), nowL_next hjS]
        ((conv=>whnf);(repeat(refine And.intro ?_ ?_;(focus((first|omega|exact⟨rfl,True.intro⟩|exact⟨rfl,rfl,True.intro⟩|rfl|(simp only[List.length_set];first|omega|(refine⟨?_,?_⟩<;>omega)|(refine⟨?_,?_,?_⟩<;>omega))|(intro hg;(try simp only[bB]at hg);first|omega|(refine⟨?_,?_⟩<;>omega)|(refine⟨?_,?_,?_⟩<;>first|omega|(show _<_;(try simp only[List.length_set]);omega)|exact leT rfl))|(refine⟨?_,?_⟩<;>omega)|(refine⟨?_,?_,?_⟩<;>first|omega|(show _<_;(try simp only[List.length_set]);omega)|exact leT rfl)|(simp only[show rI.d=(0:Int)from rfl];omega));done));(conv=>whnf))))
        refine LoopI.back (d.lo + (j : Int) + 1) (by omega) (by omega) (Sub.of [] [] rfl ?_)
        ((repeat' (refine And.intro ?_ ?_)) <;> first | exact congrArg (Ct.rows Int rI) hx | exact congrArg (Ct.rows Int rI) hx.symm | rfl | exact True.intro | omega)
    · simp only [decide_eq_false_iff_not] at g2
      have hx := hlast b (by omega)
      ((conv=>whnf);(repeat(refine And.intro ?_ ?_;(focus((first|omega|exact⟨rfl,True.intro⟩|exact⟨rfl,rfl,True.intro⟩|rfl|(simp only[List.length_set];first|omega|(refine⟨?_,?_⟩<;>omega)|(refine⟨?_,?_,?_⟩<;>omega))|(intro hg;(try simp only[bB]at hg);first|omega|(refine⟨?_,?_⟩<;>omega)|(refine⟨?_,?_,?_⟩<;>first|omega|(show _<_;(try simp only[List.length_set]);omega)|exact leT rfl))|(refine⟨?_,?_⟩<;>omega)|(refine⟨?_,?_,?_⟩<;>first|omega|(show _<_;(try simp only[List.length_set]);omega)|exact leT rfl)|(simp only[show rI.d=(0:Int)from rfl];omega));done));(conv=>whnf))))
      refine LoopI.back (k + 1) (by omega) (by omega) (Sub.of [(2, 3)] [] rfl ?_)
      ((repeat' (refine And.intro ?_ ?_)) <;> first | exact congrArg (Ct.rows Int rI) hx | exact congrArg (Ct.rows Int rI) hx.symm | rfl | exact True.intro | omega)
  simp only [decide_eq_false_iff_not] at g1
  obtain rfl : k = spanN d := by omega
  have htot := was_tot (d := d) (l := l) (n := spanN d) (by omega) (m := lim) (by omega)
  have hWb := wasL_bd d l (spanN d)
  generalize wasL d l (spanN d) = ws at *
  ((conv=>whnf);(repeat(refine And.intro ?_ ?_;(focus((first|omega|exact⟨rfl,True.intro⟩|exact⟨rfl,rfl,True.intro⟩|rfl|(simp only[List.length_set];first|omega|(refine⟨?_,?_⟩<;>omega)|(refine⟨?_,?_,?_⟩<;>omega))|(intro hg;(try simp only[bB]at hg);first|omega|(refine⟨?_,?_⟩<;>omega)|(refine⟨?_,?_,?_⟩<;>first|omega|(show _<_;(try simp only[List.length_set]);omega)|exact leT rfl))|(refine⟨?_,?_⟩<;>omega)|(refine⟨?_,?_,?_⟩<;>first|omega|(show _<_;(try simp only[List.length_set]);omega)|exact leT rfl)|(simp only[show rI.d=(0:Int)from rfl];omega));done));(conv=>whnf))))
  refine EvLoop.inv (α := Nat) (fun i => i ≤ valS d) (fun i => valS d - i) (fun i => [(18, [], .v (.int .i64 ((i : Int)))), (17, [], .v (.int .i64 (min lim (sumR i (fun i => ws.getD i 0))))), (10, [], .s 2 1 (valS d) (valS d)), (9, [], .v (.int .i64 ((valS d : Int)))), (8, [], .v (.int .i64 (lim)))])
    (fun i => [⟨2, true, 3, 1, valS d, .rows Int rI ws⟩]) 3 0 (by omega) (Sub.of [] [] rfl ?_) ?_
  · have h0 : min lim (sumR 0 (fun i => ws.getD i 0)) = 0 := by simp only [sumR]; omega
    (repeat' (refine And.intro ?_ ?_)) <;> first | rfl | exact True.intro | exact h0 | exact h0.symm | omega
  intro i hi
  have hnn : 0 ≤ sumR i (fun i => ws.getD i 0) := sumR_nn (fun i hi => (hWb i).1)
  have hwi : 0 ≤ ws.getD (i : Int).toNat rI.d ∧ ws.getD (i : Int).toNat rI.d ≤ 10000 := hWb i
  ((conv=>whnf);(repeat(refine And.intro ?_ ?_;(focus((first|omega|exact⟨rfl,True.intro⟩|exact⟨rfl,rfl,True.intro⟩|rfl|(simp only[List.length_set];first|omega|(refine⟨?_,?_⟩<;>omega)|(refine⟨?_,?_,?_⟩<;>omega))|(intro hg;(try simp only[bB]at hg);first|omega|(refine⟨?_,?_⟩<;>omega)|(refine⟨?_,?_,?_⟩<;>first|omega|(show _<_;(try simp only[List.length_set]);omega)|exact leT rfl))|(refine⟨?_,?_⟩<;>omega)|(refine⟨?_,?_,?_⟩<;>first|omega|(show _<_;(try simp only[List.length_set]);omega)|exact leT rfl)|(simp only[show rI.d=(0:Int)from rfl];omega));done));(conv=>whnf))))
  refine EvIf.split (fun g2 => ?_) (fun g2 => ?_)
  · simp only [decide_eq_true_eq] at g2
    have hx : min lim (min lim (sumR i (fun i => ws.getD i 0)) + ws.getD (i : Int).toNat rI.d) = min lim (sumR (i + 1) (fun i => ws.getD i 0)) := by
      have e : sumR (i + 1) (fun i => ws.getD i 0) = sumR i (fun i => ws.getD i 0) + ws.getD (i : Int).toNat rI.d := rfl
      rw [e]
      omega
    ((conv=>whnf);(repeat(refine And.intro ?_ ?_;(focus((first|omega|exact⟨rfl,True.intro⟩|exact⟨rfl,rfl,True.intro⟩|rfl|(simp only[List.length_set];first|omega|(refine⟨?_,?_⟩<;>omega)|(refine⟨?_,?_,?_⟩<;>omega))|(intro hg;(try simp only[bB]at hg);first|omega|(refine⟨?_,?_⟩<;>omega)|(refine⟨?_,?_,?_⟩<;>first|omega|(show _<_;(try simp only[List.length_set]);omega)|exact leT rfl))|(refine⟨?_,?_⟩<;>omega)|(refine⟨?_,?_,?_⟩<;>first|omega|(show _<_;(try simp only[List.length_set]);omega)|exact leT rfl)|(simp only[show rI.d=(0:Int)from rfl];omega));done));(conv=>whnf))))
    refine LoopI.back (i + 1) (by omega) (by omega) (Sub.of [] [] rfl ?_)
    (repeat' (refine And.intro ?_ ?_)) <;> first | rfl | exact True.intro | exact hx | exact hx.symm | omega
  · simp only [decide_eq_false_iff_not] at g2
    obtain rfl : i = valS d := by omega
    have hfin : max 0 (min lim (totN d l (spanN d))) = min lim (sumR (valS d) (fun i => ws.getD i 0)) := by
      rw [htot]
      have := totN_nn d l (spanN d)
      omega
    rw [hfin]
    ((conv=>whnf);(repeat(refine And.intro ?_ ?_;(focus((first|omega|exact⟨rfl,True.intro⟩|exact⟨rfl,rfl,True.intro⟩|rfl|(simp only[List.length_set];first|omega|(refine⟨?_,?_⟩<;>omega)|(refine⟨?_,?_,?_⟩<;>omega))|(intro hg;(try simp only[bB]at hg);first|omega|(refine⟨?_,?_⟩<;>omega)|(refine⟨?_,?_,?_⟩<;>first|omega|(show _<_;(try simp only[List.length_set]);omega)|exact leT rfl))|(refine⟨?_,?_⟩<;>omega)|(refine⟨?_,?_,?_⟩<;>first|omega|(show _<_;(try simp only[List.length_set]);omega)|exact leT rfl)|(simp only[show rI.d=(0:Int)from rfl];omega));done));(conv=>whnf))))
    exact EvRet.ret (fun _ => rfl)
set_option maxRecDepth 20000 in
theorem historycount_s (v1 v2 v3 : Value) (zs ms ks : List Int) (b : Bool) (most : Int) (w : World) (h1 : Ints w v1 zs) (h2 : Ints w v2 ms) (h3 : Ints w v3 ks) (hm : I64 most) :
    Con Try.prog 6 #[v1, v2, v3, .bool b, .int .i64 most] w (Ret w (.bool true)) := by
  obtain ⟨A1, c1, rfl, e1, e2⟩ := h1.form
  obtain ⟨A2, c2, rfl, e3, e4⟩ := h2.form
  obtain ⟨A3, c3, rfl, e5, e6⟩ := h3.form
  have hT := declOf_T zs
  have hI := declOf_I' zs
  have hvc := declOf_vc zs
  refine enter tabOk mixed Try.func6 rfl Try.ntmps6 Try.results6 [.s 0 1 zs.length c1, .s 1 1 ms.length c2, .s 2 1 ks.length c3, .v (.bool b), .v (.int .i64 most)] (fun n => if n = 0 then A1 else if n = 1 then A2 else A3) [⟨2, false, 3, 1, c3, .rows Int rI (ks)⟩, ⟨1, false, 3, 1, c2, .rows Int rI (ms)⟩, ⟨0, false, 3, 1, c1, .rows Int rI (zs)⟩] 3 rfl rfl (.ro (.ro (.ro (hp0 _ _ _) _ rfl rfl rfl (ro_ints h1 rfl _)) _ rfl rfl rfl (ro_ints h2 rfl _)) _ rfl rfl rfl (ro_ints h3 rfl _)) ?_
  ((conv=>whnf);(repeat(refine And.intro ?_ ?_;(focus((first|omega|exact⟨rfl,True.intro⟩|exact⟨rfl,rfl,True.intro⟩|rfl|(simp only[List.length_set];first|omega|(refine⟨?_,?_⟩<;>omega)|(refine⟨?_,?_,?_⟩<;>omega))|(intro hg;(try simp only[bB]at hg);first|omega|(refine⟨?_,?_⟩<;>omega)|(refine⟨?_,?_,?_⟩<;>first|omega|(show _<_;(try simp only[List.length_set]);omega)|exact leT rfl))|(refine⟨?_,?_⟩<;>omega)|(refine⟨?_,?_,?_⟩<;>first|omega|(show _<_;(try simp only[List.length_set]);omega)|exact leT rfl)|(simp only[show rI.d=(0:Int)from rfl];omega));done));(conv=>whnf))))
  refine EvCall.decl Try.call15 (fun ρ W hp => decl_s _ zs W (hp.ints (n := 0) rfl e1 e2 h1.2)) (fun nm l c5 hnm hl hc1 hc2 => ?_)
  generalize declOf zs = d at hT hI hvc ⊢
  have hbd := valid_bounds hvc
  have hTT := hT
  obtain ⟨t1, t2, t3⟩ := hTT
  have hlv := some_valid d ms ks b hT
  have hsl := someL_len5 d ms ks b
  ((conv=>whnf);(repeat(refine And.intro ?_ ?_;(focus((first|omega|exact⟨rfl,True.intro⟩|exact⟨rfl,rfl,True.intro⟩|rfl|(simp only[List.length_set];first|omega|(refine⟨?_,?_⟩<;>omega)|(refine⟨?_,?_,?_⟩<;>omega))|(intro hg;(try simp only[bB]at hg);first|omega|(refine⟨?_,?_⟩<;>omega)|(refine⟨?_,?_,?_⟩<;>first|omega|(show _<_;(try simp only[List.length_set]);omega)|exact leT rfl))|(refine⟨?_,?_⟩<;>omega)|(refine⟨?_,?_,?_⟩<;>first|omega|(show _<_;(try simp only[List.length_set]);omega)|exact leT rfl)|(simp only[show rI.d=(0:Int)from rfl];omega));done));(conv=>whnf))))
  refine EvCall.rows (R := rC) (ty := 52) (xs := someL d ms ks b) Try.call16 (fun ρ W hp => some_s nm _ _ _ d _ _ ms ks b W hT (hp.ints (n := 1) rfl e3 e4 h2.2) (hp.ints (n := 2) rfl e5 e6 h3.2)) (fun cap hc3 hc4 => ?_)
  generalize someL d ms ks b = sm at hc3 hlv hsl ⊢
  have hsp : (spanN d : Int) = d.last - d.first + 1 := by unfold spanN; omega
  have hl1 := rLoL_len d sm (spanN d)
  have hl2 := rHiL_len d sm (spanN d)
  have hlim := bnd_in most 3000 (by omega)
  ((conv=>whnf);(repeat(refine And.intro ?_ ?_;(focus((first|omega|exact⟨rfl,True.intro⟩|exact⟨rfl,rfl,True.intro⟩|rfl|(simp only[List.length_set];first|omega|(refine⟨?_,?_⟩<;>omega)|(refine⟨?_,?_,?_⟩<;>omega))|(intro hg;(try simp only[bB]at hg);first|omega|(refine⟨?_,?_⟩<;>omega)|(refine⟨?_,?_,?_⟩<;>first|omega|(show _<_;(try simp only[List.length_set]);omega)|exact leT rfl))|(refine⟨?_,?_⟩<;>omega)|(refine⟨?_,?_,?_⟩<;>first|omega|(show _<_;(try simp only[List.length_set]);omega)|exact leT rfl)|(simp only[show rI.d=(0:Int)from rfl];omega));done));(conv=>whnf))))
  refine EvCall.plain Try.call29 (.v (.int .i64 (bnd most 3000))) rfl (fun ρ W hp => bound_s _ _ _ hm (by omega) (by omega)) ?_
  generalize bnd most 3000 = lim at hlim ⊢
  have hcc0 := cntR_eq hvc hlv (by omega) lim
  have hcc2 := cntR_eq hvc hlv (by omega) 2
  have hnn := totN_nn d sm (spanN d)
  obtain ⟨two, htwo⟩ : ∃ two, two = max 0 (min (min 2 10000) (totN d sm (spanN d))) := ⟨_, rfl⟩
  obtain ⟨one, hone1⟩ : ∃ one, one = max 0 (min (min lim 10000) (totN d sm (spanN d))) := ⟨_, rfl⟩
  ((conv=>whnf);(repeat(refine And.intro ?_ ?_;(focus((first|omega|exact⟨rfl,True.intro⟩|exact⟨rfl,rfl,True.intro⟩|rfl|(simp only[List.length_set];first|omega|(refine⟨?_,?_⟩<;>omega)|(refine⟨?_,?_,?_⟩<;>omega))|(intro hg;(try simp only[bB]at hg);first|omega|(refine⟨?_,?_⟩<;>omega)|(refine⟨?_,?_,?_⟩<;>first|omega|(show _<_;(try simp only[List.length_set]);omega)|exact leT rfl))|(refine⟨?_,?_⟩<;>omega)|(refine⟨?_,?_,?_⟩<;>first|omega|(show _<_;(try simp only[List.length_set]);omega)|exact leT rfl)|(simp only[show rI.d=(0:Int)from rfl];omega));done));(conv=>whnf))))
  refine EvCall.plain Try.call34 (.v (.int .i64 one)) rfl (fun ρ W hp => by
    have := hcount_s _ _ d sm lim W (hp.decl (n := 3) (d := d) hnm hl hc1 hc2 rfl) hI hvc (by omega) hlv (hp.rowsIn (R := rC) (n := 5) (c := cap) rfl (by decide) hc3 hc4 4)
    rw [hcc0, ← hone1] at this
    exact this) ?_
  ((conv=>whnf);(repeat(refine And.intro ?_ ?_;(focus((first|omega|exact⟨rfl,True.intro⟩|exact⟨rfl,rfl,True.intro⟩|rfl|(simp only[List.length_set];first|omega|(refine⟨?_,?_⟩<;>omega)|(refine⟨?_,?_,?_⟩<;>omega))|(intro hg;(try simp only[bB]at hg);first|omega|(refine⟨?_,?_⟩<;>omega)|(refine⟨?_,?_,?_⟩<;>first|omega|(show _<_;(try simp only[List.length_set]);omega)|exact leT rfl))|(refine⟨?_,?_⟩<;>omega)|(refine⟨?_,?_,?_⟩<;>first|omega|(show _<_;(try simp only[List.length_set]);omega)|exact leT rfl)|(simp only[show rI.d=(0:Int)from rfl];omega));done));(conv=>whnf))))
  refine EvCall.plain Try.call34 (.v (.int .i64 two)) rfl (fun ρ W hp => by
    have := hcount_s _ _ d sm 2 W (hp.decl (n := 3) (d := d) hnm hl hc1 hc2 rfl) hI hvc (by omega) hlv (hp.rowsIn (R := rC) (n := 5) (c := cap) rfl (by decide) hc3 hc4 4)
    rw [hcc2, ← htwo] at this
    exact this) ?_
  ((conv=>whnf);(repeat(refine And.intro ?_ ?_;(focus((first|omega|exact⟨rfl,True.intro⟩|exact⟨rfl,rfl,True.intro⟩|rfl|(simp only[List.length_set];first|omega|(refine⟨?_,?_⟩<;>omega)|(refine⟨?_,?_,?_⟩<;>omega))|(intro hg;(try simp only[bB]at hg);first|omega|(refine⟨?_,?_⟩<;>omega)|(refine⟨?_,?_,?_⟩<;>first|omega|(show _<_;(try simp only[List.length_set]);omega)|exact leT rfl))|(refine⟨?_,?_⟩<;>omega)|(refine⟨?_,?_,?_⟩<;>first|omega|(show _<_;(try simp only[List.length_set]);omega)|exact leT rfl)|(simp only[show rI.d=(0:Int)from rfl];omega));done));(conv=>whnf))))
  rcases two_ok hvc (show sm.length ≤ 4096 by omega) hlv with ⟨hok, hN⟩ | ⟨hno, hN⟩
  · have hto : 1 ≤ totN d sm (spanN d) := by
      have := tot_ge hvc hlv hsp hok (k := 0) (by omega)
      have := hok 0 (by omega)
      omega
    have hone : two = 1 ↔ rLoL d sm (spanN d) = rHiL d sm (spanN d) := by
      constructor
      · intro h
        refine list_ext' (by rw [hl1, hl2]) (fun i hi => ?_)
        rw [hl1] at hi
        rw [(rL_get d sm _ i hi).1, (rL_get d sm _ i hi).2]
        have := tot_ge hvc hlv hsp hok hi
        have := hok i hi
        omega
      · intro h
        have := tot_one hvc hlv hsp (fun i hi => by rw [← (rL_get d sm _ i hi).1, ← (rL_get d sm _ i hi).2, h])
        omega
    refine EvCall.two (ty := 3) (xs := rLoL d sm (spanN d)) (ys := rHiL d sm (spanN d)) (envES d.first 0) (envES_den _ _) (envES_lt _ _) Try.call17 (fun ρ W hp => by
      have := new_s _ _ d sm W (hp.decl (n := 3) (d := d) hnm hl hc1 hc2 rfl) hI (hp.rowsIn (R := rC) (n := 5) (c := cap) rfl (by decide) hc3 hc4 4)
      rw [hN] at this
      exact this) (fun p1 p2 q1 q2 q3 q4 => ?_)
    ((conv=>whnf);(repeat(refine And.intro ?_ ?_;(focus((first|omega|exact⟨rfl,True.intro⟩|exact⟨rfl,rfl,True.intro⟩|rfl|(simp only[List.length_set];first|omega|(refine⟨?_,?_⟩<;>omega)|(refine⟨?_,?_,?_⟩<;>omega))|(intro hg;(try simp only[bB]at hg);first|omega|(refine⟨?_,?_⟩<;>omega)|(refine⟨?_,?_,?_⟩<;>first|omega|(show _<_;(try simp only[List.length_set]);omega)|exact leT rfl))|(refine⟨?_,?_⟩<;>omega)|(refine⟨?_,?_,?_⟩<;>first|omega|(show _<_;(try simp only[List.length_set]);omega)|exact leT rfl)|(simp only[show rI.d=(0:Int)from rfl];omega));done));(conv=>whnf))))
    refine EvCall.plain Try.call35 (.v (.int .i64 one)) rfl (fun ρ W hp => by
      have := ref_count_s _ _ d sm lim W (hp.decl (n := 3) (d := d) hnm hl hc1 hc2 rfl) hI hT hvc (by omega) hlv (hp.rowsIn (R := rC) (n := 5) (c := cap) rfl (by decide) hc3 hc4 4) hlim
      rw [← hone1] at this
      exact this) ?_
    ((conv=>whnf);(repeat(refine And.intro ?_ ?_;(focus((first|omega|exact⟨rfl,True.intro⟩|exact⟨rfl,rfl,True.intro⟩|rfl|(simp only[List.length_set];first|omega|(refine⟨?_,?_⟩<;>omega)|(refine⟨?_,?_,?_⟩<;>omega))|(intro hg;(try simp only[bB]at hg);first|omega|(refine⟨?_,?_⟩<;>omega)|(refine⟨?_,?_,?_⟩<;>first|omega|(show _<_;(try simp only[List.length_set]);omega)|exact leT rfl))|(refine⟨?_,?_⟩<;>omega)|(refine⟨?_,?_,?_⟩<;>first|omega|(show _<_;(try simp only[List.length_set]);omega)|exact leT rfl)|(simp only[show rI.d=(0:Int)from rfl];omega));done));(conv=>whnf))))
    refine EvCallC.plain Try.call36 (.v (.int .i64 0)) rfl (fun _ ρ W hp => by
      have := decl_valid_s _ d W (hp.decl (n := 3) (d := d) hnm hl hc1 hc2 rfl) hI
      rw [hvc] at this
      exact this) ?_
    ((conv=>whnf);(repeat(refine And.intro ?_ ?_;(focus((first|omega|exact⟨rfl,True.intro⟩|exact⟨rfl,rfl,True.intro⟩|rfl|(simp only[List.length_set];first|omega|(refine⟨?_,?_⟩<;>omega)|(refine⟨?_,?_,?_⟩<;>omega))|(intro hg;(try simp only[bB]at hg);first|omega|(refine⟨?_,?_⟩<;>omega)|(refine⟨?_,?_,?_⟩<;>first|omega|(show _<_;(try simp only[List.length_set]);omega)|exact leT rfl))|(refine⟨?_,?_⟩<;>omega)|(refine⟨?_,?_,?_⟩<;>first|omega|(show _<_;(try simp only[List.length_set]);omega)|exact leT rfl)|(simp only[show rI.d=(0:Int)from rfl];omega));done));(conv=>whnf))))
    have hz : ¬ two = 0 := by omega
    refine EvIf.neg (by simp [hz]) ?_
    ((conv=>whnf);(repeat(refine And.intro ?_ ?_;(focus((first|omega|exact⟨rfl,True.intro⟩|exact⟨rfl,rfl,True.intro⟩|rfl|(simp only[List.length_set];first|omega|(refine⟨?_,?_⟩<;>omega)|(refine⟨?_,?_,?_⟩<;>omega))|(intro hg;(try simp only[bB]at hg);first|omega|(refine⟨?_,?_⟩<;>omega)|(refine⟨?_,?_,?_⟩<;>first|omega|(show _<_;(try simp only[List.length_set]);omega)|exact leT rfl))|(refine⟨?_,?_⟩<;>omega)|(refine⟨?_,?_,?_⟩<;>first|omega|(show _<_;(try simp only[List.length_set]);omega)|exact leT rfl)|(simp only[show rI.d=(0:Int)from rfl];omega));done));(conv=>whnf))))
    refine EvCallC.plain Try.call37 (.v (.bool (decide (rLoL d sm (spanN d) = rHiL d sm (spanN d))))) rfl (fun _ ρ W hp => sameints_s _ _ (rLoL d sm (spanN d)) (rHiL d sm (spanN d)) W (hp.rowsIn (R := rI) (n := 6) (c := p1) rfl (by decide) q1 q2 1) (hp.rowsIn (R := rI) (n := 7) (c := p2) rfl (by decide) q3 q4 1)) ?_
    rw [show decide (rLoL d sm (spanN d) = rHiL d sm (spanN d)) = decide (two = 1) from decide_eq_decide.2 hone.symm]
    ((conv=>whnf);(repeat(refine And.intro ?_ ?_;(focus((first|omega|exact⟨rfl,True.intro⟩|exact⟨rfl,rfl,True.intro⟩|rfl|(simp only[List.length_set];first|omega|(refine⟨?_,?_⟩<;>omega)|(refine⟨?_,?_,?_⟩<;>omega))|(intro hg;(try simp only[bB]at hg);first|omega|(refine⟨?_,?_⟩<;>omega)|(refine⟨?_,?_,?_⟩<;>first|omega|(show _<_;(try simp only[List.length_set]);omega)|exact leT rfl))|(refine⟨?_,?_⟩<;>omega)|(refine⟨?_,?_,?_⟩<;>first|omega|(show _<_;(try simp only[List.length_set]);omega)|exact leT rfl)|(simp only[show rI.d=(0:Int)from rfl];omega));done));(conv=>whnf))))
    refine EvCallC.plain Try.call38 (.v (.bool true)) rfl (fun _ ρ W hp => lives13_s W) ?_
    ((conv=>whnf);(repeat(refine And.intro ?_ ?_;(focus((first|omega|exact⟨rfl,True.intro⟩|exact⟨rfl,rfl,True.intro⟩|rfl|(simp only[List.length_set];first|omega|(refine⟨?_,?_⟩<;>omega)|(refine⟨?_,?_,?_⟩<;>omega))|(intro hg;(try simp only[bB]at hg);first|omega|(refine⟨?_,?_⟩<;>omega)|(refine⟨?_,?_,?_⟩<;>first|omega|(show _<_;(try simp only[List.length_set]);omega)|exact leT rfl))|(refine⟨?_,?_⟩<;>omega)|(refine⟨?_,?_,?_⟩<;>first|omega|(show _<_;(try simp only[List.length_set]);omega)|exact leT rfl)|(simp only[show rI.d=(0:Int)from rfl];omega));done));(conv=>whnf))))
    exact EvRet.ret (fun ρ => by simp [den])
  · have hto : totN d sm (spanN d) = 0 := by
      apply Classical.byContradiction
      intro hne
      exact hno (tot_ok hvc hlv hsp (by omega))
    refine EvCall.two (ty := 3) (xs := []) (ys := []) (envES 0 13) (envES_den _ _) (envES_lt _ _) Try.call17 (fun ρ W hp => by
      have := new_s _ _ d sm W (hp.decl (n := 3) (d := d) hnm hl hc1 hc2 rfl) hI (hp.rowsIn (R := rC) (n := 5) (c := cap) rfl (by decide) hc3 hc4 4)
      rw [hN] at this
      exact this) (fun p1 p2 q1 q2 q3 q4 => ?_)
    ((conv=>whnf);(repeat(refine And.intro ?_ ?_;(focus((first|omega|exact⟨rfl,True.intro⟩|exact⟨rfl,rfl,True.intro⟩|rfl|(simp only[List.length_set];first|omega|(refine⟨?_,?_⟩<;>omega)|(refine⟨?_,?_,?_⟩<;>omega))|(intro hg;(try simp only[bB]at hg);first|omega|(refine⟨?_,?_⟩<;>omega)|(refine⟨?_,?_,?_⟩<;>first|omega|(show _<_;(try simp only[List.length_set]);omega)|exact leT rfl))|(refine⟨?_,?_⟩<;>omega)|(refine⟨?_,?_,?_⟩<;>first|omega|(show _<_;(try simp only[List.length_set]);omega)|exact leT rfl)|(simp only[show rI.d=(0:Int)from rfl];omega));done));(conv=>whnf))))
    refine EvCall.plain Try.call35 (.v (.int .i64 one)) rfl (fun ρ W hp => by
      have := ref_count_s _ _ d sm lim W (hp.decl (n := 3) (d := d) hnm hl hc1 hc2 rfl) hI hT hvc (by omega) hlv (hp.rowsIn (R := rC) (n := 5) (c := cap) rfl (by decide) hc3 hc4 4) hlim
      rw [← hone1] at this
      exact this) ?_
    ((conv=>whnf);(repeat(refine And.intro ?_ ?_;(focus((first|omega|exact⟨rfl,True.intro⟩|exact⟨rfl,rfl,True.intro⟩|rfl|(simp only[List.length_set];first|omega|(refine⟨?_,?_⟩<;>omega)|(refine⟨?_,?_,?_⟩<;>omega))|(intro hg;(try simp only[bB]at hg);first|omega|(refine⟨?_,?_⟩<;>omega)|(refine⟨?_,?_,?_⟩<;>first|omega|(show _<_;(try simp only[List.length_set]);omega)|exact leT rfl))|(refine⟨?_,?_⟩<;>omega)|(refine⟨?_,?_,?_⟩<;>first|omega|(show _<_;(try simp only[List.length_set]);omega)|exact leT rfl)|(simp only[show rI.d=(0:Int)from rfl];omega));done));(conv=>whnf))))
    refine EvCallC.plain Try.call36 (.v (.int .i64 0)) rfl (fun _ ρ W hp => by
      have := decl_valid_s _ d W (hp.decl (n := 3) (d := d) hnm hl hc1 hc2 rfl) hI
      rw [hvc] at this
      exact this) ?_
    ((conv=>whnf);(repeat(refine And.intro ?_ ?_;(focus((first|omega|exact⟨rfl,True.intro⟩|exact⟨rfl,rfl,True.intro⟩|rfl|(simp only[List.length_set];first|omega|(refine⟨?_,?_⟩<;>omega)|(refine⟨?_,?_,?_⟩<;>omega))|(intro hg;(try simp only[bB]at hg);first|omega|(refine⟨?_,?_⟩<;>omega)|(refine⟨?_,?_,?_⟩<;>first|omega|(show _<_;(try simp only[List.length_set]);omega)|exact leT rfl))|(refine⟨?_,?_⟩<;>omega)|(refine⟨?_,?_,?_⟩<;>first|omega|(show _<_;(try simp only[List.length_set]);omega)|exact leT rfl)|(simp only[show rI.d=(0:Int)from rfl];omega));done));(conv=>whnf))))
    have hz : two = 0 := by omega
    rw [hz]
    refine EvIf.neg (by simp) ?_
    ((conv=>whnf);(repeat(refine And.intro ?_ ?_;(focus((first|omega|exact⟨rfl,True.intro⟩|exact⟨rfl,rfl,True.intro⟩|rfl|(simp only[List.length_set];first|omega|(refine⟨?_,?_⟩<;>omega)|(refine⟨?_,?_,?_⟩<;>omega))|(intro hg;(try simp only[bB]at hg);first|omega|(refine⟨?_,?_⟩<;>omega)|(refine⟨?_,?_,?_⟩<;>first|omega|(show _<_;(try simp only[List.length_set]);omega)|exact leT rfl))|(refine⟨?_,?_⟩<;>omega)|(refine⟨?_,?_,?_⟩<;>first|omega|(show _<_;(try simp only[List.length_set]);omega)|exact leT rfl)|(simp only[show rI.d=(0:Int)from rfl];omega));done));(conv=>whnf))))
    refine EvCallC.off Try.call37 (by simp) (.v (.bool false)) rfl ?_
    ((conv=>whnf);(repeat(refine And.intro ?_ ?_;(focus((first|omega|exact⟨rfl,True.intro⟩|exact⟨rfl,rfl,True.intro⟩|rfl|(simp only[List.length_set];first|omega|(refine⟨?_,?_⟩<;>omega)|(refine⟨?_,?_,?_⟩<;>omega))|(intro hg;(try simp only[bB]at hg);first|omega|(refine⟨?_,?_⟩<;>omega)|(refine⟨?_,?_,?_⟩<;>first|omega|(show _<_;(try simp only[List.length_set]);omega)|exact leT rfl))|(refine⟨?_,?_⟩<;>omega)|(refine⟨?_,?_,?_⟩<;>first|omega|(show _<_;(try simp only[List.length_set]);omega)|exact leT rfl)|(simp only[show rI.d=(0:Int)from rfl];omega));done));(conv=>whnf))))
    refine EvCallC.plain Try.call38 (.v (.bool true)) rfl (fun _ ρ W hp => lives13_s W) ?_
    ((conv=>whnf);(repeat(refine And.intro ?_ ?_;(focus((first|omega|exact⟨rfl,True.intro⟩|exact⟨rfl,rfl,True.intro⟩|rfl|(simp only[List.length_set];first|omega|(refine⟨?_,?_⟩<;>omega)|(refine⟨?_,?_,?_⟩<;>omega))|(intro hg;(try simp only[bB]at hg);first|omega|(refine⟨?_,?_⟩<;>omega)|(refine⟨?_,?_,?_⟩<;>first|omega|(show _<_;(try simp only[List.length_set]);omega)|exact leT rfl))|(refine⟨?_,?_⟩<;>omega)|(refine⟨?_,?_,?_⟩<;>first|omega|(show _<_;(try simp only[List.length_set]);omega)|exact leT rfl)|(simp only[show rI.d=(0:Int)from rfl];omega));done));(conv=>whnf))))
    exact EvRet.ret (fun ρ => rfl)
theorem walk_HistoryCount (w : World) (V0 : Value) (zs : List Int) (h : Ints w V0 zs) (V1 : Value) (ms : List Int) (h2 : Ints w V1 ms) (V2 : Value) (ks : List Int) (h3 : Ints w V2 ks) (b : Bool) (most : Int) (hm : I64 most) :
    Calls Try.prog 6 #[V0, V1, V2, .bool b, .int .i64 most] w fun e w' => e = .returned (.bool true) ∧ Below w.heap.size w w' :=
  (historycount_s V0 V1 V2 zs ms ks b most w h h2 h3 hm).out
end Go.Proofs.Ytnoenmacakbhdaa
