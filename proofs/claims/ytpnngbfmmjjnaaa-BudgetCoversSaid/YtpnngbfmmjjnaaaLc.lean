
/- Lossy steps: Quantise, walked. -/
import Derived.Test.YtpnngbfmmjjnaaaLb
namespace Go.Proofs.Ytpnngbfmmjjnaaa
open Go.RowKit
set_option linter.unusedVariables false
set_option linter.unusedSimpArgs false

def wid (q : Int) (c : Cl) : Cl := ⟨c.f, c.t, max (belowV c.lo q) (-1099511627776), min (-(belowV (-c.hi) q)) 1099511627776⟩
def widM (q : Int) (l : List Cl) (i : Nat) : List Cl := (List.range l.length).map (fun j => if j < i then wid q (l.getD j cl0) else l.getD j cl0)
theorem widM_len (q : Int) (l : List Cl) (i : Nat) : (widM q l i).length = l.length := by simp [widM]
theorem widM_zero (q : Int) (l : List Cl) : widM q l 0 = l := by
  apply List.ext_getElem (by simp [widM])
  intro j h1 h2
  simp [widM, List.getD_eq_getElem?_getD, h2]
theorem widM_all (q : Int) (l : List Cl) : widM q l l.length = l.map (wid q) := by
  apply List.ext_getElem (by simp [widM])
  intro j h1 h2
  have h3 : j < l.length := by simpa using h2
  simp [widM, List.getD_eq_getElem?_getD, h3]
theorem widM_get {q : Int} {l : List Cl} {i : Nat} (h : i < l.length) : (widM q l i).getD i cl0 = l.getD i cl0 := by
  simp [widM, List.getD_eq_getElem?_getD, h]
theorem widM_set {q : Int} {l : List Cl} {i : Nat} (h : i < l.length) : (widM q l i).set i (wid q (l.getD i cl0)) = widM q l (i + 1) := by
  apply List.ext_getElem (by simp [widM])
  intro j h1 h2
  have h3 : j < l.length := by simpa [widM] using h2
  rw [List.getElem_set]
  by_cases hij : i = j
  · subst hij
    simp [widM]
  · rw [if_neg hij]
    simp only [widM, List.getElem_map, List.getElem_range]
    by_cases h4 : j < i
    · rw [if_pos h4, if_pos (by omega)]
    · rw [if_neg h4, if_neg (by omega)]
theorem set2 {M : List Cl} {i : Nat} (h : i < M.length) (x : Cl) (a b : Int) : (M.set i ⟨x.f, x.t, a, x.hi⟩).getD i cl0 = ⟨x.f, x.t, a, x.hi⟩ := by
  simp [List.getD_eq_getElem?_getD, h]
noncomputable def quR (d : Dc) (l : List Cl) (q : Int) : List Cl × Int × Int := if (newR d l).2 ≠ 0 then ([], 0, (newR d l).2) else if q < 1 ∨ 1073741824 < q then ([], 0, 1) else finR d l (l.map (wid q))
set_option maxRecDepth 20000 in
theorem quantise_s (V v : Value) (d : Dc) (l : List Cl) (q : Int) (w : World) (h : DeclIs w V d) (hI : DcI d) (hv : RowsIn rC w v l) (hl : l.length ≤ 1000) :
    Con Try.prog 18 #[V, v, .int .i64 q] w (RetR3 rC 62 w (quR d l q).1 (quR d l q).2.1 (quR d l q).2.2) := by
  have hD := h
  obtain ⟨nm, A, c, lb, rfl, hnm, hlab, hSh⟩ := h
  obtain ⟨A1, c1, rfl, e1, e2⟩ := hv.form
  have hok := newR_ok (d := d) (l := l)
  unfold quR
  refine enter tabOk mixed Try.func18 rfl Try.ntmps18 Try.results18 [.a (dcS nm (.v (.slice A lb.length c)) d), .s 0 4 l.length c1, .v (.int .i64 q)] (fun _ => A1) [⟨0, false, 62, 4, c1, .rows Cl rC (l)⟩] 1 rfl rfl (.ro (hp0 _ _ _) _ rfl rfl rfl (ro_rows hv rfl _)) ?_
  ((conv=>whnf);(repeat(refine And.intro ?_ ?_;(focus((first|omega|exact⟨rfl,True.intro⟩|exact⟨rfl,rfl,True.intro⟩|rfl|(simp only[List.length_set];first|omega|(refine⟨?_,?_⟩<;>omega)|(refine⟨?_,?_,?_⟩<;>omega))|(intro hg;(try simp only[bB]at hg);first|omega|(refine⟨?_,?_⟩<;>omega)|(refine⟨?_,?_,?_⟩<;>first|omega|(show _<_;(try simp only[List.length_set]);omega)|exact leT rfl))|(refine⟨?_,?_⟩<;>omega)|(refine⟨?_,?_,?_⟩<;>first|omega|(show _<_;(try simp only[List.length_set]);omega)|exact leT rfl)|(simp only[show rI.d=(0:Int)from rfl];omega));done));(conv=>whnf))))
  refine EvCall.two (ty := 3) (xs := (newR d l).1.lo) (ys := (newR d l).1.hi) (envES (newR d l).1.f (newR d l).2) (envES_den _ _) (envES_lt _ _) Try.call14 (fun ρ W hp => new_s _ _ d l W (hD.below hp.bel) hI (hp.rowsIn (R := rC) (n := 0) (c := c1) rfl (by decide) e1 e2 4)) (fun p1 p2 q1 q2 q3 q4 => ?_)
  generalize newR d l = x at *
  ((conv=>whnf);(repeat(refine And.intro ?_ ?_;(focus((first|omega|exact⟨rfl,True.intro⟩|exact⟨rfl,rfl,True.intro⟩|rfl|(simp only[List.length_set];first|omega|(refine⟨?_,?_⟩<;>omega)|(refine⟨?_,?_,?_⟩<;>omega))|(intro hg;(try simp only[bB]at hg);first|omega|(refine⟨?_,?_⟩<;>omega)|(refine⟨?_,?_,?_⟩<;>first|omega|(show _<_;(try simp only[List.length_set]);omega)|exact leT rfl))|(refine⟨?_,?_⟩<;>omega)|(refine⟨?_,?_,?_⟩<;>first|omega|(show _<_;(try simp only[List.length_set]);omega)|exact leT rfl)|(simp only[show rI.d=(0:Int)from rfl];omega));done));(conv=>whnf))))
  refine EvIf.split (fun g => ?_) (fun g => ?_)
  · rw [if_pos (by simpa using g)]
    ((conv=>whnf);(repeat(refine And.intro ?_ ?_;(focus((first|omega|exact⟨rfl,True.intro⟩|exact⟨rfl,rfl,True.intro⟩|rfl|(simp only[List.length_set];first|omega|(refine⟨?_,?_⟩<;>omega)|(refine⟨?_,?_,?_⟩<;>omega))|(intro hg;(try simp only[bB]at hg);first|omega|(refine⟨?_,?_⟩<;>omega)|(refine⟨?_,?_,?_⟩<;>first|omega|(show _<_;(try simp only[List.length_set]);omega)|exact leT rfl))|(refine⟨?_,?_⟩<;>omega)|(refine⟨?_,?_,?_⟩<;>first|omega|(show _<_;(try simp only[List.length_set]);omega)|exact leT rfl)|(simp only[show rI.d=(0:Int)from rfl];omega));done));(conv=>whnf))))
    exact EvRet.rows3_nil rfl rfl rfl
  have g0 : x.2 = 0 := by simpa using g
  rw [if_neg (by simpa using g)]
  obtain ⟨hvc, hll, hlv, hoo, hxe⟩ := hok g0
  ((conv=>whnf);(repeat(refine And.intro ?_ ?_;(focus((first|omega|exact⟨rfl,True.intro⟩|exact⟨rfl,rfl,True.intro⟩|rfl|(simp only[List.length_set];first|omega|(refine⟨?_,?_⟩<;>omega)|(refine⟨?_,?_,?_⟩<;>omega))|(intro hg;(try simp only[bB]at hg);first|omega|(refine⟨?_,?_⟩<;>omega)|(refine⟨?_,?_,?_⟩<;>first|omega|(show _<_;(try simp only[List.length_set]);omega)|exact leT rfl))|(refine⟨?_,?_⟩<;>omega)|(refine⟨?_,?_,?_⟩<;>first|omega|(show _<_;(try simp only[List.length_set]);omega)|exact leT rfl)|(simp only[show rI.d=(0:Int)from rfl];omega));done));(conv=>whnf))))
  refine EvIf.split (fun g1 => ?_) (fun g1 => ?_)
  · rw [if_pos (by simpa using g1)]
    ((conv=>whnf);(repeat(refine And.intro ?_ ?_;(focus((first|omega|exact⟨rfl,True.intro⟩|exact⟨rfl,rfl,True.intro⟩|rfl|(simp only[List.length_set];first|omega|(refine⟨?_,?_⟩<;>omega)|(refine⟨?_,?_,?_⟩<;>omega))|(intro hg;(try simp only[bB]at hg);first|omega|(refine⟨?_,?_⟩<;>omega)|(refine⟨?_,?_,?_⟩<;>first|omega|(show _<_;(try simp only[List.length_set]);omega)|exact leT rfl))|(refine⟨?_,?_⟩<;>omega)|(refine⟨?_,?_,?_⟩<;>first|omega|(show _<_;(try simp only[List.length_set]);omega)|exact leT rfl)|(simp only[show rI.d=(0:Int)from rfl];omega));done));(conv=>whnf))))
    exact EvRet.rows3_nil rfl rfl rfl
  rw [if_neg (by simpa using g1)]
  have g2 : 1 ≤ q ∧ q ≤ 1073741824 := by
    simp only [Bool.or_eq_false_iff, decide_eq_false_iff_not] at g1
    omega
  ((conv=>whnf);(repeat(refine And.intro ?_ ?_;(focus((first|omega|exact⟨rfl,True.intro⟩|exact⟨rfl,rfl,True.intro⟩|rfl|(simp only[List.length_set];first|omega|(refine⟨?_,?_⟩<;>omega)|(refine⟨?_,?_,?_⟩<;>omega))|(intro hg;(try simp only[bB]at hg);first|omega|(refine⟨?_,?_⟩<;>omega)|(refine⟨?_,?_,?_⟩<;>first|omega|(show _<_;(try simp only[List.length_set]);omega)|exact leT rfl))|(refine⟨?_,?_⟩<;>omega)|(refine⟨?_,?_,?_⟩<;>first|omega|(show _<_;(try simp only[List.length_set]);omega)|exact leT rfl)|(simp only[show rI.d=(0:Int)from rfl];omega));done));(conv=>whnf))))
  refine EvCall.rows (R := rC) (ty := 62) (xs := l) Try.call47 (fun ρ W hp => clone_s _ l W (hp.rowsIn (R := rC) (n := 0) (c := c1) rfl (by decide) e1 e2 4) (by omega)) (fun cap hc1 hc2 => ?_)
  have hz := widM_zero q l
  ((conv=>whnf);(repeat(refine And.intro ?_ ?_;(focus((first|omega|exact⟨rfl,True.intro⟩|exact⟨rfl,rfl,True.intro⟩|rfl|(simp only[List.length_set];first|omega|(refine⟨?_,?_⟩<;>omega)|(refine⟨?_,?_,?_⟩<;>omega))|(intro hg;(try simp only[bB]at hg);first|omega|(refine⟨?_,?_⟩<;>omega)|(refine⟨?_,?_,?_⟩<;>first|omega|(show _<_;(try simp only[List.length_set]);omega)|exact leT rfl))|(refine⟨?_,?_⟩<;>omega)|(refine⟨?_,?_,?_⟩<;>first|omega|(show _<_;(try simp only[List.length_set]);omega)|exact leT rfl)|(simp only[show rI.d=(0:Int)from rfl];omega));done));(conv=>whnf))))
  refine EvLoop.inv (α := Nat) (fun i => i ≤ l.length) (fun i => l.length - i) (fun i => [(32, [], .v (.int .i64 ((i : Int)))), (31, [], .v (.int .i64 ((l.length : Int)))), (11, [], .s 5 4 l.length cap), (3, [], .p 1 0), (2, [], .v (.int .i64 (q))), (1, [], .s 0 4 l.length c1)])
    (fun i => [⟨5, true, 62, 4, cap, .rows Cl rC (widM q l i)⟩, ⟨1, true, 27, 12, 1, .cs (dcS nm (.v (.slice A lb.length c)) d)⟩, ⟨0, false, 62, 4, c1, .rows Cl rC l⟩]) 6 0 (by omega) (Sub.of [] [] rfl ?_) ?_
  · (repeat' (refine And.intro ?_ ?_)) <;> first | rfl | exact True.intro | exact congrArg (Ct.rows Cl rC) hz | exact congrArg (Ct.rows Cl rC) hz.symm | omega
  intro i hi
  have hwl := widM_len q l i
  ((conv=>whnf);(repeat(refine And.intro ?_ ?_;(focus((first|omega|exact⟨rfl,True.intro⟩|exact⟨rfl,rfl,True.intro⟩|rfl|(simp only[List.length_set];first|omega|(refine⟨?_,?_⟩<;>omega)|(refine⟨?_,?_,?_⟩<;>omega))|(intro hg;(try simp only[bB]at hg);first|omega|(refine⟨?_,?_⟩<;>omega)|(refine⟨?_,?_,?_⟩<;>first|omega|(show _<_;(try simp only[List.length_set]);omega)|exact leT rfl))|(refine⟨?_,?_⟩<;>omega)|(refine⟨?_,?_,?_⟩<;>first|omega|(show _<_;(try simp only[List.length_set]);omega)|exact leT rfl)|(simp only[show rI.d=(0:Int)from rfl];omega));done));(conv=>whnf))))
  refine EvIf.split (fun g3 => ?_) (fun g3 => ?_)
  · simp only [decide_eq_true_eq] at g3
    have hlt : i < l.length := by omega
    have hmem : l.getD i cl0 ∈ l := by
      have : l.getD i cl0 = l[i] := by simp [List.getD_eq_getElem?_getD, hlt]
      rw [this]; exact List.getElem_mem ..
    have hcv := (valid_iff d _).1 (hlv _ hmem)
    have hcv' : -1099511627776 ≤ (l.getD (i : Int).toNat rC.d).lo ∧ (l.getD (i : Int).toNat rC.d).lo ≤ (l.getD (i : Int).toNat rC.d).hi ∧ (l.getD (i : Int).toNat rC.d).hi ≤ 1099511627776 := hcv.2.2.2
    have hb1 := belowV_bd (n := (l.getD (i : Int).toNat rC.d).lo) g2.1
    have hb2 := belowV_bd (n := -(l.getD (i : Int).toNat rC.d).hi) g2.1
    have hMg : (widM q l i).getD (i : Int).toNat rC.d = l.getD i cl0 := widM_get hlt
    have hst : ((widM q l i).set (i : Int).toNat ⟨((widM q l i).getD (i : Int).toNat rC.d).f, ((widM q l i).getD (i : Int).toNat rC.d).t, max (belowV (l.getD (i : Int).toNat rC.d).lo q) (-1099511627776), ((widM q l i).getD (i : Int).toNat rC.d).hi⟩).getD (i : Int).toNat rC.d = ⟨((widM q l i).getD (i : Int).toNat rC.d).f, ((widM q l i).getD (i : Int).toNat rC.d).t, max (belowV (l.getD (i : Int).toNat rC.d).lo q) (-1099511627776), ((widM q l i).getD (i : Int).toNat rC.d).hi⟩ := set2 (by rw [hwl]; exact hlt) _ _ 0
    have hx : ((widM q l i).set (i : Int).toNat ⟨((widM q l i).getD (i : Int).toNat rC.d).f, ((widM q l i).getD (i : Int).toNat rC.d).t, max (belowV (l.getD (i : Int).toNat rC.d).lo q) (-1099511627776), ((widM q l i).getD (i : Int).toNat rC.d).hi⟩).set (i : Int).toNat ⟨(((widM q l i).set (i : Int).toNat ⟨((widM q l i).getD (i : Int).toNat rC.d).f, ((widM q l i).getD (i : Int).toNat rC.d).t, max (belowV (l.getD (i : Int).toNat rC.d).lo q) (-1099511627776), ((widM q l i).getD (i : Int).toNat rC.d).hi⟩).getD (i : Int).toNat rC.d).f, (((widM q l i).set (i : Int).toNat ⟨((widM q l i).getD (i : Int).toNat rC.d).f, ((widM q l i).getD (i : Int).toNat rC.d).t, max (belowV (l.getD (i : Int).toNat rC.d).lo q) (-1099511627776), ((widM q l i).getD (i : Int).toNat rC.d).hi⟩).getD (i : Int).toNat rC.d).t, (((widM q l i).set (i : Int).toNat ⟨((widM q l i).getD (i : Int).toNat rC.d).f, ((widM q l i).getD (i : Int).toNat rC.d).t, max (belowV (l.getD (i : Int).toNat rC.d).lo q) (-1099511627776), ((widM q l i).getD (i : Int).toNat rC.d).hi⟩).getD (i : Int).toNat rC.d).lo, min (-(belowV (-(l.getD (i : Int).toNat rC.d).hi) q)) 1099511627776⟩ = widM q l (i + 1) := by
      rw [hst, List.set_set, hMg]
      exact widM_set hlt
    have hsl : ((widM q l i).set (i : Int).toNat ⟨((widM q l i).getD (i : Int).toNat rC.d).f, ((widM q l i).getD (i : Int).toNat rC.d).t, max (belowV (l.getD (i : Int).toNat rC.d).lo q) (-1099511627776), ((widM q l i).getD (i : Int).toNat rC.d).hi⟩).length = l.length := by rw [List.length_set, hwl]
    ((conv=>whnf);(repeat(refine And.intro ?_ ?_;(focus((first|omega|exact⟨rfl,True.intro⟩|exact⟨rfl,rfl,True.intro⟩|rfl|(simp only[List.length_set];first|omega|(refine⟨?_,?_⟩<;>omega)|(refine⟨?_,?_,?_⟩<;>omega))|(intro hg;(try simp only[bB]at hg);first|omega|(refine⟨?_,?_⟩<;>omega)|(refine⟨?_,?_,?_⟩<;>first|omega|(show _<_;(try simp only[List.length_set]);omega)|exact leT rfl))|(refine⟨?_,?_⟩<;>omega)|(refine⟨?_,?_,?_⟩<;>first|omega|(show _<_;(try simp only[List.length_set]);omega)|exact leT rfl)|(simp only[show rI.d=(0:Int)from rfl];omega));done));(conv=>whnf))))
    refine EvCall.plain Try.call48 (.v (.int .i64 (belowV (l.getD (i : Int).toNat rC.d).lo q))) rfl (fun ρ W hp => below_s _ _ W (by omega) g2) ?_
    ((conv=>whnf);(repeat(refine And.intro ?_ ?_;(focus((first|omega|exact⟨rfl,True.intro⟩|exact⟨rfl,rfl,True.intro⟩|rfl|(simp only[List.length_set];first|omega|(refine⟨?_,?_⟩<;>omega)|(refine⟨?_,?_,?_⟩<;>omega))|(intro hg;(try simp only[bB]at hg);first|omega|(refine⟨?_,?_⟩<;>omega)|(refine⟨?_,?_,?_⟩<;>first|omega|(show _<_;(try simp only[List.length_set]);omega)|exact leT rfl))|(refine⟨?_,?_⟩<;>omega)|(refine⟨?_,?_,?_⟩<;>first|omega|(show _<_;(try simp only[List.length_set]);omega)|exact leT rfl)|(simp only[show rI.d=(0:Int)from rfl];omega));done));(conv=>whnf))))
    refine EvCall.plain Try.call48 (.v (.int .i64 (belowV (-(l.getD (i : Int).toNat rC.d).hi) q))) rfl (fun ρ W hp => below_s _ _ W (by omega) g2) ?_
    ((conv=>whnf);(repeat(refine And.intro ?_ ?_;(focus((first|omega|exact⟨rfl,True.intro⟩|exact⟨rfl,rfl,True.intro⟩|rfl|(simp only[List.length_set];first|omega|(refine⟨?_,?_⟩<;>omega)|(refine⟨?_,?_,?_⟩<;>omega))|(intro hg;(try simp only[bB]at hg);first|omega|(refine⟨?_,?_⟩<;>omega)|(refine⟨?_,?_,?_⟩<;>first|omega|(show _<_;(try simp only[List.length_set]);omega)|exact leT rfl))|(refine⟨?_,?_⟩<;>omega)|(refine⟨?_,?_,?_⟩<;>first|omega|(show _<_;(try simp only[List.length_set]);omega)|exact leT rfl)|(simp only[show rI.d=(0:Int)from rfl];omega));done));(conv=>whnf))))
    refine LoopI.back (i + 1) (by omega) (by omega) (Sub.of [] [] rfl ?_)
    (repeat' (refine And.intro ?_ ?_)) <;> first | rfl | exact True.intro | exact congrArg (Ct.rows Cl rC) hx | exact congrArg (Ct.rows Cl rC) hx.symm | omega
  simp only [decide_eq_false_iff_not] at g3
  obtain rfl : i = l.length := by omega
  have hall := widM_all q l
  have hml : (l.map (wid q)).length = l.length := List.length_map ..
  rw [hall]
  generalize l.map (wid q) = fl at *
  have h12 : fl.length ≤ 1000 := by omega
  have hcf : fl.length ≤ cap := by omega
  ((conv=>whnf);(repeat(refine And.intro ?_ ?_;(focus((first|omega|exact⟨rfl,True.intro⟩|exact⟨rfl,rfl,True.intro⟩|rfl|(simp only[List.length_set];first|omega|(refine⟨?_,?_⟩<;>omega)|(refine⟨?_,?_,?_⟩<;>omega))|(intro hg;(try simp only[bB]at hg);first|omega|(refine⟨?_,?_⟩<;>omega)|(refine⟨?_,?_,?_⟩<;>first|omega|(show _<_;(try simp only[List.length_set]);omega)|exact leT rfl))|(refine⟨?_,?_⟩<;>omega)|(refine⟨?_,?_,?_⟩<;>first|omega|(show _<_;(try simp only[List.length_set]);omega)|exact leT rfl)|(simp only[show rI.d=(0:Int)from rfl];omega));done));(conv=>whnf))))
  refine EvCall.rows3 (R := rC) (ty := 62) (xs := (finR d l fl).1) (c := (finR d l fl).2.1) (z := (finR d l fl).2.2) Try.call49 (fun ρ W hp => by
    have := finish_s _ _ _ d l fl W (hD.below hp.bel) hI (hp.rowsIn (R := rC) (n := 0) (c := c1) rfl (by decide) e1 e2 4) (hp.rowsIn (R := rC) (n := 5) (c := cap) rfl (by decide) hcf hc2 4) (.inl h12)
    rw [hml] at this
    exact this) (fun kk z1 z2 => ?_)
  ((conv=>whnf);(repeat(refine And.intro ?_ ?_;(focus((first|omega|exact⟨rfl,True.intro⟩|exact⟨rfl,rfl,True.intro⟩|rfl|(simp only[List.length_set];first|omega|(refine⟨?_,?_⟩<;>omega)|(refine⟨?_,?_,?_⟩<;>omega))|(intro hg;(try simp only[bB]at hg);first|omega|(refine⟨?_,?_⟩<;>omega)|(refine⟨?_,?_,?_⟩<;>first|omega|(show _<_;(try simp only[List.length_set]);omega)|exact leT rfl))|(refine⟨?_,?_⟩<;>omega)|(refine⟨?_,?_,?_⟩<;>first|omega|(show _<_;(try simp only[List.length_set]);omega)|exact leT rfl)|(simp only[show rI.d=(0:Int)from rfl];omega));done));(conv=>whnf))))
  exact EvRet.rows3 (R := rC) rfl z1 rfl rfl rfl rfl
end Go.Proofs.Ytpnngbfmmjjnaaa
