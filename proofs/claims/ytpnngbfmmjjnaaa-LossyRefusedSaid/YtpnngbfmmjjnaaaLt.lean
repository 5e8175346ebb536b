
/- The reference of the lossy steps: floor, with, Quantise, Retain, Thin, walked. -/
import Derived.Test.YtpnngbfmmjjnaaaLs
namespace Go.Proofs.Ytpnngbfmmjjnaaa
open Go.RowKit
set_option linter.unusedVariables false
set_option linter.unusedSimpArgs false

theorem tdiv_q (n q : Int) : n.tdiv q * q = n - n.tmod q := by
  have := Int.mul_tdiv_add_tmod n q
  rw [Int.mul_comm] at this
  omega
theorem floor_s (n q : Int) (w : World) (hn : -1099511627776 ≤ n ∧ n ≤ 1099511627776) (hq : 1 ≤ q ∧ q ≤ 1073741824) : Con Try.prog 78 #[.int .i64 n, .int .i64 q] w (Ret w (.int .i64 (belowV n q))) := by
  have h1 : n.tmod q < q := Int.tmod_lt_of_pos n (by omega)
  have h2 : -q < n.tmod q := Int.lt_tmod_of_pos n (by omega)
  have h3 := tdiv_q n q
  have h4 : -1099511627776 ≤ n.tdiv q ∧ n.tdiv q ≤ 1099511627776 := by
    have h5 := Int.natAbs_tdiv_le_natAbs n q
    omega
  unfold belowV
  refine enter tabOk mixed Try.func78 rfl Try.ntmps78 Try.results78 [.v (.int .i64 n), .v (.int .i64 q)] (fun _ => none) [] 0 rfl rfl (hp0 _ _ _) ?_
  ((conv=>whnf);(repeat(refine And.intro ?_ ?_;(focus((first|omega|exact⟨rfl,True.intro⟩|exact⟨rfl,rfl,True.intro⟩|rfl|(simp only[List.length_set];first|omega|(refine⟨?_,?_⟩<;>omega)|(refine⟨?_,?_,?_⟩<;>omega))|(intro hg;(try simp only[bB]at hg);first|omega|(refine⟨?_,?_⟩<;>omega)|(refine⟨?_,?_,?_⟩<;>first|omega|(show _<_;(try simp only[List.length_set]);omega)|exact leT rfl))|(refine⟨?_,?_⟩<;>omega)|(refine⟨?_,?_,?_⟩<;>first|omega|(show _<_;(try simp only[List.length_set]);omega)|exact leT rfl)|(simp only[show rI.d=(0:Int)from rfl];omega));done));(conv=>whnf))))
  refine EvIf.split (fun g => ?_) (fun g => ?_)
  · have g1 := of_decide_eq_true g
    rw [if_pos (by omega)]
    ((conv=>whnf);(repeat(refine And.intro ?_ ?_;(focus((first|omega|exact⟨rfl,True.intro⟩|exact⟨rfl,rfl,True.intro⟩|rfl|(simp only[List.length_set];first|omega|(refine⟨?_,?_⟩<;>omega)|(refine⟨?_,?_,?_⟩<;>omega))|(intro hg;(try simp only[bB]at hg);first|omega|(refine⟨?_,?_⟩<;>omega)|(refine⟨?_,?_,?_⟩<;>first|omega|(show _<_;(try simp only[List.length_set]);omega)|exact leT rfl))|(refine⟨?_,?_⟩<;>omega)|(refine⟨?_,?_,?_⟩<;>first|omega|(show _<_;(try simp only[List.length_set]);omega)|exact leT rfl)|(simp only[show rI.d=(0:Int)from rfl];omega));done));(conv=>whnf))))
    exact EvRet.ret (fun _ => by simp only [den]; congr 1; try omega)
  · have g1 := of_decide_eq_false g
    rw [if_neg (by omega)]
    ((conv=>whnf);(repeat(refine And.intro ?_ ?_;(focus((first|omega|exact⟨rfl,True.intro⟩|exact⟨rfl,rfl,True.intro⟩|rfl|(simp only[List.length_set];first|omega|(refine⟨?_,?_⟩<;>omega)|(refine⟨?_,?_,?_⟩<;>omega))|(intro hg;(try simp only[bB]at hg);first|omega|(refine⟨?_,?_⟩<;>omega)|(refine⟨?_,?_,?_⟩<;>first|omega|(show _<_;(try simp only[List.length_set]);omega)|exact leT rfl))|(refine⟨?_,?_⟩<;>omega)|(refine⟨?_,?_,?_⟩<;>first|omega|(show _<_;(try simp only[List.length_set]);omega)|exact leT rfl)|(simp only[show rI.d=(0:Int)from rfl];omega));done));(conv=>whnf))))
    exact EvRet.ret (fun _ => by simp only [den]; congr 1; try omega)
theorem finR_eq {d : Dc} {l r : List Cl} (h : r.length ≤ 4096) : finR d l r = if (costR d l r).2 ≠ 0 then ([], 0, (costR d l r).2) else (sortC r, (costR d l r).1, 0) := if_neg (by omega)
set_option maxRecDepth 10000 in
theorem ref_with_s (V v1 v2 : Value) (d : Dc) (l r : List Cl) (w : World) (h : DeclIs w V d) (hI : DcI d) (h1 : RowsIn rC w v1 l) (h2 : RowsIn rC w v2 r) (hr : r.length ≤ 1000) :
    Con Try.prog 79 #[V, v1, v2] w (RetR3 rC 62 w (finR d l r).1 (finR d l r).2.1 (finR d l r).2.2) := by
  have hD := h
  obtain ⟨nm, A, c, lb, rfl, hnm, hlab, hSh⟩ := h
  obtain ⟨A1, c1, rfl, e1, e2⟩ := h1.form
  obtain ⟨A2, c2, rfl, e3, e4⟩ := h2.form
  rw [finR_eq (by omega)]
  refine enter tabOk mixed Try.func79 rfl Try.ntmps79 Try.results79 [.a (dcS nm (.v (.slice A lb.length c)) d), .s 0 4 l.length c1, .s 1 4 r.length c2] (fun n => if n = 0 then A1 else A2) [⟨1, false, 62, 4, c2, .rows Cl rC (r)⟩, ⟨0, false, 62, 4, c1, .rows Cl rC (l)⟩] 2 rfl rfl (.ro (.ro (hp0 _ _ _) _ rfl rfl rfl (ro_rows h1 rfl _)) _ rfl rfl rfl (ro_rows h2 rfl _)) ?_
  ((conv=>whnf);(repeat(refine And.intro ?_ ?_;(focus((first|omega|exact⟨rfl,True.intro⟩|exact⟨rfl,rfl,True.intro⟩|rfl|(simp only[List.length_set];first|omega|(refine⟨?_,?_⟩<;>omega)|(refine⟨?_,?_,?_⟩<;>omega))|(intro hg;(try simp only[bB]at hg);first|omega|(refine⟨?_,?_⟩<;>omega)|(refine⟨?_,?_,?_⟩<;>first|omega|(show _<_;(try simp only[List.length_set]);omega)|exact leT rfl))|(refine⟨?_,?_⟩<;>omega)|(refine⟨?_,?_,?_⟩<;>first|omega|(show _<_;(try simp only[List.length_set]);omega)|exact leT rfl)|(simp only[show rI.d=(0:Int)from rfl];omega));done));(conv=>whnf))))
  refine EvCall.plain Try.call32 (.t [.v (.int .i64 (costR d l r).1), .v (.int .i64 (costR d l r).2)]) rfl (fun ρ W hp => ref_cost_s _ _ _ d l r W (hD.below hp.bel) hI (hp.rowsIn (R := rC) (n := 0) (c := c1) rfl (by decide) e1 e2 4) (hp.rowsIn (R := rC) (n := 1) (c := c2) rfl (by decide) e3 e4 4)) ?_
  generalize costR d l r = k at *
  ((conv=>whnf);(repeat(refine And.intro ?_ ?_;(focus((first|omega|exact⟨rfl,True.intro⟩|exact⟨rfl,rfl,True.intro⟩|rfl|(simp only[List.length_set];first|omega|(refine⟨?_,?_⟩<;>omega)|(refine⟨?_,?_,?_⟩<;>omega))|(intro hg;(try simp only[bB]at hg);first|omega|(refine⟨?_,?_⟩<;>omega)|(refine⟨?_,?_,?_⟩<;>first|omega|(show _<_;(try simp only[List.length_set]);omega)|exact leT rfl))|(refine⟨?_,?_⟩<;>omega)|(refine⟨?_,?_,?_⟩<;>first|omega|(show _<_;(try simp only[List.length_set]);omega)|exact leT rfl)|(simp only[show rI.d=(0:Int)from rfl];omega));done));(conv=>whnf))))
  refine EvIf.split (fun g => ?_) (fun g => ?_)
  · rw [if_pos (by simpa using g)]
    ((conv=>whnf);(repeat(refine And.intro ?_ ?_;(focus((first|omega|exact⟨rfl,True.intro⟩|exact⟨rfl,rfl,True.intro⟩|rfl|(simp only[List.length_set];first|omega|(refine⟨?_,?_⟩<;>omega)|(refine⟨?_,?_,?_⟩<;>omega))|(intro hg;(try simp only[bB]at hg);first|omega|(refine⟨?_,?_⟩<;>omega)|(refine⟨?_,?_,?_⟩<;>first|omega|(show _<_;(try simp only[List.length_set]);omega)|exact leT rfl))|(refine⟨?_,?_⟩<;>omega)|(refine⟨?_,?_,?_⟩<;>first|omega|(show _<_;(try simp only[List.length_set]);omega)|exact leT rfl)|(simp only[show rI.d=(0:Int)from rfl];omega));done));(conv=>whnf))))
    exact EvRet.rows3_nil rfl rfl rfl
  rw [if_neg (by simpa using g)]
  ((conv=>whnf);(repeat(refine And.intro ?_ ?_;(focus((first|omega|exact⟨rfl,True.intro⟩|exact⟨rfl,rfl,True.intro⟩|rfl|(simp only[List.length_set];first|omega|(refine⟨?_,?_⟩<;>omega)|(refine⟨?_,?_,?_⟩<;>omega))|(intro hg;(try simp only[bB]at hg);first|omega|(refine⟨?_,?_⟩<;>omega)|(refine⟨?_,?_,?_⟩<;>first|omega|(show _<_;(try simp only[List.length_set]);omega)|exact leT rfl))|(refine⟨?_,?_⟩<;>omega)|(refine⟨?_,?_,?_⟩<;>first|omega|(show _<_;(try simp only[List.length_set]);omega)|exact leT rfl)|(simp only[show rI.d=(0:Int)from rfl];omega));done));(conv=>whnf))))
  refine EvCall.rows (R := rC) (ty := 62) (xs := sortC r) Try.call80 (fun ρ W hp => ref_sort_s _ r W (hp.rowsIn (R := rC) (n := 1) (c := c2) rfl (by decide) e3 e4 4) hr) (fun cap hs1 hs2 => ?_)
  ((conv=>whnf);(repeat(refine And.intro ?_ ?_;(focus((first|omega|exact⟨rfl,True.intro⟩|exact⟨rfl,rfl,True.intro⟩|rfl|(simp only[List.length_set];first|omega|(refine⟨?_,?_⟩<;>omega)|(refine⟨?_,?_,?_⟩<;>omega))|(intro hg;(try simp only[bB]at hg);first|omega|(refine⟨?_,?_⟩<;>omega)|(refine⟨?_,?_,?_⟩<;>first|omega|(show _<_;(try simp only[List.length_set]);omega)|exact leT rfl))|(refine⟨?_,?_⟩<;>omega)|(refine⟨?_,?_,?_⟩<;>first|omega|(show _<_;(try simp only[List.length_set]);omega)|exact leT rfl)|(simp only[show rI.d=(0:Int)from rfl];omega));done));(conv=>whnf))))
  exact EvRet.rows3 (R := rC) rfl hs1 rfl rfl rfl rfl
theorem getD_memC {l : List Cl} {i : Nat} (h : i < l.length) : l.getD (i : Int).toNat rC.d ∈ l := by
  show l.getD i cl0 ∈ l
  exact getD_mem_cl h
set_option maxRecDepth 20000 in
theorem ref_quantise_s (V v : Value) (d : Dc) (l : List Cl) (b : Int) (w : World) (h : DeclIs w V d) (hI : DcI d) (hv : RowsIn rC w v l) (hl : l.length ≤ 900) :
    Con Try.prog 61 #[V, v, .int .i64 b] w (RetR3 rC 62 w (quR d l b).1 (quR d l b).2.1 (quR d l b).2.2) := by
  have hok := newR_ok (d := d) (l := l)
  unfold quR
  have hD := h
  obtain ⟨nm, A, c, lb, rfl, hnm, hlab, hSh⟩ := h
  obtain ⟨A1, c1, rfl, e1, e2⟩ := hv.form
  refine enter tabOk mixed Try.func61 rfl Try.ntmps61 Try.results61 [.a (dcS nm (.v (.slice A lb.length c)) d), .s 0 4 l.length c1, .v (.int .i64 b)] (fun _ => A1) [⟨0, false, 62, 4, c1, .rows Cl rC (l)⟩] 1 rfl rfl (.ro (hp0 _ _ _) _ rfl rfl rfl (ro_rows hv rfl _)) ?_
  ((conv=>whnf);(repeat(refine And.intro ?_ ?_;(focus((first|omega|exact⟨rfl,True.intro⟩|exact⟨rfl,rfl,True.intro⟩|rfl|(simp only[List.length_set];first|omega|(refine⟨?_,?_⟩<;>omega)|(refine⟨?_,?_,?_⟩<;>omega))|(intro hg;(try simp only[bB]at hg);first|omega|(refine⟨?_,?_⟩<;>omega)|(refine⟨?_,?_,?_⟩<;>first|omega|(show _<_;(try simp only[List.length_set]);omega)|exact leT rfl))|(refine⟨?_,?_⟩<;>omega)|(refine⟨?_,?_,?_⟩<;>first|omega|(show _<_;(try simp only[List.length_set]);omega)|exact leT rfl)|(simp only[show rI.d=(0:Int)from rfl];omega));done));(conv=>whnf))))
  refine EvCall.two (ty := 3) (xs := (newR d l).1.lo) (ys := (newR d l).1.hi) (envES (newR d l).1.f (newR d l).2) (envES_den _ _) (envES_lt _ _) Try.call59 (fun ρ W hp => ref_new_s _ _ d l W (hD.below hp.bel) hI (hp.rowsIn (R := rC) (n := 0) (c := c1) rfl (by decide) e1 e2 4)) (fun p1 p2 q1 q2 q3 q4 => ?_)
  generalize newR d l = x at *
  ((conv=>whnf);(repeat(refine And.intro ?_ ?_;(focus((first|omega|exact⟨rfl,True.intro⟩|exact⟨rfl,rfl,True.intro⟩|rfl|(simp only[List.length_set];first|omega|(refine⟨?_,?_⟩<;>omega)|(refine⟨?_,?_,?_⟩<;>omega))|(intro hg;(try simp only[bB]at hg);first|omega|(refine⟨?_,?_⟩<;>omega)|(refine⟨?_,?_,?_⟩<;>first|omega|(show _<_;(try simp only[List.length_set]);omega)|exact leT rfl))|(refine⟨?_,?_⟩<;>omega)|(refine⟨?_,?_,?_⟩<;>first|omega|(show _<_;(try simp only[List.length_set]);omega)|exact leT rfl)|(simp only[show rI.d=(0:Int)from rfl];omega));done));(conv=>whnf))))
  refine EvIf.split (fun g => ?_) (fun g => ?_)
  · rw [if_pos (by simpa using g)]
    ((conv=>whnf);(repeat(refine And.intro ?_ ?_;(focus((first|omega|exact⟨rfl,True.intro⟩|exact⟨rfl,rfl,True.intro⟩|rfl|(simp only[List.length_set];first|omega|(refine⟨?_,?_⟩<;>omega)|(refine⟨?_,?_,?_⟩<;>omega))|(intro hg;(try simp only[bB]at hg);first|omega|(refine⟨?_,?_⟩<;>omega)|(refine⟨?_,?_,?_⟩<;>first|omega|(show _<_;(try simp only[List.length_set]);omega)|exact leT rfl))|(refine⟨?_,?_⟩<;>omega)|(refine⟨?_,?_,?_⟩<;>first|omega|(show _<_;(try simp only[List.length_set]);omega)|exact leT rfl)|(simp only[show rI.d=(0:Int)from rfl];omega));done));(conv=>whnf))))
    exact EvRet.rows3_nil rfl rfl rfl
  have g0 : x.2 = 0 := by simpa using g
  rw [if_neg (by simpa using g)]
  obtain ⟨hvc, hll, hlv, hoo, hxe⟩ := hok g0
  have hbd := valid_bounds hvc
  ((conv=>whnf);(repeat(refine And.intro ?_ ?_;(focus((first|omega|exact⟨rfl,True.intro⟩|exact⟨rfl,rfl,True.intro⟩|rfl|(simp only[List.length_set];first|omega|(refine⟨?_,?_⟩<;>omega)|(refine⟨?_,?_,?_⟩<;>omega))|(intro hg;(try simp only[bB]at hg);first|omega|(refine⟨?_,?_⟩<;>omega)|(refine⟨?_,?_,?_⟩<;>first|omega|(show _<_;(try simp only[List.length_set]);omega)|exact leT rfl))|(refine⟨?_,?_⟩<;>omega)|(refine⟨?_,?_,?_⟩<;>first|omega|(show _<_;(try simp only[List.length_set]);omega)|exact leT rfl)|(simp only[show rI.d=(0:Int)from rfl];omega));done));(conv=>whnf))))
  refine EvIf.split (fun g1 => ?_) (fun g1 => ?_)
  · rw [if_pos (by simpa using g1)]
    ((conv=>whnf);(repeat(refine And.intro ?_ ?_;(focus((first|omega|exact⟨rfl,True.intro⟩|exact⟨rfl,rfl,True.intro⟩|rfl|(simp only[List.length_set];first|omega|(refine⟨?_,?_⟩<;>omega)|(refine⟨?_,?_,?_⟩<;>omega))|(intro hg;(try simp only[bB]at hg);first|omega|(refine⟨?_,?_⟩<;>omega)|(refine⟨?_,?_,?_⟩<;>first|omega|(show _<_;(try simp only[List.length_set]);omega)|exact leT rfl))|(refine⟨?_,?_⟩<;>omega)|(refine⟨?_,?_,?_⟩<;>first|omega|(show _<_;(try simp only[List.length_set]);omega)|exact leT rfl)|(simp only[show rI.d=(0:Int)from rfl];omega));done));(conv=>whnf))))
    exact EvRet.rows3_nil rfl rfl rfl
  rw [if_neg (by simpa using g1)]
  have g2 : 1 ≤ b ∧ b ≤ 1073741824 := by
    simp only [Bool.or_eq_false_iff, decide_eq_false_iff_not] at g1
    omega
  obtain ⟨F, hF⟩ : ∃ F : List Cl → List Cl, F = fun m => m.map (wid b) := ⟨_, rfl⟩
  have hFl : ∀ m, (F m).length = m.length := fun m => by rw [hF]; exact List.length_map ..
  have hFe : l.map (wid b) = F l := by rw [hF]
  rw [hFe]
  have hF0 : F [] = [] := by rw [hF]; rfl
  ((conv=>whnf);(repeat(refine And.intro ?_ ?_;(focus((first|omega|exact⟨rfl,True.intro⟩|exact⟨rfl,rfl,True.intro⟩|rfl|(simp only[List.length_set];first|omega|(refine⟨?_,?_⟩<;>omega)|(refine⟨?_,?_,?_⟩<;>omega))|(intro hg;(try simp only[bB]at hg);first|omega|(refine⟨?_,?_⟩<;>omega)|(refine⟨?_,?_,?_⟩<;>first|omega|(show _<_;(try simp only[List.length_set]);omega)|exact leT rfl))|(refine⟨?_,?_⟩<;>omega)|(refine⟨?_,?_,?_⟩<;>first|omega|(show _<_;(try simp only[List.length_set]);omega)|exact leT rfl)|(simp only[show rI.d=(0:Int)from rfl];omega));done));(conv=>whnf))))
  refine EvLoop.inv (α := Nat × Nat) (fun p => p.1 ≤ l.length ∧ p.1 ≤ p.2 ∧ p.2 ≤ 9223372036854775807) (fun p => l.length - p.1) (fun p => [(12, [], .v (.int .i64 ((p.1 : Int)))), (11, [], .s 5 4 p.1 p.2), (3, [], .p 1 0), (2, [], .v (.int .i64 (b))), (1, [], .s 0 4 l.length c1)])
    (fun p => [⟨5, true, 62, 4, p.2, .rows Cl rC (F (l.take p.1))⟩, ⟨1, true, 27, 12, 1, .cs (dcS nm (.v (.slice A lb.length c)) d)⟩, ⟨0, false, 62, 4, c1, .rows Cl rC l⟩]) 6 (0, 0) ⟨by omega, by omega, by decide⟩ (Sub.of [] [5] rfl ?_) ?_
  · have hF1 : (F (l.take 0)) = [] := hF0
    (repeat' (refine And.intro ?_ ?_)) <;> first | rfl | exact True.intro | omega | (rw [hF1]; rfl) | (show _ = _ ; simp [hF0])
  intro p ⟨hi1, hi2, hi3⟩
  have hfl : (F (l.take p.1)).length = p.1 := by rw [hFl, List.length_take]; omega
  ((conv=>whnf);(repeat(refine And.intro ?_ ?_;(focus((first|omega|exact⟨rfl,True.intro⟩|exact⟨rfl,rfl,True.intro⟩|rfl|(simp only[List.length_set];first|omega|(refine⟨?_,?_⟩<;>omega)|(refine⟨?_,?_,?_⟩<;>omega))|(intro hg;(try simp only[bB]at hg);first|omega|(refine⟨?_,?_⟩<;>omega)|(refine⟨?_,?_,?_⟩<;>first|omega|(show _<_;(try simp only[List.length_set]);omega)|exact leT rfl))|(refine⟨?_,?_⟩<;>omega)|(refine⟨?_,?_,?_⟩<;>first|omega|(show _<_;(try simp only[List.length_set]);omega)|exact leT rfl)|(simp only[show rI.d=(0:Int)from rfl];omega));done));(conv=>whnf))))
  refine EvIf.split (fun g3 => ?_) (fun g3 => ?_)
  · have hlt : p.1 < l.length := by have := of_decide_eq_true g3; omega
    have hcv := (valid_iff d _).1 (hlv _ (getD_memC hlt))
    have hFa : F (l.take (p.1 + 1)) = F (l.take p.1) ++ [wid b (l.getD (p.1 : Int).toNat rC.d)] := by
      rw [take_one l p.1 cl0 hlt, hF]
      simp
      rfl
    have hwd : wid b (l.getD (p.1 : Int).toNat rC.d) = ⟨(l.getD (p.1 : Int).toNat rC.d).f, (l.getD (p.1 : Int).toNat rC.d).t, max (belowV (l.getD (p.1 : Int).toNat rC.d).lo b) (-1099511627776), min (-(belowV (-(l.getD (p.1 : Int).toNat rC.d).hi) b)) 1099511627776⟩ := rfl
    rw [hwd] at hFa
    have b1 := belowV_bd (n := (l.getD (p.1 : Int).toNat rC.d).lo) g2.1
    have b2 := belowV_bd (n := -(l.getD (p.1 : Int).toNat rC.d).hi) g2.1
    have s1 := fun W => floor_s (l.getD (p.1 : Int).toNat rC.d).lo b W (by omega) g2
    have s2 := fun W => floor_s (-(l.getD (p.1 : Int).toNat rC.d).hi) b W (by omega) g2
    generalize belowV (l.getD (p.1 : Int).toNat rC.d).lo b = u1 at *
    generalize belowV (-(l.getD (p.1 : Int).toNat rC.d).hi) b = u2 at *
    generalize F (l.take p.1) = fl at *
    ((conv=>whnf);(repeat(refine And.intro ?_ ?_;(focus((first|omega|exact⟨rfl,True.intro⟩|exact⟨rfl,rfl,True.intro⟩|rfl|(simp only[List.length_set];first|omega|(refine⟨?_,?_⟩<;>omega)|(refine⟨?_,?_,?_⟩<;>omega))|(intro hg;(try simp only[bB]at hg);first|omega|(refine⟨?_,?_⟩<;>omega)|(refine⟨?_,?_,?_⟩<;>first|omega|(show _<_;(try simp only[List.length_set]);omega)|exact leT rfl))|(refine⟨?_,?_⟩<;>omega)|(refine⟨?_,?_,?_⟩<;>first|omega|(show _<_;(try simp only[List.length_set]);omega)|exact leT rfl)|(simp only[show rI.d=(0:Int)from rfl];omega));done));(conv=>whnf))))
    refine EvCall.plain Try.call78 (.v (.int .i64 u1)) rfl (fun ρ W hp => s1 W) ?_
    ((conv=>whnf);(repeat(refine And.intro ?_ ?_;(focus((first|omega|exact⟨rfl,True.intro⟩|exact⟨rfl,rfl,True.intro⟩|rfl|(simp only[List.length_set];first|omega|(refine⟨?_,?_⟩<;>omega)|(refine⟨?_,?_,?_⟩<;>omega))|(intro hg;(try simp only[bB]at hg);first|omega|(refine⟨?_,?_⟩<;>omega)|(refine⟨?_,?_,?_⟩<;>first|omega|(show _<_;(try simp only[List.length_set]);omega)|exact leT rfl))|(refine⟨?_,?_⟩<;>omega)|(refine⟨?_,?_,?_⟩<;>first|omega|(show _<_;(try simp only[List.length_set]);omega)|exact leT rfl)|(simp only[show rI.d=(0:Int)from rfl];omega));done));(conv=>whnf))))
    refine EvCall.plain Try.call78 (.v (.int .i64 u2)) rfl (fun ρ W hp => s2 W) ?_
    ((conv=>whnf);(repeat(refine And.intro ?_ ?_;(focus((first|omega|exact⟨rfl,True.intro⟩|exact⟨rfl,rfl,True.intro⟩|rfl|(simp only[List.length_set];first|omega|(refine⟨?_,?_⟩<;>omega)|(refine⟨?_,?_,?_⟩<;>omega))|(intro hg;(try simp only[bB]at hg);first|omega|(refine⟨?_,?_⟩<;>omega)|(refine⟨?_,?_,?_⟩<;>first|omega|(show _<_;(try simp only[List.length_set]);omega)|exact leT rfl))|(refine⟨?_,?_⟩<;>omega)|(refine⟨?_,?_,?_⟩<;>first|omega|(show _<_;(try simp only[List.length_set]);omega)|exact leT rfl)|(simp only[show rI.d=(0:Int)from rfl];omega));done));(conv=>whnf))))
    refine EvBi.append (R := rC) (xs := fl) tyok29 rfl tyok62 rfl (by decide) rfl rfl (by rw [hfl]) (by rw [hfl]; exact hi2) [⟨(l.getD (p.1 : Int).toNat rC.d).f, (l.getD (p.1 : Int).toNat rC.d).t, max u1 (-1099511627776), min (-u2) 1099511627776⟩] (fun ρ W hp => hp.lit (R := rC) (ys := [⟨(l.getD (p.1 : Int).toNat rC.d).f, (l.getD (p.1 : Int).toNat rC.d).t, max u1 (-1099511627776), min (-u2) 1099511627776⟩]) (n := 7) rfl (by decide) (by simp) (by omega) rfl) (by rw [hfl]; show (_ + 1) * 32 ≤ _; omega) (by rw [hfl]; show _ + 1 ≤ _; omega) (fun cc hq1 hq2 => ?_)
    rw [← hFa]
    ((conv=>whnf);(repeat(refine And.intro ?_ ?_;(focus((first|omega|exact⟨rfl,True.intro⟩|exact⟨rfl,rfl,True.intro⟩|rfl|(simp only[List.length_set];first|omega|(refine⟨?_,?_⟩<;>omega)|(refine⟨?_,?_,?_⟩<;>omega))|(intro hg;(try simp only[bB]at hg);first|omega|(refine⟨?_,?_⟩<;>omega)|(refine⟨?_,?_,?_⟩<;>first|omega|(show _<_;(try simp only[List.length_set]);omega)|exact leT rfl))|(refine⟨?_,?_⟩<;>omega)|(refine⟨?_,?_,?_⟩<;>first|omega|(show _<_;(try simp only[List.length_set]);omega)|exact leT rfl)|(simp only[show rI.d=(0:Int)from rfl];omega));done));(conv=>whnf))))
    refine LoopI.back (p.1 + 1, cc) ⟨by show p.1 + 1 ≤ l.length; omega, by simpa [hfl] using hq1, hq2⟩ (by show l.length - (p.1 + 1) < l.length - p.1; omega) (Sub.of [(5, 8)] [] rfl ?_)
    (repeat' (refine And.intro ?_ ?_)) <;> first | rfl | exact True.intro | omega | exact congrArg (· + 1) hfl | exact congrArg (· + 1) hfl.symm
  · have g4 : p.1 = l.length := by have := of_decide_eq_false g3; omega
    rw [g4, List.take_length] at hfl ⊢
    rw [g4] at hi2
    generalize F l = fl at *
    ((conv=>whnf);(repeat(refine And.intro ?_ ?_;(focus((first|omega|exact⟨rfl,True.intro⟩|exact⟨rfl,rfl,True.intro⟩|rfl|(simp only[List.length_set];first|omega|(refine⟨?_,?_⟩<;>omega)|(refine⟨?_,?_,?_⟩<;>omega))|(intro hg;(try simp only[bB]at hg);first|omega|(refine⟨?_,?_⟩<;>omega)|(refine⟨?_,?_,?_⟩<;>first|omega|(show _<_;(try simp only[List.length_set]);omega)|exact leT rfl))|(refine⟨?_,?_⟩<;>omega)|(refine⟨?_,?_,?_⟩<;>first|omega|(show _<_;(try simp only[List.length_set]);omega)|exact leT rfl)|(simp only[show rI.d=(0:Int)from rfl];omega));done));(conv=>whnf))))
    refine EvCall.rows3 (R := rC) (ty := 62) (xs := (finR d l fl).1) (c := (finR d l fl).2.1) (z := (finR d l fl).2.2) Try.call79 (fun ρ W hp => by
      have hr := hp.rowsIn (R := rC) (n := 5) (xs := fl) (c := p.2) rfl (by decide) (by omega) (by omega) 4
      rw [hfl] at hr
      exact ref_with_s _ _ _ d l fl W (hD.below hp.bel) hI (hp.rowsIn (R := rC) (n := 0) (c := c1) rfl (by decide) e1 e2 4) hr (by omega)) (fun kk z1 z2 => ?_)
    ((conv=>whnf);(repeat(refine And.intro ?_ ?_;(focus((first|omega|exact⟨rfl,True.intro⟩|exact⟨rfl,rfl,True.intro⟩|rfl|(simp only[List.length_set];first|omega|(refine⟨?_,?_⟩<;>omega)|(refine⟨?_,?_,?_⟩<;>omega))|(intro hg;(try simp only[bB]at hg);first|omega|(refine⟨?_,?_⟩<;>omega)|(refine⟨?_,?_,?_⟩<;>first|omega|(show _<_;(try simp only[List.length_set]);omega)|exact leT rfl))|(refine⟨?_,?_⟩<;>omega)|(refine⟨?_,?_,?_⟩<;>first|omega|(show _<_;(try simp only[List.length_set]);omega)|exact leT rfl)|(simp only[show rI.d=(0:Int)from rfl];omega));done));(conv=>whnf))))
    exact EvRet.rows3 (R := rC) rfl z1 rfl rfl rfl rfl
set_option maxRecDepth 20000 in
theorem ref_retain_s (V v : Value) (d : Dc) (l : List Cl) (b : Int) (w : World) (h : DeclIs w V d) (hI : DcI d) (hv : RowsIn rC w v l) (hl : l.length ≤ 900) :
    Con Try.prog 64 #[V, v, .int .i64 b] w (RetR3 rC 62 w (retR d l b).1 (retR d l b).2.1 (retR d l b).2.2) := by
  have hok := newR_ok (d := d) (l := l)
  unfold retR
  have hD := h
  obtain ⟨nm, A, c, lb, rfl, hnm, hlab, hSh⟩ := h
  obtain ⟨A1, c1, rfl, e1, e2⟩ := hv.form
  refine enter tabOk mixed Try.func64 rfl Try.ntmps64 Try.results64 [.a (dcS nm (.v (.slice A lb.length c)) d), .s 0 4 l.length c1, .v (.int .i64 b)] (fun _ => A1) [⟨0, false, 62, 4, c1, .rows Cl rC (l)⟩] 1 rfl rfl (.ro (hp0 _ _ _) _ rfl rfl rfl (ro_rows hv rfl _)) ?_
  ((conv=>whnf);(repeat(refine And.intro ?_ ?_;(focus((first|omega|exact⟨rfl,True.intro⟩|exact⟨rfl,rfl,True.intro⟩|rfl|(simp only[List.length_set];first|omega|(refine⟨?_,?_⟩<;>omega)|(refine⟨?_,?_,?_⟩<;>omega))|(intro hg;(try simp only[bB]at hg);first|omega|(refine⟨?_,?_⟩<;>omega)|(refine⟨?_,?_,?_⟩<;>first|omega|(show _<_;(try simp only[List.length_set]);omega)|exact leT rfl))|(refine⟨?_,?_⟩<;>omega)|(refine⟨?_,?_,?_⟩<;>first|omega|(show _<_;(try simp only[List.length_set]);omega)|exact leT rfl)|(simp only[show rI.d=(0:Int)from rfl];omega));done));(conv=>whnf))))
  refine EvCall.two (ty := 3) (xs := (newR d l).1.lo) (ys := (newR d l).1.hi) (envES (newR d l).1.f (newR d l).2) (envES_den _ _) (envES_lt _ _) Try.call59 (fun ρ W hp => ref_new_s _ _ d l W (hD.below hp.bel) hI (hp.rowsIn (R := rC) (n := 0) (c := c1) rfl (by decide) e1 e2 4)) (fun p1 p2 q1 q2 q3 q4 => ?_)
  generalize newR d l = x at *
  ((conv=>whnf);(repeat(refine And.intro ?_ ?_;(focus((first|omega|exact⟨rfl,True.intro⟩|exact⟨rfl,rfl,True.intro⟩|rfl|(simp only[List.length_set];first|omega|(refine⟨?_,?_⟩<;>omega)|(refine⟨?_,?_,?_⟩<;>omega))|(intro hg;(try simp only[bB]at hg);first|omega|(refine⟨?_,?_⟩<;>omega)|(refine⟨?_,?_,?_⟩<;>first|omega|(show _<_;(try simp only[List.length_set]);omega)|exact leT rfl))|(refine⟨?_,?_⟩<;>omega)|(refine⟨?_,?_,?_⟩<;>first|omega|(show _<_;(try simp only[List.length_set]);omega)|exact leT rfl)|(simp only[show rI.d=(0:Int)from rfl];omega));done));(conv=>whnf))))
  refine EvIf.split (fun g => ?_) (fun g => ?_)
  · rw [if_pos (by simpa using g)]
    ((conv=>whnf);(repeat(refine And.intro ?_ ?_;(focus((first|omega|exact⟨rfl,True.intro⟩|exact⟨rfl,rfl,True.intro⟩|rfl|(simp only[List.length_set];first|omega|(refine⟨?_,?_⟩<;>omega)|(refine⟨?_,?_,?_⟩<;>omega))|(intro hg;(try simp only[bB]at hg);first|omega|(refine⟨?_,?_⟩<;>omega)|(refine⟨?_,?_,?_⟩<;>first|omega|(show _<_;(try simp only[List.length_set]);omega)|exact leT rfl))|(refine⟨?_,?_⟩<;>omega)|(refine⟨?_,?_,?_⟩<;>first|omega|(show _<_;(try simp only[List.length_set]);omega)|exact leT rfl)|(simp only[show rI.d=(0:Int)from rfl];omega));done));(conv=>whnf))))
    exact EvRet.rows3_nil rfl rfl rfl
  have g0 : x.2 = 0 := by simpa using g
  rw [if_neg (by simpa using g)]
  obtain ⟨hvc, hll, hlv, hoo, hxe⟩ := hok g0
  have hbd := valid_bounds hvc
  ((conv=>whnf);(repeat(refine And.intro ?_ ?_;(focus((first|omega|exact⟨rfl,True.intro⟩|exact⟨rfl,rfl,True.intro⟩|rfl|(simp only[List.length_set];first|omega|(refine⟨?_,?_⟩<;>omega)|(refine⟨?_,?_,?_⟩<;>omega))|(intro hg;(try simp only[bB]at hg);first|omega|(refine⟨?_,?_⟩<;>omega)|(refine⟨?_,?_,?_⟩<;>first|omega|(show _<_;(try simp only[List.length_set]);omega)|exact leT rfl))|(refine⟨?_,?_⟩<;>omega)|(refine⟨?_,?_,?_⟩<;>first|omega|(show _<_;(try simp only[List.length_set]);omega)|exact leT rfl)|(simp only[show rI.d=(0:Int)from rfl];omega));done));(conv=>whnf))))
  refine EvIf.split (fun g1 => ?_) (fun g1 => ?_)
  · rw [if_pos (by simpa using g1)]
    ((conv=>whnf);(repeat(refine And.intro ?_ ?_;(focus((first|omega|exact⟨rfl,True.intro⟩|exact⟨rfl,rfl,True.intro⟩|rfl|(simp only[List.length_set];first|omega|(refine⟨?_,?_⟩<;>omega)|(refine⟨?_,?_,?_⟩<;>omega))|(intro hg;(try simp only[bB]at hg);first|omega|(refine⟨?_,?_⟩<;>omega)|(refine⟨?_,?_,?_⟩<;>first|omega|(show _<_;(try simp only[List.length_set]);omega)|exact leT rfl))|(refine⟨?_,?_⟩<;>omega)|(refine⟨?_,?_,?_⟩<;>first|omega|(show _<_;(try simp only[List.length_set]);omega)|exact leT rfl)|(simp only[show rI.d=(0:Int)from rfl];omega));done));(conv=>whnf))))
    exact EvRet.rows3_nil rfl rfl rfl
  rw [if_neg (by simpa using g1)]
  have g2 : 0 ≤ b ∧ b ≤ 1048576 := by
    simp only [Bool.or_eq_false_iff, decide_eq_false_iff_not] at g1
    omega
  obtain ⟨F, hF⟩ : ∃ F : List Cl → List Cl, F = fun m => m.filter (fun c => decide (b ≤ c.t)) := ⟨_, rfl⟩
  have hFl : ∀ m, (F m).length ≤ m.length := fun m => by rw [hF]; exact List.length_filter_le _ _
  have hF0 : F [] = [] := by rw [hF]; rfl
  have hsp : (spanN d : Int) = d.last - d.first + 1 := by unfold spanN; omega
  have hxf : x.1.f = d.first := by rw [hxe]
  have hxl : x.1.lo.length = spanN d := by rw [hxe]; exact rLoL_len ..
  have hxh : x.1.hi.length = spanN d := by rw [hxe]; exact rHiL_len ..
  ((conv=>whnf);(repeat(refine And.intro ?_ ?_;(focus((first|omega|exact⟨rfl,True.intro⟩|exact⟨rfl,rfl,True.intro⟩|rfl|(simp only[List.length_set];first|omega|(refine⟨?_,?_⟩<;>omega)|(refine⟨?_,?_,?_⟩<;>omega))|(intro hg;(try simp only[bB]at hg);first|omega|(refine⟨?_,?_⟩<;>omega)|(refine⟨?_,?_,?_⟩<;>first|omega|(show _<_;(try simp only[List.length_set]);omega)|exact leT rfl))|(refine⟨?_,?_⟩<;>omega)|(refine⟨?_,?_,?_⟩<;>first|omega|(show _<_;(try simp only[List.length_set]);omega)|exact leT rfl)|(simp only[show rI.d=(0:Int)from rfl];omega));done));(conv=>whnf))))
  refine EvLoop.inv (α := Nat × Nat) (fun p => p.1 ≤ l.length ∧ (F (l.take p.1)).length ≤ p.2 ∧ p.2 ≤ 9223372036854775807) (fun p => l.length - p.1) (fun p => [(12, [], .v (.int .i64 ((p.1 : Int)))), (11, [], .s 5 4 (F (l.take p.1)).length p.2), (9, [], .p 4 0), (3, [], .p 1 0), (2, [], .v (.int .i64 (b))), (1, [], .s 0 4 l.length c1)])
    (fun p => [⟨5, true, 62, 4, p.2, .rows Cl rC (F (l.take p.1))⟩, ⟨4, true, 97, 3, 1, .cs [.v (.int .i64 x.1.f), .s 2 1 x.1.lo.length p1, .s 3 1 x.1.hi.length p2]⟩, ⟨3, true, 3, 1, p2, .rows Int rI x.1.hi⟩, ⟨2, true, 3, 1, p1, .rows Int rI x.1.lo⟩, ⟨1, true, 27, 12, 1, .cs (dcS nm (.v (.slice A lb.length c)) d)⟩, ⟨0, false, 62, 4, c1, .rows Cl rC l⟩]) 6 (0, 0) ⟨by omega, by simp [hF0], by decide⟩ (Sub.of [] [5] rfl ?_) ?_
  · have hF1 : (F (l.take 0)) = [] := hF0
    (repeat' (refine And.intro ?_ ?_)) <;> first | rfl | exact True.intro | omega | (rw [hF1]; rfl) | (show _ = _ ; simp [hF0])
  intro p ⟨hi1, hi2, hi3⟩
  have hfl := hFl (l.take p.1)
  have htl : (l.take p.1).length = p.1 := by rw [List.length_take]; omega
  ((conv=>whnf);(repeat(refine And.intro ?_ ?_;(focus((first|omega|exact⟨rfl,True.intro⟩|exact⟨rfl,rfl,True.intro⟩|rfl|(simp only[List.length_set];first|omega|(refine⟨?_,?_⟩<;>omega)|(refine⟨?_,?_,?_⟩<;>omega))|(intro hg;(try simp only[bB]at hg);first|omega|(refine⟨?_,?_⟩<;>omega)|(refine⟨?_,?_,?_⟩<;>first|omega|(show _<_;(try simp only[List.length_set]);omega)|exact leT rfl))|(refine⟨?_,?_⟩<;>omega)|(refine⟨?_,?_,?_⟩<;>first|omega|(show _<_;(try simp only[List.length_set]);omega)|exact leT rfl)|(simp only[show rI.d=(0:Int)from rfl];omega));done));(conv=>whnf))))
  refine EvIf.split (fun g3 => ?_) (fun g3 => ?_)
  · have hlt : p.1 < l.length := by have := of_decide_eq_true g3; omega
    have hFa : F (l.take (p.1 + 1)) = F (l.take p.1) ++ F [l.getD p.1 cl0] := by rw [take_one l p.1 cl0 hlt, hF]; exact List.filter_append ..
    ((conv=>whnf);(repeat(refine And.intro ?_ ?_;(focus((first|omega|exact⟨rfl,True.intro⟩|exact⟨rfl,rfl,True.intro⟩|rfl|(simp only[List.length_set];first|omega|(refine⟨?_,?_⟩<;>omega)|(refine⟨?_,?_,?_⟩<;>omega))|(intro hg;(try simp only[bB]at hg);first|omega|(refine⟨?_,?_⟩<;>omega)|(refine⟨?_,?_,?_⟩<;>first|omega|(show _<_;(try simp only[List.length_set]);omega)|exact leT rfl))|(refine⟨?_,?_⟩<;>omega)|(refine⟨?_,?_,?_⟩<;>first|omega|(show _<_;(try simp only[List.length_set]);omega)|exact leT rfl)|(simp only[show rI.d=(0:Int)from rfl];omega));done));(conv=>whnf))))
    refine EvIf.split (fun g4 => ?_) (fun g4 => ?_)
    · have g5 : b ≤ (l.getD p.1 cl0).t := of_decide_eq_true g4
      have hF1 : F [l.getD p.1 cl0] = [l.getD p.1 cl0] := by
        rw [hF]
        simp only [List.filter]
        rw [decide_eq_true g5]
      rw [hF1] at hFa
      have hla : (F (l.take (p.1 + 1))).length = (F (l.take p.1)).length + 1 := by rw [hFa, List.length_append]; rfl
      ((conv=>whnf);(repeat(refine And.intro ?_ ?_;(focus((first|omega|exact⟨rfl,True.intro⟩|exact⟨rfl,rfl,True.intro⟩|rfl|(simp only[List.length_set];first|omega|(refine⟨?_,?_⟩<;>omega)|(refine⟨?_,?_,?_⟩<;>omega))|(intro hg;(try simp only[bB]at hg);first|omega|(refine⟨?_,?_⟩<;>omega)|(refine⟨?_,?_,?_⟩<;>first|omega|(show _<_;(try simp only[List.length_set]);omega)|exact leT rfl))|(refine⟨?_,?_⟩<;>omega)|(refine⟨?_,?_,?_⟩<;>first|omega|(show _<_;(try simp only[List.length_set]);omega)|exact leT rfl)|(simp only[show rI.d=(0:Int)from rfl];omega));done));(conv=>whnf))))
      refine EvBi.append (R := rC) tyok29 rfl tyok62 rfl (by decide) rfl rfl rfl hi2 [l.getD p.1 cl0] (fun ρ W hp => hp.lit (R := rC) (ys := [l.getD p.1 cl0]) rfl (by decide) (by simp) (by omega) rfl) (by show (_ + 1) * 32 ≤ _; omega) (by show _ + 1 ≤ _; omega) (fun cap' hq1 hq2 => ?_)
      rw [← hFa]
      ((conv=>whnf);(repeat(refine And.intro ?_ ?_;(focus((first|omega|exact⟨rfl,True.intro⟩|exact⟨rfl,rfl,True.intro⟩|rfl|(simp only[List.length_set];first|omega|(refine⟨?_,?_⟩<;>omega)|(refine⟨?_,?_,?_⟩<;>omega))|(intro hg;(try simp only[bB]at hg);first|omega|(refine⟨?_,?_⟩<;>omega)|(refine⟨?_,?_,?_⟩<;>first|omega|(show _<_;(try simp only[List.length_set]);omega)|exact leT rfl))|(refine⟨?_,?_⟩<;>omega)|(refine⟨?_,?_,?_⟩<;>first|omega|(show _<_;(try simp only[List.length_set]);omega)|exact leT rfl)|(simp only[show rI.d=(0:Int)from rfl];omega));done));(conv=>whnf))))
      refine LoopI.back (p.1 + 1, cap') ⟨by show p.1 + 1 ≤ l.length; omega, by rw [hla]; exact hq1, hq2⟩ (by show l.length - (p.1 + 1) < l.length - p.1; omega) (Sub.of [(5, 7)] [] rfl ?_)
      (repeat' (refine And.intro ?_ ?_)) <;> first | rfl | exact True.intro | exact hla | exact hla.symm | omega
    · have g5 : ¬ b ≤ (l.getD p.1 cl0).t := of_decide_eq_false g4
      have hF1 : F [l.getD p.1 cl0] = [] := by
        rw [hF]
        simp only [List.filter]
        rw [decide_eq_false g5]
      rw [hF1, List.append_nil] at hFa
      ((conv=>whnf);(repeat(refine And.intro ?_ ?_;(focus((first|omega|exact⟨rfl,True.intro⟩|exact⟨rfl,rfl,True.intro⟩|rfl|(simp only[List.length_set];first|omega|(refine⟨?_,?_⟩<;>omega)|(refine⟨?_,?_,?_⟩<;>omega))|(intro hg;(try simp only[bB]at hg);first|omega|(refine⟨?_,?_⟩<;>omega)|(refine⟨?_,?_,?_⟩<;>first|omega|(show _<_;(try simp only[List.length_set]);omega)|exact leT rfl))|(refine⟨?_,?_⟩<;>omega)|(refine⟨?_,?_,?_⟩<;>first|omega|(show _<_;(try simp only[List.length_set]);omega)|exact leT rfl)|(simp only[show rI.d=(0:Int)from rfl];omega));done));(conv=>whnf))))
      refine LoopI.back (p.1 + 1, p.2) ⟨by show p.1 + 1 ≤ l.length; omega, by show (F (l.take (p.1 + 1))).length ≤ p.2; rw [hFa]; exact hi2, hi3⟩ (by show l.length - (p.1 + 1) < l.length - p.1; omega) (Sub.of [] [] rfl ?_)
      have hFb := hFa.symm
      have hFc : (F (l.take (p.1 + 1))).length = (F (l.take p.1)).length := by rw [hFa]
      (repeat' (refine And.intro ?_ ?_)) <;> first | rfl | exact True.intro | exact hFc | exact hFc.symm | exact congrArg (Ct.rows Cl rC) hFa | exact congrArg (Ct.rows Cl rC) hFb | omega
  have g4 : p.1 = l.length := by have := of_decide_eq_false g3; omega
  rw [g4, List.take_length] at hfl hi2 ⊢
  have hkk : keptL x.1 l b = F l ++ (if (atR x.1 b).2.2 = 0 then [⟨b, b, (atR x.1 b).1, (atR x.1 b).2.1⟩] else []) := by unfold keptL; rw [hF]
  ((conv=>whnf);(repeat(refine And.intro ?_ ?_;(focus((first|omega|exact⟨rfl,True.intro⟩|exact⟨rfl,rfl,True.intro⟩|rfl|(simp only[List.length_set];first|omega|(refine⟨?_,?_⟩<;>omega)|(refine⟨?_,?_,?_⟩<;>omega))|(intro hg;(try simp only[bB]at hg);first|omega|(refine⟨?_,?_⟩<;>omega)|(refine⟨?_,?_,?_⟩<;>first|omega|(show _<_;(try simp only[List.length_set]);omega)|exact leT rfl))|(refine⟨?_,?_⟩<;>omega)|(refine⟨?_,?_,?_⟩<;>first|omega|(show _<_;(try simp only[List.length_set]);omega)|exact leT rfl)|(simp only[show rI.d=(0:Int)from rfl];omega));done));(conv=>whnf))))
  refine EvIf.split (fun g5 => ?_) (fun g5 => ?_)
  · have g6 : d.first ≤ b ∧ b ≤ d.last := by
      simp only [Bool.and_eq_true, decide_eq_true_eq] at g5
      exact g5
    have hat : atR x.1 b = (x.1.lo.getD (b - d.first).toNat 0, x.1.hi.getD (b - d.first).toNat 0, 0) := by
      unfold atR
      rw [if_pos (by omega), hxf]
    rw [hkk, hat, if_pos rfl]
    have hla : (F l ++ [(⟨b, b, x.1.lo.getD (b - d.first).toNat 0, x.1.hi.getD (b - d.first).toNat 0⟩ : Cl)]).length = (F l).length + 1 := by rw [List.length_append]; rfl
    ((conv=>whnf);(repeat(refine And.intro ?_ ?_;(focus((first|omega|exact⟨rfl,True.intro⟩|exact⟨rfl,rfl,True.intro⟩|rfl|(simp only[List.length_set];first|omega|(refine⟨?_,?_⟩<;>omega)|(refine⟨?_,?_,?_⟩<;>omega))|(intro hg;(try simp only[bB]at hg);first|omega|(refine⟨?_,?_⟩<;>omega)|(refine⟨?_,?_,?_⟩<;>first|omega|(show _<_;(try simp only[List.length_set]);omega)|exact leT rfl))|(refine⟨?_,?_⟩<;>omega)|(refine⟨?_,?_,?_⟩<;>first|omega|(show _<_;(try simp only[List.length_set]);omega)|exact leT rfl)|(simp only[show rI.d=(0:Int)from rfl];omega));done));(conv=>whnf))))
    (refine EvDraw.one (.q 0 (.q 1 (.q 2 (.q 3 (.q 4 (.q 5 (.q 6 (.q 7 (.q 8 (.q 9 (.q 10 (.q 11 (.q 12 (.q 13 (.q 14 (.q 15 (.q 16 (.q 17 (.q 18 (.q 19 (.n 20 false (.n 21 true (.q 22 (.z)) (.e)) (.e)))))))))))))))))))))) (by kernel_rfl) ?_)
    ((conv=>whnf);(repeat(refine And.intro ?_ ?_;(focus((first|omega|exact⟨rfl,True.intro⟩|exact⟨rfl,rfl,True.intro⟩|rfl|(simp only[List.length_set];first|omega|(refine⟨?_,?_⟩<;>omega)|(refine⟨?_,?_,?_⟩<;>omega))|(intro hg;(try simp only[bB]at hg);first|omega|(refine⟨?_,?_⟩<;>omega)|(refine⟨?_,?_,?_⟩<;>first|omega|(show _<_;(try simp only[List.length_set]);omega)|exact leT rfl))|(refine⟨?_,?_⟩<;>omega)|(refine⟨?_,?_,?_⟩<;>first|omega|(show _<_;(try simp only[List.length_set]);omega)|exact leT rfl)|(simp only[show rI.d=(0:Int)from rfl];omega));done));(conv=>whnf))))
    refine EvBi.append (R := rC) tyok29 rfl tyok62 rfl (by decide) rfl rfl rfl hi2 [⟨b, b, x.1.lo.getD (b - d.first).toNat 0, x.1.hi.getD (b - d.first).toNat 0⟩] (fun ρ W hp => hp.lit (R := rC) (ys := [⟨b, b, x.1.lo.getD (b - d.first).toNat 0, x.1.hi.getD (b - d.first).toNat 0⟩]) rfl (by decide) (by simp) (by omega) rfl) (by show (_ + 1) * 32 ≤ _; omega) (by show _ + 1 ≤ _; omega) (fun cap' hq1 hq2 => ?_)
    have hq3 : (F l ++ [(⟨b, b, x.1.lo.getD (b - d.first).toNat 0, x.1.hi.getD (b - d.first).toNat 0⟩ : Cl)]).length ≤ cap' := by rw [hla]; exact hq1
    dsimp only [List.length_singleton]
    rw [← hla]
    generalize F l ++ [(⟨b, b, x.1.lo.getD (b - d.first).toNat 0, x.1.hi.getD (b - d.first).toNat 0⟩ : Cl)] = fl at *
    ((conv=>whnf);(repeat(refine And.intro ?_ ?_;(focus((first|omega|exact⟨rfl,True.intro⟩|exact⟨rfl,rfl,True.intro⟩|rfl|(simp only[List.length_set];first|omega|(refine⟨?_,?_⟩<;>omega)|(refine⟨?_,?_,?_⟩<;>omega))|(intro hg;(try simp only[bB]at hg);first|omega|(refine⟨?_,?_⟩<;>omega)|(refine⟨?_,?_,?_⟩<;>first|omega|(show _<_;(try simp only[List.length_set]);omega)|exact leT rfl))|(refine⟨?_,?_⟩<;>omega)|(refine⟨?_,?_,?_⟩<;>first|omega|(show _<_;(try simp only[List.length_set]);omega)|exact leT rfl)|(simp only[show rI.d=(0:Int)from rfl];omega));done));(conv=>whnf))))
    refine EvCall.rows3 (R := rC) (ty := 62) (xs := (finR d l fl).1) (c := (finR d l fl).2.1) (z := (finR d l fl).2.2) Try.call79 (fun ρ W hp => ref_with_s _ _ _ d l fl W (hD.below hp.bel) hI (hp.rowsIn (R := rC) (n := 0) (c := c1) rfl (by decide) e1 e2 4) (hp.rowsIn (R := rC) (n := 7) (xs := fl) (c := cap') rfl (by decide) (by omega) (by omega) 4) (by omega)) (fun kk z1 z2 => ?_)
    ((conv=>whnf);(repeat(refine And.intro ?_ ?_;(focus((first|omega|exact⟨rfl,True.intro⟩|exact⟨rfl,rfl,True.intro⟩|rfl|(simp only[List.length_set];first|omega|(refine⟨?_,?_⟩<;>omega)|(refine⟨?_,?_,?_⟩<;>omega))|(intro hg;(try simp only[bB]at hg);first|omega|(refine⟨?_,?_⟩<;>omega)|(refine⟨?_,?_,?_⟩<;>first|omega|(show _<_;(try simp only[List.length_set]);omega)|exact leT rfl))|(refine⟨?_,?_⟩<;>omega)|(refine⟨?_,?_,?_⟩<;>first|omega|(show _<_;(try simp only[List.length_set]);omega)|exact leT rfl)|(simp only[show rI.d=(0:Int)from rfl];omega));done));(conv=>whnf))))
    exact EvRet.rows3 (R := rC) rfl z1 rfl rfl rfl rfl
  · have g6 : ¬ (d.first ≤ b ∧ b ≤ d.last) := by
      simp only [Bool.and_eq_false_iff, decide_eq_false_iff_not] at g5
      omega
    have hat : ¬ (atR x.1 b).2.2 = 0 := fun h0 => by
      have := atR_out h0
      omega
    rw [hkk, if_neg hat, List.append_nil]
    generalize F l = fl at *
    ((conv=>whnf);(repeat(refine And.intro ?_ ?_;(focus((first|omega|exact⟨rfl,True.intro⟩|exact⟨rfl,rfl,True.intro⟩|rfl|(simp only[List.length_set];first|omega|(refine⟨?_,?_⟩<;>omega)|(refine⟨?_,?_,?_⟩<;>omega))|(intro hg;(try simp only[bB]at hg);first|omega|(refine⟨?_,?_⟩<;>omega)|(refine⟨?_,?_,?_⟩<;>first|omega|(show _<_;(try simp only[List.length_set]);omega)|exact leT rfl))|(refine⟨?_,?_⟩<;>omega)|(refine⟨?_,?_,?_⟩<;>first|omega|(show _<_;(try simp only[List.length_set]);omega)|exact leT rfl)|(simp only[show rI.d=(0:Int)from rfl];omega));done));(conv=>whnf))))
    refine EvCall.rows3 (R := rC) (ty := 62) (xs := (finR d l fl).1) (c := (finR d l fl).2.1) (z := (finR d l fl).2.2) Try.call79 (fun ρ W hp => ref_with_s _ _ _ d l fl W (hD.below hp.bel) hI (hp.rowsIn (R := rC) (n := 0) (c := c1) rfl (by decide) e1 e2 4) (hp.rowsIn (R := rC) (n := 5) (xs := fl) (c := p.2) rfl (by decide) (by omega) (by omega) 4) (by omega)) (fun kk z1 z2 => ?_)
    ((conv=>whnf);(repeat(refine And.intro ?_ ?_;(focus((first|omega|exact⟨rfl,True.intro⟩|exact⟨rfl,rfl,True.intro⟩|rfl|(simp only[List.length_set];first|omega|(refine⟨?_,?_⟩<;>omega)|(refine⟨?_,?_,?_⟩<;>omega))|(intro hg;(try simp only[bB]at hg);first|omega|(refine⟨?_,?_⟩<;>omega)|(refine⟨?_,?_,?_⟩<;>first|omega|(show _<_;(try simp only[List.length_set]);omega)|exact leT rfl))|(refine⟨?_,?_⟩<;>omega)|(refine⟨?_,?_,?_⟩<;>first|omega|(show _<_;(try simp only[List.length_set]);omega)|exact leT rfl)|(simp only[show rI.d=(0:Int)from rfl];omega));done));(conv=>whnf))))
    exact EvRet.rows3 (R := rC) rfl z1 rfl rfl rfl rfl
end Go.Proofs.Ytpnngbfmmjjnaaa
