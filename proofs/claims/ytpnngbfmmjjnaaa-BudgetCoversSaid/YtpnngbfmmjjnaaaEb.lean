
/- Envelopes: bound, walked. -/
import Derived.Test.YtpnngbfmmjjnaaaEa
namespace Go.Proofs.Ytpnngbfmmjjnaaa
open Go.RowKit
set_option linter.unusedVariables false
set_option linter.unusedSimpArgs false

def loU (d : Dc) (ss : List Cl) (m : Nat) (i : Nat) : Int := lowB (dU d) (ss.take m) (d.first + i)
def hiU (d : Dc) (ss : List Cl) (m : Nat) (i : Nat) : Int := highB (dU d) (ss.take m) (d.first + i)
theorem loU_succ (d : Dc) (ss : List Cl) (k i : Nat) (h : k < ss.length) : loU d ss (k + 1) i = if (ss.getD k cl0).f ≤ d.first + i ∧ d.first + i ≤ (ss.getD k cl0).t then max (loU d ss k i) (ss.getD k cl0).lo else loU d ss k i := by
  unfold loU
  rw [take_snoc ss k h, lowB_snoc]
theorem hiU_succ (d : Dc) (ss : List Cl) (k i : Nat) (h : k < ss.length) : hiU d ss (k + 1) i = if (ss.getD k cl0).f ≤ d.first + i ∧ d.first + i ≤ (ss.getD k cl0).t then min (hiU d ss k i) (ss.getD k cl0).hi else hiU d ss k i := by
  unfold hiU
  rw [take_snoc ss k h, highB_snoc]
theorem loU_all (d : Dc) (ss : List Cl) : loU d ss ss.length = lo0 d ss := by funext i; simp [loU, lo0]
theorem hiU_all (d : Dc) (ss : List Cl) : hiU d ss ss.length = hi0 d ss := by funext i; simp [hiU, hi0]
def partS (d : Dc) (l : List Cl) (F T : Nat) : List Cl := ((srcL d l).take T).drop F
theorem partS_len (d : Dc) (l : List Cl) (F T : Nat) (h : T ≤ l.length + 1) : (partS d l F T).length = T - F := by simp [partS, srcL]; omega
theorem partS_get (d : Dc) (l : List Cl) (F T m : Nat) (h : F + m < T) : (partS d l F T).getD m cl0 = (srcL d l).getD (F + m) cl0 := by
  simp only [partS, List.getD_eq_getElem?_getD, List.getElem?_drop, List.getElem?_take]
  rw [if_pos h]
theorem partS_ok {d : Dc} {l : List Cl} {F T : Nat} (h : ∀ c ∈ srcL d l, SrcOk d c) : ∀ c ∈ partS d l F T, SrcOk d c := fun c hc => h c (List.mem_of_mem_take (List.mem_of_mem_drop hc))
set_option maxRecDepth 10000 in
theorem ebound_s (nm : ByteArray) (A : Option Addr) (ln c : Nat) (v : Value) (d : Dc) (l : List Cl) (F T sp : Nat) (w : World) (hvc : validCode d = 0) (hv : RowsIn rC w v l) (hl : ∀ c ∈ l, validB d c = true) (hFT : F ≤ T) (hT : T ≤ l.length + 1) (hll0 : l.length ≤ 4096) (hsp : d.last - d.first + 1 = (sp : Int)) :
    Con Try.prog 43 #[.agg (dcCells nm (.slice A ln c) d), v, .int .i64 ((F : Int) - 1), .int .i64 ((T : Int) - 2)] w (Ret2 3 w (bLoL d (partS d l F T) sp) (bHiL d (partS d l F T) sp) (envV d.first)) := by
  obtain ⟨A1, c1, rfl, e1, e2⟩ := hv.form
  have hbd := valid_bounds hvc
  have hok := partS_ok (F := F) (T := T) (src_ok hvc hl)
  have hsl := partS_len d l F T hT
  have hgt := partS_get d l F T
  obtain ⟨ss, hss⟩ : ∃ ss, partS d l F T = ss := ⟨_, rfl⟩
  rw [hss] at hok hsl hgt ⊢
  refine enter tabOk mixed Try.func43 rfl Try.ntmps43 Try.results43 [.a (dcS nm (.v (.slice A ln c)) d), .s 0 4 l.length c1, .v (.int .i64 ((F : Int) - 1)), .v (.int .i64 ((T : Int) - 2))] (fun _ => A1) [⟨0, false, 62, 4, c1, .rows Cl rC (l)⟩] 1 rfl rfl (.ro (hp0 _ _ _) _ rfl rfl rfl (ro_rows hv rfl _)) ?_
  ((conv=>whnf);repeat(refine And.intro (by omega) ?_;(conv=>whnf)))
  refine EvCall.plain Try.call56 (.v (.int .i64 (sp : Int))) rfl (fun ρ W hp => hsp ▸ span_s nm A ln c d W (by omega) (by omega)) ?_
  ((conv=>whnf);repeat(refine And.intro (by omega) ?_;(conv=>whnf)))
  refine EvCall.rows (R := rI) (ty := 3) (xs := List.replicate sp (-1125899906842624)) Try.call50 (fun ρ W hp => repeat_s _ (-1125899906842624) sp W (hp.lit (R := rI) (ys := [-1125899906842624]) (n := 3) (sz := 1) (c := 1) rfl (by decide) (by simp) (by omega) rfl) (by omega)) (fun p1 hp1 hp2 => ?_)
  rw [List.length_replicate] at hp1 ⊢
  ((conv=>whnf);repeat(refine And.intro (by omega) ?_;(conv=>whnf)))
  refine EvCall.rows (R := rI) (ty := 3) (xs := List.replicate sp (1125899906842624)) Try.call50 (fun ρ W hp => repeat_s _ (1125899906842624) sp W (hp.lit (R := rI) (ys := [1125899906842624]) (n := 5) (sz := 1) (c := 1) rfl (by decide) (by simp) (by omega) rfl) (by omega)) (fun p2 hp3 hp4 => ?_)
  rw [List.length_replicate] at hp3 ⊢
  ((conv=>whnf);repeat(refine And.intro (by omega) ?_;(conv=>whnf)))
  refine EvLoop.inv (α := Nat) (fun m => m ≤ ss.length) (fun m => ss.length - m) (fun m => [(12, [], .v (.int .i64 ((F : Int) - 1 + (m : Int)))), (1, [], .s 0 4 l.length c1), (3, [], .v (.int .i64 ((T : Int) - 2))), (4, [], .p 1 0), (8, [], .p 2 0), (9, [], .v (.int .i64 ((sp : Int)))), (10, [], .s 4 1 sp p1), (11, [], .s 6 1 sp p2)])
    (fun m => [
    ⟨6, true, 3, 1, p2, .rows Int rI (mixL (hiU d ss (m + 1)) (hiU d ss m) sp 0)⟩, ⟨4, true, 3, 1, p1, .rows Int rI (mixL (loU d ss (m + 1)) (loU d ss m) sp 0)⟩, ⟨2, true, 33, 3, 1, .cs [.v (.int .i64 0), .v (.slice none 0 0), .v (.slice none 0 0)]⟩, ⟨1, true, 27, 12, 1, .cs (dcS nm (.v (.slice A ln c)) d)⟩, ⟨0, false, 62, 4, c1, .rows Cl rC l⟩
    ]) 7 0 (by omega) (Sub.of [] [] rfl ?_) ?_
  · rw [mixL_rep (loU d ss (0 + 1)) (loU d ss 0) sp (-1125899906842624) (fun i hi => by simp [loU, lowB, dU]), mixL_rep (hiU d ss (0 + 1)) (hiU d ss 0) sp 1125899906842624 (fun i hi => by simp [hiU, highB, dU])]
    ((repeat' (refine And.intro ?_ ?_)) <;> first | rfl | exact True.intro | omega)
  intro m hm
  ((conv=>whnf);repeat(refine And.intro (by omega) ?_;(conv=>whnf)))
  refine EvIf.split (fun h5 => ?_) (fun h5 => ?_)
  · simp only [decide_eq_true_eq] at h5
    have hmem : ss.getD m cl0 ∈ ss := by rw [List.getD_eq_getElem?_getD, List.getElem?_eq_getElem (by omega)]; exact List.getElem_mem _
    have hx := hok _ hmem
    have hxg := hgt m (by omega)
    obtain ⟨x, hxx⟩ : ∃ x, ss.getD m cl0 = x := ⟨_, rfl⟩
    rw [hxx] at hx hxg
    unfold SrcOk at hx
    have hlS := loU_succ d ss m
    have hhS := hiU_succ d ss m
    rw [hxx] at hlS hhS
    obtain ⟨a, ha⟩ : ∃ a : Nat, x.f - d.first = (a : Int) := ⟨(x.f - d.first).toNat, by omega⟩
    obtain ⟨b, hb⟩ : ∃ b : Nat, x.t - d.first = (b : Int) := ⟨(x.t - d.first).toNat, by omega⟩
    ((conv=>whnf);repeat(refine And.intro (by omega) ?_;(conv=>whnf)))
    refine EvCall.plain Try.call66 (.a (clS x)) rfl (fun ρ W hp => by
      have := source_s nm A ln c (den ρ (.s 0 4 l.length c1)) d l ((F : Int) - 1 + (m : Int)) W (hp.rowsIn (R := rC) (n := 0) rfl (by decide) e1 e2 4) (by omega) (by omega)
      rw [show ((F : Int) - 1 + (m : Int) + 1).toNat = F + m by omega, ← hxg] at this
      exact this) ?_
    ((conv=>whnf);repeat(refine And.intro (by omega) ?_;(conv=>whnf)))
    refine EvLoop.inv (α := Nat) (fun j => a ≤ j ∧ j ≤ b + 1) (fun j => b + 1 - j) (fun j => [(14, [], .v (.int .i64 ((j : Int)))), (13, [], .p 7 0), (12, [], .v (.int .i64 ((F : Int) - 1 + (m : Int)))), (1, [], .s 0 4 l.length c1), (3, [], .v (.int .i64 ((T : Int) - 2))), (4, [], .p 1 0), (8, [], .p 2 0), (9, [], .v (.int .i64 ((sp : Int)))), (10, [], .s 4 1 sp p1), (11, [], .s 6 1 sp p2)])
      (fun j => [⟨7, true, 62, 4, 1, .cs (clS x)⟩,
      ⟨6, true, 3, 1, p2, .rows Int rI (mixL (hiU d ss (m + 1)) (hiU d ss m) sp j)⟩, ⟨4, true, 3, 1, p1, .rows Int rI (mixL (loU d ss (m + 1)) (loU d ss m) sp j)⟩, ⟨2, true, 33, 3, 1, .cs [.v (.int .i64 0), .v (.slice none 0 0), .v (.slice none 0 0)]⟩, ⟨1, true, 27, 12, 1, .cs (dcS nm (.v (.slice A ln c)) d)⟩, ⟨0, false, 62, 4, c1, .rows Cl rC l⟩
      ]) 8 a ⟨by omega, by omega⟩ (Sub.of [] [] rfl ?_) ?_
    · have g1 : mixL (loU d ss (m + 1)) (loU d ss m) sp 0 = mixL (loU d ss (m + 1)) (loU d ss m) sp a := mixL_congr _ _ _ _ _ _ _ fun i hi => by
        rw [if_neg (by omega), hlS i (by omega)]
        split
        · rw [if_neg (by omega)]
        · rfl
      have g2 : mixL (hiU d ss (m + 1)) (hiU d ss m) sp 0 = mixL (hiU d ss (m + 1)) (hiU d ss m) sp a := mixL_congr _ _ _ _ _ _ _ fun i hi => by
        rw [if_neg (by omega), hhS i (by omega)]
        split
        · rw [if_neg (by omega)]
        · rfl
      rw [g1, g2]
      (repeat' (refine And.intro ?_ ?_)) <;> first | exact ha.symm | exact ha | rfl | exact True.intro | omega
    intro j ⟨hj1, hj2⟩
    have hll := mixL_len (loU d ss (m + 1)) (loU d ss m) sp j
    have hlh := mixL_len (hiU d ss (m + 1)) (hiU d ss m) sp j
    ((conv=>whnf);repeat(refine And.intro (by omega) ?_;(conv=>whnf)))
    refine EvIf.split (fun h6 => ?_) (fun h6 => ?_)
    · simp only [decide_eq_true_eq] at h6
      have hjb : j ≤ b := by omega
      have hc : x.f ≤ d.first + (j : Int) ∧ d.first + (j : Int) ≤ x.t := by omega
      have g1 : (mixL (loU d ss (m + 1)) (loU d ss m) sp j).set j (max ((mixL (loU d ss (m + 1)) (loU d ss m) sp j).getD j 0) x.lo) = mixL (loU d ss (m + 1)) (loU d ss m) sp (j + 1) := by
        rw [mixL_get _ _ _ _ _ _ (by omega), if_neg (by omega), ← mixL_set _ _ _ _ (by omega), hlS j (by omega), if_pos hc]
      have g2 : (mixL (hiU d ss (m + 1)) (hiU d ss m) sp j).set j (min ((mixL (hiU d ss (m + 1)) (hiU d ss m) sp j).getD j 0) x.hi) = mixL (hiU d ss (m + 1)) (hiU d ss m) sp (j + 1) := by
        rw [mixL_get _ _ _ _ _ _ (by omega), if_neg (by omega), ← mixL_set _ _ _ _ (by omega), hhS j (by omega), if_pos hc]
      ((conv=>whnf);repeat(refine And.intro (by omega) ?_;(conv=>whnf)))
      (refine EvDraw.oneR (.q 0 (.q 1 (.q 2 (.q 3 (.q 4 (.q 5 (.q 6 (.q 7 (.q 8 (.q 9 (.q 10 (.q 11 (.q 12 (.q 13 (.q 14 (.q 15 (.q 16 (.q 17 (.q 18 (.n 19 true (.q 20 (.n 21 true (.z) (.e))) (.e))))))))))))))))))))) [16] [7] (by kernel_rfl) ?_)
      ((conv=>whnf);(repeat(refine And.intro ?_ ?_;(focus((first|omega|exact⟨rfl,True.intro⟩|exact⟨rfl,rfl,True.intro⟩|rfl|(simp only[List.length_set];first|omega|(refine⟨?_,?_⟩<;>omega)|(refine⟨?_,?_,?_⟩<;>omega))|(intro hg;(try simp only[bB]at hg);first|omega|(refine⟨?_,?_⟩<;>omega)|(refine⟨?_,?_,?_⟩<;>first|omega|(show _<_;(try simp only[List.length_set]);omega)|exact leT rfl))|(refine⟨?_,?_⟩<;>omega)|(refine⟨?_,?_,?_⟩<;>first|omega|(show _<_;(try simp only[List.length_set]);omega)|exact leT rfl)|(simp only[show rI.d=(0:Int)from rfl];omega));done));(conv=>whnf))))
      refine LoopI.back (j + 1) ⟨by omega, by omega⟩ (by omega) (Sub.of [] [] rfl ?_)
      (repeat' (refine And.intro ?_ ?_)) <;> first | exact congrArg (Ct.rows Int rI) g1 | exact congrArg (Ct.rows Int rI) g2 | rfl | exact True.intro | omega
    · simp only [decide_eq_false_iff_not] at h6
      obtain rfl : j = b + 1 := by omega
      have g1 : mixL (loU d ss (m + 1)) (loU d ss m) sp (b + 1) = mixL (loU d ss (m + 1 + 1)) (loU d ss (m + 1)) sp 0 := mixL_congr _ _ _ _ _ _ _ fun i hi => by
        rw [if_neg (by omega : ¬ i < 0), hlS i (by omega)]
        split
        · rfl
        · rw [if_neg (by omega)]
      have g2 : mixL (hiU d ss (m + 1)) (hiU d ss m) sp (b + 1) = mixL (hiU d ss (m + 1 + 1)) (hiU d ss (m + 1)) sp 0 := mixL_congr _ _ _ _ _ _ _ fun i hi => by
        rw [if_neg (by omega : ¬ i < 0), hhS i (by omega)]
        split
        · rfl
        · rw [if_neg (by omega)]
      ((conv=>whnf);repeat(refine And.intro (by omega) ?_;(conv=>whnf)))
      refine LoopI.back (m + 1) (by omega) (by omega) (Sub.of [] [] rfl ?_)
      (repeat' (refine And.intro ?_ ?_)) <;> first | exact congrArg (Ct.rows Int rI) g1 | exact congrArg (Ct.rows Int rI) g2 | rfl | exact True.intro | omega
  simp only [decide_eq_false_iff_not] at h5
  obtain rfl : m = ss.length := by omega
  have b1 := lo0_bd hok
  have b2 := hi0_bd hok
  have b3 := fwd_bd b1 (a := d.down) (by omega)
  have b4 := fwdH_bd b2 (a := d.up) (by omega)
  have s1 : mixL (loU d ss (ss.length + 1)) (loU d ss ss.length) sp 0 = mixL (fwd (lo0 d ss) d.down) (lo0 d ss) sp 1 := mixL_congr _ _ _ _ _ _ _ fun i hi => by
    rw [if_neg (by omega), loU_all]
    split
    · obtain rfl : i = 0 := by omega
      rfl
    · rfl
  have s2 : mixL (hiU d ss (ss.length + 1)) (hiU d ss ss.length) sp 0 = mixL (fwdH (hi0 d ss) d.up) (hi0 d ss) sp 1 := mixL_congr _ _ _ _ _ _ _ fun i hi => by
    rw [if_neg (by omega), hiU_all]
    split
    · obtain rfl : i = 0 := by omega
      rfl
    · rfl
  rw [s1, s2]
  clear s1 s2 hm h5
  obtain ⟨u, hu⟩ : ∃ u, lo0 d ss = u := ⟨_, rfl⟩
  obtain ⟨z, hz⟩ : ∃ z, hi0 d ss = z := ⟨_, rfl⟩
  rw [hu] at b1 b3 ⊢
  rw [hz] at b2 b4 ⊢
  ((conv=>whnf);repeat(refine And.intro (by omega) ?_;(conv=>whnf)))
  refine EvLoop.inv (α := Nat) (fun j => 1 ≤ j ∧ j ≤ sp) (fun j => sp - j) (fun j => [(15, [], .v (.int .i64 ((j : Int)))), (4, [], .p 1 0), (8, [], .p 2 0), (9, [], .v (.int .i64 ((sp : Int)))), (10, [], .s 4 1 sp p1), (11, [], .s 6 1 sp p2)])
    (fun j => [
    ⟨6, true, 3, 1, p2, .rows Int rI (mixL (fwdH z d.up) z sp j)⟩, ⟨4, true, 3, 1, p1, .rows Int rI (mixL (fwd u d.down) u sp j)⟩, ⟨2, true, 33, 3, 1, .cs [.v (.int .i64 0), .v (.slice none 0 0), .v (.slice none 0 0)]⟩, ⟨1, true, 27, 12, 1, .cs (dcS nm (.v (.slice A ln c)) d)⟩, ⟨0, false, 62, 4, c1, .rows Cl rC l⟩
    ]) 7 1 (by omega) (Sub.of [] [] rfl ?_) ?_
  · ((repeat' (refine And.intro ?_ ?_)) <;> first | rfl | exact True.intro | omega)
  intro j ⟨hj1, hj2⟩
  have hll := mixL_len (fwd u d.down) u sp j
  have hlh := mixL_len (fwdH z d.up) z sp j
  ((conv=>whnf);repeat(refine And.intro (by omega) ?_;(conv=>whnf)))
  refine EvIf.split (fun h6 => ?_) (fun h6 => ?_)
  · simp only [decide_eq_true_eq] at h6
    obtain ⟨j', rfl⟩ : ∃ j', j = j' + 1 := ⟨j - 1, by omega⟩
    have b5 := b3 j'
    have b6 := b4 j'
    have k1 : (mixL (fwd u d.down) u sp (j' + 1)).getD (Int.toNat (((j' + 1 : Nat) : Int) - 1)) rI.d = fwd u d.down j' := by
      rw [show Int.toNat (((j' + 1 : Nat) : Int) - 1) = j' by omega, mixL_get _ _ _ _ _ _ (by omega), if_pos (by omega)]
    have k2 : (mixL (fwdH z d.up) z sp (j' + 1)).getD (Int.toNat (((j' + 1 : Nat) : Int) - 1)) rI.d = fwdH z d.up j' := by
      rw [show Int.toNat (((j' + 1 : Nat) : Int) - 1) = j' by omega, mixL_get _ _ _ _ _ _ (by omega), if_pos (by omega)]
    have k3 : (mixL (fwd u d.down) u sp (j' + 1)).getD (j' + 1) rI.d = u (j' + 1) := by rw [mixL_get _ _ _ _ _ _ (by omega), if_neg (by omega)]
    have k4 : (mixL (fwdH z d.up) z sp (j' + 1)).getD (j' + 1) rI.d = z (j' + 1) := by rw [mixL_get _ _ _ _ _ _ (by omega), if_neg (by omega)]
    have g1 : (mixL (fwd u d.down) u sp (j' + 1)).set (j' + 1) (max ((mixL (fwd u d.down) u sp (j' + 1)).getD (j' + 1) rI.d) ((mixL (fwd u d.down) u sp (j' + 1)).getD (Int.toNat (((j' + 1 : Nat) : Int) - 1)) rI.d + d.down)) = mixL (fwd u d.down) u sp (j' + 1 + 1) := by
      rw [k1, k3]
      exact mixL_set (fwd u d.down) u sp (j' + 1) (by omega)
    have g2 : (mixL (fwdH z d.up) z sp (j' + 1)).set (j' + 1) (min ((mixL (fwdH z d.up) z sp (j' + 1)).getD (j' + 1) rI.d) ((mixL (fwdH z d.up) z sp (j' + 1)).getD (Int.toNat (((j' + 1 : Nat) : Int) - 1)) rI.d + d.up)) = mixL (fwdH z d.up) z sp (j' + 1 + 1) := by
      rw [k2, k4]
      exact mixL_set (fwdH z d.up) z sp (j' + 1) (by omega)
    ((conv=>whnf);repeat(refine And.intro (by omega) ?_;(conv=>whnf)))
    (refine EvDraw.oneR (.q 0 (.q 1 (.q 2 (.q 3 (.q 4 (.q 5 (.q 6 (.q 7 (.q 8 (.q 9 (.q 10 (.q 11 (.q 12 (.q 13 (.q 14 (.q 15 (.q 16 (.q 17 (.q 18 (.q 19 (.q 20 (.q 21 (.q 22 (.q 23 (.q 24 (.q 25 (.q 26 (.q 27 (.q 28 (.q 29 (.q 30 (.n 31 true (.q 32 (.n 33 true (.z) (.e))) (.e))))))))))))))))))))))))))))))))) [27] [1] (by kernel_rfl) ?_)
    ((conv=>whnf);(repeat(refine And.intro ?_ ?_;(focus((first|omega|exact⟨rfl,True.intro⟩|exact⟨rfl,rfl,True.intro⟩|rfl|(simp only[List.length_set];first|omega|(refine⟨?_,?_⟩<;>omega)|(refine⟨?_,?_,?_⟩<;>omega))|(intro hg;(try simp only[bB]at hg);first|omega|(refine⟨?_,?_⟩<;>omega)|(refine⟨?_,?_,?_⟩<;>first|omega|(show _<_;(try simp only[List.length_set]);omega)|exact leT rfl))|(refine⟨?_,?_⟩<;>omega)|(refine⟨?_,?_,?_⟩<;>first|omega|(show _<_;(try simp only[List.length_set]);omega)|exact leT rfl)|(simp only[show rI.d=(0:Int)from rfl];omega));done));(conv=>whnf))))
    refine LoopI.back (j' + 1 + 1) ⟨by omega, by omega⟩ (by omega) (Sub.of [] [] rfl ?_)
    (repeat' (refine And.intro ?_ ?_)) <;> first | exact congrArg (Ct.rows Int rI) g1 | exact congrArg (Ct.rows Int rI) g2 | rfl | exact True.intro | omega
  simp only [decide_eq_false_iff_not] at h6
  have hjs : j = sp := by omega
  rw [hjs]
  clear hll hlh h6 hj1 hj2 hjs
  clear j
  have b5 : ∀ i, i < sp → -1130194874138624 ≤ fwd u d.down i ∧ fwd u d.down i ≤ 1130194874138624 := fun i hi => by have := b3 i; omega
  have b6 : ∀ i, i < sp → -1130194874138624 ≤ fwdH z d.up i ∧ fwdH z d.up i ≤ 1130194874138624 := fun i hi => by have := b4 i; omega
  have b7 := bwk_bd b5 (a := d.up) (by omega)
  have b8 := bwkH_bd b6 (a := d.down) (by omega)
  have s1 : mixL (fwd u d.down) u sp sp = mixL (fwd u d.down) (bwd (fwd u d.down) d.up sp) sp (sp - 1) := mixL_congr _ _ _ _ _ _ _ fun i hi => by
    rw [if_pos hi]
    split
    · rfl
    · rw [show i = sp - 1 by omega, bwd_end]
  have s2 : mixL (fwdH z d.up) z sp sp = mixL (fwdH z d.up) (bwdH (fwdH z d.up) d.down sp) sp (sp - 1) := mixL_congr _ _ _ _ _ _ _ fun i hi => by
    rw [if_pos hi]
    split
    · rfl
    · rw [show i = sp - 1 by omega, bwdH_end]
  rw [s1, s2]
  have bs := bwd_step (fwd u d.down) d.up sp
  have bsH := bwdH_step (fwdH z d.up) d.down sp
  have hfinL : (List.range sp).map (bwd (fwd u d.down) d.up sp) = bLoL d ss sp := by rw [← hu]; rfl
  have hfinH : (List.range sp).map (bwdH (fwdH z d.up) d.down sp) = bHiL d ss sp := by rw [← hz]; rfl
  have b9 : ∀ j, j < sp → -2000000000000000 ≤ bwd (fwd u d.down) d.up sp j ∧ bwd (fwd u d.down) d.up sp j ≤ 2000000000000000 := fun j hj => by
    have := b7 (sp - 1 - j) (by omega)
    unfold bwd
    omega
  have b10 : ∀ j, j < sp → -2000000000000000 ≤ bwdH (fwdH z d.up) d.down sp j ∧ bwdH (fwdH z d.up) d.down sp j ≤ 2000000000000000 := fun j hj => by
    have := b8 (sp - 1 - j) (by omega)
    unfold bwdH
    omega
  generalize fwd u d.down = X at *
  generalize fwdH z d.up = Y at *
  generalize bwd X d.up sp = X2 at *
  generalize bwdH Y d.down sp = Y2 at *
  ((conv=>whnf);repeat(refine And.intro (by omega) ?_;(conv=>whnf)))
  refine EvLoop.inv (α := Nat) (fun p => p ≤ sp - 1) (fun p => p) (fun p => [(16, [], .v (.int .i64 ((p : Int) - 1))), (4, [], .p 1 0), (8, [], .p 2 0), (9, [], .v (.int .i64 ((sp : Int)))), (10, [], .s 4 1 sp p1), (11, [], .s 6 1 sp p2)])
    (fun p => [
    ⟨6, true, 3, 1, p2, .rows Int rI (mixL Y Y2 sp p)⟩, ⟨4, true, 3, 1, p1, .rows Int rI (mixL X X2 sp p)⟩, ⟨2, true, 33, 3, 1, .cs [.v (.int .i64 0), .v (.slice none 0 0), .v (.slice none 0 0)]⟩, ⟨1, true, 27, 12, 1, .cs (dcS nm (.v (.slice A ln c)) d)⟩, ⟨0, false, 62, 4, c1, .rows Cl rC l⟩
    ]) 7 (sp - 1) (by omega) (Sub.of [] [] rfl ?_) ?_
  · ((repeat' (refine And.intro ?_ ?_)) <;> first | rfl | exact True.intro | omega)
  intro p hp
  have hll := mixL_len X X2 sp p
  have hlh := mixL_len Y Y2 sp p
  ((conv=>whnf);repeat(refine And.intro (by omega) ?_;(conv=>whnf)))
  refine EvIf.split (fun h6 => ?_) (fun h6 => ?_)
  · simp only [decide_eq_true_eq] at h6
    obtain ⟨j, rfl⟩ : ∃ j, p = j + 1 := ⟨p - 1, by omega⟩
    have i1 : Int.toNat (((j + 1 : Nat) : Int) - 1) = j := by omega
    have i2 : Int.toNat (((j + 1 : Nat) : Int) - 1 + 1) = j + 1 := by omega
    have k1 : (mixL X X2 sp (j + 1)).getD (Int.toNat (((j + 1 : Nat) : Int) - 1)) rI.d = X j := by rw [i1, mixL_get _ _ _ _ _ _ (by omega), if_pos (by omega)]
    have k2 : (mixL X X2 sp (j + 1)).getD (Int.toNat (((j + 1 : Nat) : Int) - 1 + 1)) rI.d = X2 (j + 1) := by rw [i2, mixL_get _ _ _ _ _ _ (by omega), if_neg (by omega)]
    have k3 : (mixL Y Y2 sp (j + 1)).getD (Int.toNat (((j + 1 : Nat) : Int) - 1)) rI.d = Y j := by rw [i1, mixL_get _ _ _ _ _ _ (by omega), if_pos (by omega)]
    have k4 : (mixL Y Y2 sp (j + 1)).getD (Int.toNat (((j + 1 : Nat) : Int) - 1 + 1)) rI.d = Y2 (j + 1) := by rw [i2, mixL_get _ _ _ _ _ _ (by omega), if_neg (by omega)]
    have c1 := b9 (j + 1) (by omega)
    have c2 := b10 (j + 1) (by omega)
    have g1 : (mixL X X2 sp (j + 1)).set (Int.toNat (((j + 1 : Nat) : Int) - 1)) (max ((mixL X X2 sp (j + 1)).getD (Int.toNat (((j + 1 : Nat) : Int) - 1)) rI.d) ((mixL X X2 sp (j + 1)).getD (Int.toNat (((j + 1 : Nat) : Int) - 1 + 1)) rI.d - d.up)) = mixL X X2 sp j := by
      rw [k1, k2, i1, ← bs j (by omega), mixL_unset _ _ _ _ (by omega)]
    have g2 : (mixL Y Y2 sp (j + 1)).set (Int.toNat (((j + 1 : Nat) : Int) - 1)) (min ((mixL Y Y2 sp (j + 1)).getD (Int.toNat (((j + 1 : Nat) : Int) - 1)) rI.d) ((mixL Y Y2 sp (j + 1)).getD (Int.toNat (((j + 1 : Nat) : Int) - 1 + 1)) rI.d - d.down)) = mixL Y Y2 sp j := by
      rw [k3, k4, i1, ← bsH j (by omega), mixL_unset _ _ _ _ (by omega)]
    ((conv=>whnf);repeat(refine And.intro (by omega) ?_;(conv=>whnf)))
    (refine EvDraw.oneR (.q 0 (.q 1 (.q 2 (.q 3 (.q 4 (.q 5 (.q 6 (.q 7 (.q 8 (.q 9 (.q 10 (.q 11 (.q 12 (.q 13 (.q 14 (.q 15 (.q 16 (.q 17 (.q 18 (.q 19 (.q 20 (.q 21 (.q 22 (.q 23 (.q 24 (.q 25 (.q 26 (.q 27 (.q 28 (.q 29 (.q 30 (.n 31 true (.q 32 (.n 33 true (.z) (.e))) (.e))))))))))))))))))))))))))))))))) [27] [1] (by kernel_rfl) ?_)
    ((conv=>whnf);(repeat(refine And.intro ?_ ?_;(focus((first|omega|exact⟨rfl,True.intro⟩|exact⟨rfl,rfl,True.intro⟩|rfl|(simp only[List.length_set];first|omega|(refine⟨?_,?_⟩<;>omega)|(refine⟨?_,?_,?_⟩<;>omega))|(intro hg;(try simp only[bB]at hg);first|omega|(refine⟨?_,?_⟩<;>omega)|(refine⟨?_,?_,?_⟩<;>first|omega|(show _<_;(try simp only[List.length_set]);omega)|exact leT rfl))|(refine⟨?_,?_⟩<;>omega)|(refine⟨?_,?_,?_⟩<;>first|omega|(show _<_;(try simp only[List.length_set]);omega)|exact leT rfl)|(simp only[show rI.d=(0:Int)from rfl];omega));done));(conv=>whnf))))
    refine LoopI.back j (by omega) (by omega) (Sub.of [] [] rfl ?_)
    (repeat' (refine And.intro ?_ ?_)) <;> first | exact congrArg (Ct.rows Int rI) g1 | exact congrArg (Ct.rows Int rI) g2 | rfl | exact True.intro | omega
  simp only [decide_eq_false_iff_not] at h6
  obtain rfl : p = 0 := by omega
  rw [mixL_all, mixL_all, hfinL, hfinH]
  ((conv=>whnf);repeat(refine And.intro (by omega) ?_;(conv=>whnf)))
  exact EvRet.two (n := 4) (m := 6) (fun ρ => by simp [den, denL, envV]) (bLoL_len ..).symm (bHiL_len ..).symm (by rw [bLoL_len]; exact hp1) (by rw [bHiL_len]; exact hp3) rfl rfl (by decide)
end Go.Proofs.Ytpnngbfmmjjnaaa
