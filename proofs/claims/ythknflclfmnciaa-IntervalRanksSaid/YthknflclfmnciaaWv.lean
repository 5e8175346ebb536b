
/- The law IntervalRanks, walked. -/
import Derived.Test.YthknflclfmnciaaWu
import Derived.Test.YthknflclfmnciaaWq
namespace Go.Proofs.Ythknflclfmnciaa
open Go.RowKit
set_option linter.unusedVariables false
set_option linter.unusedSimpArgs false

def sOrd : ByteArray := ⟨#[111, 114, 100, 101, 114]⟩
/-- The numbers chosen from the intervals. -/
def chF (xs : List Iv) (t : Int) (i : Nat) : List Fq := (List.range i).map (fun j => innF (xs.getD j iv0) (t + (j : Int)))
theorem chF_len (xs : List Iv) (t : Int) (i : Nat) : (chF xs t i).length = i := by simp [chF]
theorem chF_snoc (xs : List Iv) (t : Int) (i : Nat) : chF xs t (i + 1) = chF xs t i ++ [innF (xs.getD i iv0) (t + (i : Int))] := by simp [chF, List.range_succ]
theorem lsF_lv (l : List Int) (n : Nat) : ∀ x ∈ lsF l n, ∃ D, D ≤ 144 ∧ Lv x D := by
  intro x hx
  simp only [lsF, List.mem_map] at hx
  obtain ⟨j, _, rfl⟩ := hx
  exact ismF_lv _ _
theorem ranks_plain {xs : List Iv} {t : Int} (hx : ∀ x ∈ xs, ∃ D, D ≤ 144 ∧ Lv x D) {n : Int} (h : ¬ (n < 1 ∨ (xs.length : Int) < n)) : (∀ y ∈ chF xs t xs.length, vF y) ∧ (kthF xs n).2 = 0 ∧ contB (kthF xs n).1 ((sortF (chF xs t xs.length)).getD (n - 1).toNat fr0) = true := by
  have hv : ∀ x ∈ xs, vI x := fun x h => by
    obtain ⟨D, _, hL⟩ := hx x h
    exact hL.v
  have hc : ∀ y ∈ chF xs t xs.length, vF y := fun y hy => by
    simp only [chF, List.mem_map, List.mem_range] at hy
    obtain ⟨j, hj, rfl⟩ := hy
    obtain ⟨D, _, hL⟩ := hx _ (getD_memV hj)
    exact (innF_in _ hL (by omega)).1
  refine ⟨hc, kthF_cont hv hc (chF_len _ _ _) (fun i hi => ?_) h⟩
  have e : (chF xs t xs.length).getD i fr0 = innF (xs.getD i iv0) (t + (i : Int)) := by
    simp [chF, List.getD_eq_getElem?_getD, hi]
  rw [e]
  obtain ⟨D, _, hL⟩ := hx _ (getD_memV hi)
  obtain ⟨v, p1, p2⟩ := innF_in (t + (i : Int)) hL (by omega)
  have w := hL.v
  exact ⟨(cmp_qv w.1 v).1 p1, (cmp_qv v w.2.1).1 p2⟩
theorem ins_perm {ms : List Iv} {a : Nat} {x : Iv} (ha : a ≤ ms.length) {zs : List Iv} (h : ms.Perm zs) : (ms.take a ++ [x] ++ ms.drop a).Perm (zs ++ [x]) := by
  have h1 : (ms.take a ++ [x] ++ ms.drop a).Perm (ms ++ [x]) := by
    rw [List.append_assoc]
    refine (List.Perm.append_left _ (List.perm_append_comm)).trans ?_
    rw [← List.append_assoc, List.take_append_drop]
  exact h1.trans (h.append_right _)
set_option maxHeartbeats 1000000 in
set_option maxRecDepth 10000 in
theorem intervalranks_s (v : Value) (l : List Int) (seed k t : Int) (w : World) (hv : Ints w v l) (hs : I64 seed) (hk : I64 k) (ht : I64 t) : Con Try.prog 6 #[v, .int .i64 seed, .int .i64 k, .int .i64 t] w (Ret w (.bool true)) := by
  unfold I64 at hs hk ht
  have hz := hv.2
  have hr := rows_ints hv
  obtain ⟨n8, hn8, hlist⟩ := list_s l
  obtain ⟨A1, c1, rfl, e1, e2⟩ := hr.form
  have hlv := lsF_lv l n8
  have hln := lsF_len l n8
  generalize lsF l n8 = xs at *
  have hxs : xs.length ≤ 8 := by omega
  clear hln
  have t0 := arnd_nn t 1000 (by omega)
  have t1 := arnd_lt t 1000 (by omega)
  have ats := around_s t 1000
  generalize arnd t 1000 = T at *
  refine enter tabOk mixed Try.func6 rfl Try.ntmps6 Try.results6 [.s 0 1 l.length c1, .v (.int .i64 seed), .v (.int .i64 k), .v (.int .i64 t)] (fun _ => A1) [⟨0, false, 3, 1, c1, .rows Int rI (l)⟩] 1 rfl rfl (.ro (hp0 _ _ _) _ rfl rfl rfl (ro_rows hr rfl _)) ?_
  ((conv=>whnf);(repeat(refine And.intro ?_ ?_;(focus((first|omega|exact⟨rfl,True.intro⟩|exact⟨rfl,rfl,True.intro⟩|rfl|(simp only[List.length_set];first|omega|(refine⟨?_,?_⟩<;>omega)|(refine⟨?_,?_,?_⟩<;>omega))|(intro hg;(try simp only[bB]at hg);first|omega|(refine⟨?_,?_⟩<;>omega)|(refine⟨?_,?_,?_⟩<;>first|omega|(show _<_;(try simp only[List.length_set]);omega)|exact leT rfl))|(refine⟨?_,?_⟩<;>omega)|(refine⟨?_,?_,?_⟩<;>first|omega|(show _<_;(try simp only[List.length_set]);omega)|exact leT rfl)|(simp only[show rI.d=(0:Int)from rfl];omega));done));(conv=>whnf))))
  refine EvCall.rows (R := rV) (ty := 27) (xs := xs) Try.call29 (fun ρ W hp => by
    have h2 := hp.rowsIn (R := rI) (n := 0) (xs := l) (c := c1) rfl (by decide) e1 e2 1
    exact hlist _ W (ints_rows h2 hz)) (fun xc hx1 hx2 => ?_)
  ((conv=>whnf);(repeat(refine And.intro ?_ ?_;(focus((first|omega|exact⟨rfl,True.intro⟩|exact⟨rfl,rfl,True.intro⟩|rfl|(simp only[List.length_set];first|omega|(refine⟨?_,?_⟩<;>omega)|(refine⟨?_,?_,?_⟩<;>omega))|(intro hg;(try simp only[bB]at hg);first|omega|(refine⟨?_,?_⟩<;>omega)|(refine⟨?_,?_,?_⟩<;>first|omega|(show _<_;(try simp only[List.length_set]);omega)|exact leT rfl))|(refine⟨?_,?_⟩<;>omega)|(refine⟨?_,?_,?_⟩<;>first|omega|(show _<_;(try simp only[List.length_set]);omega)|exact leT rfl)|(simp only[show rI.d=(0:Int)from rfl];omega));done));(conv=>whnf))))
  refine EvIf.split (fun g1 => ?_) (fun g1 => ?_)
  · ((conv=>whnf);(repeat(refine And.intro ?_ ?_;(focus((first|omega|exact⟨rfl,True.intro⟩|exact⟨rfl,rfl,True.intro⟩|rfl|(simp only[List.length_set];first|omega|(refine⟨?_,?_⟩<;>omega)|(refine⟨?_,?_,?_⟩<;>omega))|(intro hg;(try simp only[bB]at hg);first|omega|(refine⟨?_,?_⟩<;>omega)|(refine⟨?_,?_,?_⟩<;>first|omega|(show _<_;(try simp only[List.length_set]);omega)|exact leT rfl))|(refine⟨?_,?_⟩<;>omega)|(refine⟨?_,?_,?_⟩<;>first|omega|(show _<_;(try simp only[List.length_set]);omega)|exact leT rfl)|(simp only[show rI.d=(0:Int)from rfl];omega));done));(conv=>whnf))))
    refine EvCall.plain Try.call16 (.v (.bool true)) rfl (fun ρ W hp => lives_s W) ?_
    ((conv=>whnf);(repeat(refine And.intro ?_ ?_;(focus((first|omega|exact⟨rfl,True.intro⟩|exact⟨rfl,rfl,True.intro⟩|rfl|(simp only[List.length_set];first|omega|(refine⟨?_,?_⟩<;>omega)|(refine⟨?_,?_,?_⟩<;>omega))|(intro hg;(try simp only[bB]at hg);first|omega|(refine⟨?_,?_⟩<;>omega)|(refine⟨?_,?_,?_⟩<;>first|omega|(show _<_;(try simp only[List.length_set]);omega)|exact leT rfl))|(refine⟨?_,?_⟩<;>omega)|(refine⟨?_,?_,?_⟩<;>first|omega|(show _<_;(try simp only[List.length_set]);omega)|exact leT rfl)|(simp only[show rI.d=(0:Int)from rfl];omega));done));(conv=>whnf))))
    exact ret_bool rfl
  have h0 : 1 ≤ xs.length := by have := of_decide_eq_false g1; omega
  have k0 := arnd_nn k (xs.length : Int) (by omega)
  have k1 := arnd_lt k (xs.length : Int) (by omega)
  have aks := fun W => around_s k (xs.length : Int) W hk (by omega)
  generalize arnd k (xs.length : Int) = K at *
  obtain ⟨hcv, hz0, hz1⟩ := ranks_plain (t := T) hlv (n := 1 + K) (by omega)
  have hvx : ∀ x ∈ xs, vI x := fun x h => by
    obtain ⟨D, _, hL⟩ := hlv x h
    exact hL.v
  ((conv=>whnf);(repeat(refine And.intro ?_ ?_;(focus((first|omega|exact⟨rfl,True.intro⟩|exact⟨rfl,rfl,True.intro⟩|rfl|(simp only[List.length_set];first|omega|(refine⟨?_,?_⟩<;>omega)|(refine⟨?_,?_,?_⟩<;>omega))|(intro hg;(try simp only[bB]at hg);first|omega|(refine⟨?_,?_⟩<;>omega)|(refine⟨?_,?_,?_⟩<;>first|omega|(show _<_;(try simp only[List.length_set]);omega)|exact leT rfl))|(refine⟨?_,?_⟩<;>omega)|(refine⟨?_,?_,?_⟩<;>first|omega|(show _<_;(try simp only[List.length_set]);omega)|exact leT rfl)|(simp only[show rI.d=(0:Int)from rfl];omega));done));(conv=>whnf))))
  refine EvLoop.inv (α := Nat × List Int × List Iv × Nat × Nat × Nat) (fun p => p.1 ≤ xs.length ∧ p.2.1.length = p.1 ∧ p.2.2.1.length = p.1 ∧ (p.2.2.1).Perm (xs.take p.1) ∧ (p.1 ≤ p.2.2.2.1 ∧ p.2.2.2.1 ≤ 9223372036854775807) ∧ (p.1 ≤ p.2.2.2.2.1 ∧ p.2.2.2.2.1 ≤ 9223372036854775807) ∧ (p.1 ≤ p.2.2.2.2.2 ∧ p.2.2.2.2.2 ≤ 9223372036854775807)) (fun p => xs.length - p.1)
    (fun p => [(1, [], .v (.int .i64 (seed))), (2, [], .v (.int .i64 (k))), (3, [], .v (.int .i64 (t))), (8, [], .v (.bool (false))), (9, [], .s 1 4 xs.length xc), (10, [], .s 3 4 p.1 p.2.2.2.2.1), (11, [], .s 2 1 p.1 p.2.2.2.1), (12, [], .s 4 2 p.1 p.2.2.2.2.2), (13, [], .v (.int .i64 ((p.1 : Int))))])
    (fun p => [⟨2, true, 50, 1, p.2.2.2.1, .rows Int rW (p.2.1)⟩, ⟨3, true, 27, 4, p.2.2.2.2.1, .rows Iv rV (p.2.2.1)⟩, ⟨4, true, 25, 2, p.2.2.2.2.2, .rows Fq rF (chF xs T p.1)⟩, ⟨1, true, 27, 4, xc, .rows Iv rV (xs)⟩]) 5 (0, [], [], 0, 0, 0) ⟨by omega, rfl, rfl, by simp, by decide, by decide, by decide⟩ (Sub.of [] [2, 3, 4] rfl ?_) ?_
  · (repeat' (refine And.intro ?_ ?_)) <;> first | rfl | exact True.intro | omega
  intro p ⟨q1, q2, q3, q4, ⟨q5, q6⟩, ⟨q7, q8⟩, ⟨q9, q10⟩⟩
  have hcl := chF_len xs T p.1
  ((conv=>whnf);(repeat(refine And.intro ?_ ?_;(focus((first|omega|exact⟨rfl,True.intro⟩|exact⟨rfl,rfl,True.intro⟩|rfl|(simp only[List.length_set];first|omega|(refine⟨?_,?_⟩<;>omega)|(refine⟨?_,?_,?_⟩<;>omega))|(intro hg;(try simp only[bB]at hg);first|omega|(refine⟨?_,?_⟩<;>omega)|(refine⟨?_,?_,?_⟩<;>first|omega|(show _<_;(try simp only[List.length_set]);omega)|exact leT rfl))|(refine⟨?_,?_⟩<;>omega)|(refine⟨?_,?_,?_⟩<;>first|omega|(show _<_;(try simp only[List.length_set]);omega)|exact leT rfl)|(simp only[show rI.d=(0:Int)from rfl];omega));done));(conv=>whnf))))
  refine EvIf.split (fun g2 => ?_) (fun g2 => ?_)
  · have g3 : p.1 < xs.length := by have := of_decide_eq_true g2; omega
    have hcs := chF_snoc xs T p.1
    obtain ⟨D, hD, hL⟩ := hlv _ (getD_memV g3)
    have htk := take_snoc xs p.1 iv0 g3
    have hin := fun W => inner_s (xs.getD p.1 iv0) (T + (p.1 : Int)) D W (by omega) hL (by omega)
    obtain ⟨x, hx⟩ : ∃ x, xs.getD p.1 iv0 = x := ⟨_, rfl⟩
    rw [hx] at hcs hin htk
    obtain ⟨f, hf⟩ : ∃ f, innF x (T + (p.1 : Int)) = f := ⟨_, rfl⟩
    rw [hf] at hcs hin
    obtain ⟨h, hh⟩ : ∃ h, sumV sOrd [seed, (p.1 : Int)] = h := ⟨_, rfl⟩
    generalize chF xs T p.1 = cl at *
    ((conv=>whnf);(repeat(refine And.intro ?_ ?_;(focus((first|omega|exact⟨rfl,True.intro⟩|exact⟨rfl,rfl,True.intro⟩|rfl|(simp only[List.length_set];first|omega|(refine⟨?_,?_⟩<;>omega)|(refine⟨?_,?_,?_⟩<;>omega))|(intro hg;(try simp only[bB]at hg);first|omega|(refine⟨?_,?_⟩<;>omega)|(refine⟨?_,?_,?_⟩<;>first|omega|(show _<_;(try simp only[List.length_set]);omega)|exact leT rfl))|(refine⟨?_,?_⟩<;>omega)|(refine⟨?_,?_,?_⟩<;>first|omega|(show _<_;(try simp only[List.length_set]);omega)|exact leT rfl)|(simp only[show rI.d=(0:Int)from rfl];omega));done));(conv=>whnf))))
    refine EvCall.plain Try.call30 (.v (.int .u64 h)) rfl (fun ρ W hp => by rw [← hh]; exact hsum_s sOrd _ [seed, (p.1 : Int)] W (by decide) (hp.lit (R := rI) (ys := [seed, (p.1 : Int)]) (n := 5) rfl (by decide) (by simp) (by omega) rfl) (by simp) (by simp)) ?_
    ((conv=>whnf);(repeat(refine And.intro ?_ ?_;(focus((first|omega|exact⟨rfl,True.intro⟩|exact⟨rfl,rfl,True.intro⟩|rfl|(simp only[List.length_set];first|omega|(refine⟨?_,?_⟩<;>omega)|(refine⟨?_,?_,?_⟩<;>omega))|(intro hg;(try simp only[bB]at hg);first|omega|(refine⟨?_,?_⟩<;>omega)|(refine⟨?_,?_,?_⟩<;>first|omega|(show _<_;(try simp only[List.length_set]);omega)|exact leT rfl))|(refine⟨?_,?_⟩<;>omega)|(refine⟨?_,?_,?_⟩<;>first|omega|(show _<_;(try simp only[List.length_set]);omega)|exact leT rfl)|(simp only[show rI.d=(0:Int)from rfl];omega));done));(conv=>whnf))))
    refine EvLoop.inv (α := Nat) (fun a => a ≤ p.1) (fun a => a)
      (fun a => [(1, [], .v (.int .i64 (seed))), (2, [], .v (.int .i64 (k))), (3, [], .v (.int .i64 (t))), (8, [], .v (.bool (false))), (9, [], .s 1 4 xs.length xc), (10, [], .s 3 4 p.1 p.2.2.2.2.1), (11, [], .s 2 1 p.1 p.2.2.2.1), (12, [], .s 4 2 p.1 p.2.2.2.2.2), (13, [], .v (.int .i64 ((p.1 : Int)))), (14, [], .v (.int .u64 h)), (15, [], .v (.int .i64 ((a : Int))))])
      (fun a => [⟨2, true, 50, 1, p.2.2.2.1, .rows Int rW (p.2.1)⟩, ⟨3, true, 27, 4, p.2.2.2.2.1, .rows Iv rV (p.2.2.1)⟩, ⟨4, true, 25, 2, p.2.2.2.2.2, .rows Fq rF (cl)⟩, ⟨1, true, 27, 4, xc, .rows Iv rV (xs)⟩]) 5 p.1 (Nat.le_refl _) (Sub.of [] [] rfl ?_) ?_
    · ((repeat' (refine And.intro ?_ ?_)) <;> first | rfl | exact True.intro | omega)
    intro a ha
    ((conv=>whnf);(repeat(refine And.intro ?_ ?_;(focus((first|omega|exact⟨rfl,True.intro⟩|exact⟨rfl,rfl,True.intro⟩|rfl|(simp only[List.length_set];first|omega|(refine⟨?_,?_⟩<;>omega)|(refine⟨?_,?_,?_⟩<;>omega))|(intro hg;(try simp only[bB]at hg);first|omega|(refine⟨?_,?_⟩<;>omega)|(refine⟨?_,?_,?_⟩<;>first|omega|(show _<_;(try simp only[List.length_set]);omega)|exact leT rfl))|(refine⟨?_,?_⟩<;>omega)|(refine⟨?_,?_,?_⟩<;>first|omega|(show _<_;(try simp only[List.length_set]);omega)|exact leT rfl)|(simp only[show rI.d=(0:Int)from rfl];omega));done));(conv=>whnf))))
    refine EvIf.split (fun g4 => ?_) (fun g4 => ?_)
    · have g5 : 0 < a := by
        simp only [Bool.and_eq_true, decide_eq_true_eq] at g4
        omega
      ((conv=>whnf);(repeat(refine And.intro ?_ ?_;(focus((first|omega|exact⟨rfl,True.intro⟩|exact⟨rfl,rfl,True.intro⟩|rfl|(simp only[List.length_set];first|omega|(refine⟨?_,?_⟩<;>omega)|(refine⟨?_,?_,?_⟩<;>omega))|(intro hg;(try simp only[bB]at hg);first|omega|(refine⟨?_,?_⟩<;>omega)|(refine⟨?_,?_,?_⟩<;>first|omega|(show _<_;(try simp only[List.length_set]);omega)|exact leT rfl))|(refine⟨?_,?_⟩<;>omega)|(refine⟨?_,?_,?_⟩<;>first|omega|(show _<_;(try simp only[List.length_set]);omega)|exact leT rfl)|(simp only[show rI.d=(0:Int)from rfl];omega));done));(conv=>whnf))))
      refine LoopI.back (a - 1) (by show a - 1 ≤ p.1; omega) (by show a - 1 < a; omega) (Sub.of [] [] rfl ?_)
      ((repeat' (refine And.intro ?_ ?_)) <;> first | rfl | exact True.intro | omega)
    obtain ⟨ks, hks⟩ : ∃ ks, p.2.1 = ks := ⟨_, rfl⟩
    obtain ⟨ms, hms⟩ : ∃ ms, p.2.2.1 = ms := ⟨_, rfl⟩
    rw [hks] at q2 ⊢
    rw [hms] at q3 q4 ⊢
    have tk1 : (ks.take a).length = a := by simp; omega
    have tk2 : ((ks.drop a).take (ks.length - a)) = ks.drop a := List.take_of_length_le (by simp)
    have tk3 : (ks.take a ++ [h]).length = a + 1 := by simp; omega
    have tk4 : (ks.drop a).length = ks.length - a := by simp
    have tm1 : (ms.take a).length = a := by simp; omega
    have tm2 : ((ms.drop a).take (ms.length - a)) = ms.drop a := List.take_of_length_le (by simp)
    have tm3 : (ms.take a ++ [x]).length = a + 1 := by simp; omega
    have tm4 : (ms.drop a).length = ms.length - a := by simp
    have hnew := ins_perm (a := a) (x := x) (by omega) q4
    rw [← htk] at hnew
    ((conv=>whnf);(repeat(refine And.intro ?_ ?_;(focus((first|omega|exact⟨rfl,True.intro⟩|exact⟨rfl,rfl,True.intro⟩|rfl|(simp only[List.length_set];first|omega|(refine⟨?_,?_⟩<;>omega)|(refine⟨?_,?_,?_⟩<;>omega))|(intro hg;(try simp only[bB]at hg);first|omega|(refine⟨?_,?_⟩<;>omega)|(refine⟨?_,?_,?_⟩<;>first|omega|(show _<_;(try simp only[List.length_set]);omega)|exact leT rfl))|(refine⟨?_,?_⟩<;>omega)|(refine⟨?_,?_,?_⟩<;>first|omega|(show _<_;(try simp only[List.length_set]);omega)|exact leT rfl)|(simp only[show rI.d=(0:Int)from rfl];omega));done));(conv=>whnf))))
    refine EvDraw.meet (.q 0 (.q 1 (.q 2 (.q 3 (.q 5 (.q 8 (.q 9 (.q 10 (.n 4 true (.n 6 false (.n 7 true (.n 11 true (.q 12 (.z)) (.e)) (.e)) (.e)) (.n 6 false (.n 4 true (.n 7 true (.n 11 true (.q 12 (.z)) (.e)) (.e)) (.e)) (.e))))))))))) (by kernel_rfl) (α := Nat) (fun q => p.1 + 1 ≤ q ∧ q ≤ 9223372036854775807) (fun q => [(1, [], .v (.int .i64 (seed))), (2, [], .v (.int .i64 (k))), (3, [], .v (.int .i64 (t))), (8, [], .v (.bool (false))), (9, [], .s 1 4 xs.length xc), (10, [], .s 3 4 p.1 p.2.2.2.2.1), (12, [], .s 4 2 p.1 p.2.2.2.2.2), (13, [], .v (.int .i64 ((p.1 : Int)))), (15, [], .v (.int .i64 ((a : Int)))), (16, [], .s 5 1 (p.1 + 1) q), (17, [], .v (.slice none 0 0))])
      (fun q => [⟨5, true, 50, 1, q, .rows Int rW (ks.take a ++ [h] ++ ks.drop a)⟩, ⟨3, true, 27, 4, p.2.2.2.2.1, .rows Iv rV (ms)⟩, ⟨4, true, 25, 2, p.2.2.2.2.2, .rows Fq rF (cl)⟩, ⟨1, true, 27, 4, xc, .rows Iv rV (xs)⟩]) 6 ?_ ?_
    · ((conv=>whnf);(repeat(refine And.intro ?_ ?_;(focus((first|omega|exact⟨rfl,True.intro⟩|exact⟨rfl,rfl,True.intro⟩|rfl|(simp only[List.length_set];first|omega|(refine⟨?_,?_⟩<;>omega)|(refine⟨?_,?_,?_⟩<;>omega))|(intro hg;(try simp only[bB]at hg);first|omega|(refine⟨?_,?_⟩<;>omega)|(refine⟨?_,?_,?_⟩<;>first|omega|(show _<_;(try simp only[List.length_set]);omega)|exact leT rfl))|(refine⟨?_,?_⟩<;>omega)|(refine⟨?_,?_,?_⟩<;>first|omega|(show _<_;(try simp only[List.length_set]);omega)|exact leT rfl)|(simp only[show rI.d=(0:Int)from rfl];omega));done));(conv=>whnf))))
      refine And.intro ?_ ?_
      · ((conv=>whnf);(repeat(refine And.intro ?_ ?_;(focus((first|omega|exact⟨rfl,True.intro⟩|exact⟨rfl,rfl,True.intro⟩|rfl|(simp only[List.length_set];first|omega|(refine⟨?_,?_⟩<;>omega)|(refine⟨?_,?_,?_⟩<;>omega))|(intro hg;(try simp only[bB]at hg);first|omega|(refine⟨?_,?_⟩<;>omega)|(refine⟨?_,?_,?_⟩<;>first|omega|(show _<_;(try simp only[List.length_set]);omega)|exact leT rfl))|(refine⟨?_,?_⟩<;>omega)|(refine⟨?_,?_,?_⟩<;>first|omega|(show _<_;(try simp only[List.length_set]);omega)|exact leT rfl)|(simp only[show rI.d=(0:Int)from rfl];omega));done));(conv=>whnf))))
        refine EvBi.append_nil (R := rW) tyok48 rfl tyok50 rfl (by decide) rfl (ks.take a) (fun ρ W hp => hp.cut (R := rW) (n := 2) (xs := ks) rfl (by decide) (by omega) q6 a (by omega) 1) (by rw [tk1]; show a * 8 ≤ _; omega) (by omega) (fun ca hq1 hq2 => ?_)
        ((conv=>whnf);(repeat(refine And.intro ?_ ?_;(focus((first|omega|exact⟨rfl,True.intro⟩|exact⟨rfl,rfl,True.intro⟩|rfl|(simp only[List.length_set];first|omega|(refine⟨?_,?_⟩<;>omega)|(refine⟨?_,?_,?_⟩<;>omega))|(intro hg;(try simp only[bB]at hg);first|omega|(refine⟨?_,?_⟩<;>omega)|(refine⟨?_,?_,?_⟩<;>first|omega|(show _<_;(try simp only[List.length_set]);omega)|exact leT rfl))|(refine⟨?_,?_⟩<;>omega)|(refine⟨?_,?_,?_⟩<;>first|omega|(show _<_;(try simp only[List.length_set]);omega)|exact leT rfl)|(simp only[show rI.d=(0:Int)from rfl];omega));done));(conv=>whnf))))
        refine EvBi.append (R := rW) tyok48 rfl tyok50 rfl (by decide) rfl rfl rfl hq1 [h] (fun ρ W hp => hp.lit (R := rW) (ys := [h]) (n := 6) rfl (by decide) (by simp) (by omega) rfl) (by rw [tk1]; show (a + 1) * 8 ≤ _; omega) (by rw [tk1]; show a + 1 ≤ _; omega) (fun cb hq3 hq4 => ?_)
        ((conv=>whnf);(repeat(refine And.intro ?_ ?_;(focus((first|omega|exact⟨rfl,True.intro⟩|exact⟨rfl,rfl,True.intro⟩|rfl|(simp only[List.length_set];first|omega|(refine⟨?_,?_⟩<;>omega)|(refine⟨?_,?_,?_⟩<;>omega))|(intro hg;(try simp only[bB]at hg);first|omega|(refine⟨?_,?_⟩<;>omega)|(refine⟨?_,?_,?_⟩<;>first|omega|(show _<_;(try simp only[List.length_set]);omega)|exact leT rfl))|(refine⟨?_,?_⟩<;>omega)|(refine⟨?_,?_,?_⟩<;>first|omega|(show _<_;(try simp only[List.length_set]);omega)|exact leT rfl)|(simp only[show rI.d=(0:Int)from rfl];omega));done));(conv=>whnf))))
        refine EvBi.append (R := rW) (xs := ks.take a ++ [h]) tyok48 rfl tyok50 rfl (by decide) rfl rfl (by rw [tk3, tk1]; rfl) (by rw [tk3]; rw [tk1] at hq3; exact hq3) (ks.drop a) (fun ρ W hp => by
          have := hp.part (R := rW) (n := 2) (xs := ks) (c := p.2.2.2.1) rfl (by decide) (by omega) q6 a ks.length (by omega) (Nat.le_refl _)
          rw [tk2, q2] at this
          exact this) (by rw [tk3, tk4]; show (a + 1 + (ks.length - a)) * 8 ≤ _; omega) (by rw [tk3, tk4]; omega) (fun cc hq5 hq6 => ?_)
        ((conv=>whnf);(repeat(refine And.intro ?_ ?_;(focus((first|omega|exact⟨rfl,True.intro⟩|exact⟨rfl,rfl,True.intro⟩|rfl|(simp only[List.length_set];first|omega|(refine⟨?_,?_⟩<;>omega)|(refine⟨?_,?_,?_⟩<;>omega))|(intro hg;(try simp only[bB]at hg);first|omega|(refine⟨?_,?_⟩<;>omega)|(refine⟨?_,?_,?_⟩<;>first|omega|(show _<_;(try simp only[List.length_set]);omega)|exact leT rfl))|(refine⟨?_,?_⟩<;>omega)|(refine⟨?_,?_,?_⟩<;>first|omega|(show _<_;(try simp only[List.length_set]);omega)|exact leT rfl)|(simp only[show rI.d=(0:Int)from rfl];omega));done));(conv=>whnf))))
        refine Exists.intro cc (And.intro ⟨by rw [tk3, tk4] at hq5; omega, hq6⟩ (Sub.of [(5, 8)] [] rfl ?_))
        (repeat' (refine And.intro ?_ ?_)) <;> first | rfl | exact True.intro | omega | (rw [tk3, tk4]; show _ = _; omega)
      ((conv=>whnf);(repeat(refine And.intro ?_ ?_;(focus((first|omega|exact⟨rfl,True.intro⟩|exact⟨rfl,rfl,True.intro⟩|rfl|(simp only[List.length_set];first|omega|(refine⟨?_,?_⟩<;>omega)|(refine⟨?_,?_,?_⟩<;>omega))|(intro hg;(try simp only[bB]at hg);first|omega|(refine⟨?_,?_⟩<;>omega)|(refine⟨?_,?_,?_⟩<;>first|omega|(show _<_;(try simp only[List.length_set]);omega)|exact leT rfl))|(refine⟨?_,?_⟩<;>omega)|(refine⟨?_,?_,?_⟩<;>first|omega|(show _<_;(try simp only[List.length_set]);omega)|exact leT rfl)|(simp only[show rI.d=(0:Int)from rfl];omega));done));(conv=>whnf))))
      refine EvBi.append_nil (R := rW) tyok48 rfl tyok50 rfl (by decide) rfl (ks.take a) (fun ρ W hp => hp.cut (R := rW) (n := 2) (xs := ks) rfl (by decide) (by omega) q6 a (by omega) 1) (by rw [tk1]; show a * 8 ≤ _; omega) (by omega) (fun ca hq1 hq2 => ?_)
      ((conv=>whnf);(repeat(refine And.intro ?_ ?_;(focus((first|omega|exact⟨rfl,True.intro⟩|exact⟨rfl,rfl,True.intro⟩|rfl|(simp only[List.length_set];first|omega|(refine⟨?_,?_⟩<;>omega)|(refine⟨?_,?_,?_⟩<;>omega))|(intro hg;(try simp only[bB]at hg);first|omega|(refine⟨?_,?_⟩<;>omega)|(refine⟨?_,?_,?_⟩<;>first|omega|(show _<_;(try simp only[List.length_set]);omega)|exact leT rfl))|(refine⟨?_,?_⟩<;>omega)|(refine⟨?_,?_,?_⟩<;>first|omega|(show _<_;(try simp only[List.length_set]);omega)|exact leT rfl)|(simp only[show rI.d=(0:Int)from rfl];omega));done));(conv=>whnf))))
      refine EvBi.append (R := rW) tyok48 rfl tyok50 rfl (by decide) rfl rfl rfl hq1 [h] (fun ρ W hp => hp.lit (R := rW) (ys := [h]) (n := 5) rfl (by decide) (by simp) (by omega) rfl) (by rw [tk1]; show (a + 1) * 8 ≤ _; omega) (by rw [tk1]; show a + 1 ≤ _; omega) (fun cb hq3 hq4 => ?_)
      ((conv=>whnf);(repeat(refine And.intro ?_ ?_;(focus((first|omega|exact⟨rfl,True.intro⟩|exact⟨rfl,rfl,True.intro⟩|rfl|(simp only[List.length_set];first|omega|(refine⟨?_,?_⟩<;>omega)|(refine⟨?_,?_,?_⟩<;>omega))|(intro hg;(try simp only[bB]at hg);first|omega|(refine⟨?_,?_⟩<;>omega)|(refine⟨?_,?_,?_⟩<;>first|omega|(show _<_;(try simp only[List.length_set]);omega)|exact leT rfl))|(refine⟨?_,?_⟩<;>omega)|(refine⟨?_,?_,?_⟩<;>first|omega|(show _<_;(try simp only[List.length_set]);omega)|exact leT rfl)|(simp only[show rI.d=(0:Int)from rfl];omega));done));(conv=>whnf))))
      refine EvBi.append (R := rW) (xs := ks.take a ++ [h]) tyok48 rfl tyok50 rfl (by decide) rfl rfl (by rw [tk3, tk1]; rfl) (by rw [tk3]; rw [tk1] at hq3; exact hq3) (ks.drop a) (fun ρ W hp => by
        have := hp.part (R := rW) (n := 2) (xs := ks) (c := p.2.2.2.1) rfl (by decide) (by omega) q6 a ks.length (by omega) (Nat.le_refl _)
        rw [tk2, q2] at this
        exact this) (by rw [tk3, tk4]; show (a + 1 + (ks.length - a)) * 8 ≤ _; omega) (by rw [tk3, tk4]; omega) (fun cc hq5 hq6 => ?_)
      ((conv=>whnf);(repeat(refine And.intro ?_ ?_;(focus((first|omega|exact⟨rfl,True.intro⟩|exact⟨rfl,rfl,True.intro⟩|rfl|(simp only[List.length_set];first|omega|(refine⟨?_,?_⟩<;>omega)|(refine⟨?_,?_,?_⟩<;>omega))|(intro hg;(try simp only[bB]at hg);first|omega|(refine⟨?_,?_⟩<;>omega)|(refine⟨?_,?_,?_⟩<;>first|omega|(show _<_;(try simp only[List.length_set]);omega)|exact leT rfl))|(refine⟨?_,?_⟩<;>omega)|(refine⟨?_,?_,?_⟩<;>first|omega|(show _<_;(try simp only[List.length_set]);omega)|exact leT rfl)|(simp only[show rI.d=(0:Int)from rfl];omega));done));(conv=>whnf))))
      refine Exists.intro cc (And.intro ⟨by rw [tk3, tk4] at hq5; omega, hq6⟩ (Sub.of [(5, 8)] [] rfl ?_))
      (repeat' (refine And.intro ?_ ?_)) <;> first | rfl | exact True.intro | omega | (rw [tk3, tk4]; show _ = _; omega)
    intro kc ⟨w1, w2⟩
    ((conv=>whnf);(repeat(refine And.intro ?_ ?_;(focus((first|omega|exact⟨rfl,True.intro⟩|exact⟨rfl,rfl,True.intro⟩|rfl|(simp only[List.length_set];first|omega|(refine⟨?_,?_⟩<;>omega)|(refine⟨?_,?_,?_⟩<;>omega))|(intro hg;(try simp only[bB]at hg);first|omega|(refine⟨?_,?_⟩<;>omega)|(refine⟨?_,?_,?_⟩<;>first|omega|(show _<_;(try simp only[List.length_set]);omega)|exact leT rfl))|(refine⟨?_,?_⟩<;>omega)|(refine⟨?_,?_,?_⟩<;>first|omega|(show _<_;(try simp only[List.length_set]);omega)|exact leT rfl)|(simp only[show rI.d=(0:Int)from rfl];omega));done));(conv=>whnf))))
    refine EvDraw.meetR (.q 0 (.q 1 (.q 2 (.q 3 (.q 5 (.q 6 (.q 7 (.q 8 (.q 11 (.q 12 (.q 13 (.n 4 true (.n 9 false (.n 10 true (.n 14 true (.q 15 (.z)) (.e)) (.e)) (.e)) (.n 9 false (.n 4 true (.n 10 true (.n 14 true (.q 15 (.z)) (.e)) (.e)) (.e)) (.e)))))))))))))) [7,8] [1] (by kernel_rfl) (α := Nat) (fun q => p.1 + 1 ≤ q ∧ q ≤ 9223372036854775807) (fun q => [(1, [], .v (.int .i64 (seed))), (2, [], .v (.int .i64 (k))), (3, [], .v (.int .i64 (t))), (8, [], .v (.bool (false))), (9, [], .s 1 4 xs.length xc), (12, [], .s 4 2 p.1 p.2.2.2.2.2), (13, [], .v (.int .i64 ((p.1 : Int)))), (16, [], .s 5 1 (p.1 + 1) kc), (17, [], .s 6 4 (p.1 + 1) q)])
      (fun q => [⟨5, true, 50, 1, kc, .rows Int rW (ks.take a ++ [h] ++ ks.drop a)⟩, ⟨6, true, 27, 4, q, .rows Iv rV (ms.take a ++ [x] ++ ms.drop a)⟩, ⟨4, true, 25, 2, p.2.2.2.2.2, .rows Fq rF (cl)⟩, ⟨1, true, 27, 4, xc, .rows Iv rV (xs)⟩]) 7 ?_ ?_
    · ((conv=>whnf);(repeat(refine And.intro ?_ ?_;(focus((first|omega|exact⟨rfl,True.intro⟩|exact⟨rfl,rfl,True.intro⟩|rfl|(simp only[List.length_set];first|omega|(refine⟨?_,?_⟩<;>omega)|(refine⟨?_,?_,?_⟩<;>omega))|(intro hg;(try simp only[bB]at hg);first|omega|(refine⟨?_,?_⟩<;>omega)|(refine⟨?_,?_,?_⟩<;>first|omega|(show _<_;(try simp only[List.length_set]);omega)|exact leT rfl))|(refine⟨?_,?_⟩<;>omega)|(refine⟨?_,?_,?_⟩<;>first|omega|(show _<_;(try simp only[List.length_set]);omega)|exact leT rfl)|(simp only[show rI.d=(0:Int)from rfl];omega));done));(conv=>whnf))))
      refine And.intro ?_ ?_
      · ((conv=>whnf);(repeat(refine And.intro ?_ ?_;(focus((first|omega|exact⟨rfl,True.intro⟩|exact⟨rfl,rfl,True.intro⟩|rfl|(simp only[List.length_set];first|omega|(refine⟨?_,?_⟩<;>omega)|(refine⟨?_,?_,?_⟩<;>omega))|(intro hg;(try simp only[bB]at hg);first|omega|(refine⟨?_,?_⟩<;>omega)|(refine⟨?_,?_,?_⟩<;>first|omega|(show _<_;(try simp only[List.length_set]);omega)|exact leT rfl))|(refine⟨?_,?_⟩<;>omega)|(refine⟨?_,?_,?_⟩<;>first|omega|(show _<_;(try simp only[List.length_set]);omega)|exact leT rfl)|(simp only[show rI.d=(0:Int)from rfl];omega));done));(conv=>whnf))))
        refine EvBi.append_nil (R := rV) tyok22 rfl tyok27 rfl (by decide) rfl (ms.take a) (fun ρ W hp => hp.cut (R := rV) (n := 3) (xs := ms) rfl (by decide) (by omega) q8 a (by omega) 4) (by rw [tm1]; show a * 32 ≤ _; omega) (by omega) (fun ca hq1 hq2 => ?_)
        ((conv=>whnf);(repeat(refine And.intro ?_ ?_;(focus((first|omega|exact⟨rfl,True.intro⟩|exact⟨rfl,rfl,True.intro⟩|rfl|(simp only[List.length_set];first|omega|(refine⟨?_,?_⟩<;>omega)|(refine⟨?_,?_,?_⟩<;>omega))|(intro hg;(try simp only[bB]at hg);first|omega|(refine⟨?_,?_⟩<;>omega)|(refine⟨?_,?_,?_⟩<;>first|omega|(show _<_;(try simp only[List.length_set]);omega)|exact leT rfl))|(refine⟨?_,?_⟩<;>omega)|(refine⟨?_,?_,?_⟩<;>first|omega|(show _<_;(try simp only[List.length_set]);omega)|exact leT rfl)|(simp only[show rI.d=(0:Int)from rfl];omega));done));(conv=>whnf))))
        refine EvBi.append (R := rV) tyok22 rfl tyok27 rfl (by decide) rfl rfl rfl hq1 [x] (fun ρ W hp => hp.lit (R := rV) (ys := [x]) (n := 7) rfl (by decide) (by simp) (by omega) (by rw [← hx]; rfl)) (by rw [tm1]; show (a + 1) * 32 ≤ _; omega) (by rw [tm1]; show a + 1 ≤ _; omega) (fun cb hq3 hq4 => ?_)
        ((conv=>whnf);(repeat(refine And.intro ?_ ?_;(focus((first|omega|exact⟨rfl,True.intro⟩|exact⟨rfl,rfl,True.intro⟩|rfl|(simp only[List.length_set];first|omega|(refine⟨?_,?_⟩<;>omega)|(refine⟨?_,?_,?_⟩<;>omega))|(intro hg;(try simp only[bB]at hg);first|omega|(refine⟨?_,?_⟩<;>omega)|(refine⟨?_,?_,?_⟩<;>first|omega|(show _<_;(try simp only[List.length_set]);omega)|exact leT rfl))|(refine⟨?_,?_⟩<;>omega)|(refine⟨?_,?_,?_⟩<;>first|omega|(show _<_;(try simp only[List.length_set]);omega)|exact leT rfl)|(simp only[show rI.d=(0:Int)from rfl];omega));done));(conv=>whnf))))
        refine EvBi.append (R := rV) (xs := ms.take a ++ [x]) tyok22 rfl tyok27 rfl (by decide) rfl rfl (by rw [tm3, tm1]; rfl) (by rw [tm3]; rw [tm1] at hq3; exact hq3) (ms.drop a) (fun ρ W hp => by
          have := hp.part (R := rV) (n := 3) (xs := ms) (c := p.2.2.2.2.1) rfl (by decide) (by omega) q8 a ms.length (by omega) (Nat.le_refl _)
          rw [tm2, q3] at this
          exact this) (by rw [tm3, tm4]; show (a + 1 + (ms.length - a)) * 32 ≤ _; omega) (by rw [tm3, tm4]; omega) (fun cc hq5 hq6 => ?_)
        ((conv=>whnf);(repeat(refine And.intro ?_ ?_;(focus((first|omega|exact⟨rfl,True.intro⟩|exact⟨rfl,rfl,True.intro⟩|rfl|(simp only[List.length_set];first|omega|(refine⟨?_,?_⟩<;>omega)|(refine⟨?_,?_,?_⟩<;>omega))|(intro hg;(try simp only[bB]at hg);first|omega|(refine⟨?_,?_⟩<;>omega)|(refine⟨?_,?_,?_⟩<;>first|omega|(show _<_;(try simp only[List.length_set]);omega)|exact leT rfl))|(refine⟨?_,?_⟩<;>omega)|(refine⟨?_,?_,?_⟩<;>first|omega|(show _<_;(try simp only[List.length_set]);omega)|exact leT rfl)|(simp only[show rI.d=(0:Int)from rfl];omega));done));(conv=>whnf))))
        refine Exists.intro cc (And.intro ⟨by rw [tm3, tm4] at hq5; omega, hq6⟩ (Sub.of [(6, 9)] [] rfl ?_))
        (repeat' (refine And.intro ?_ ?_)) <;> first | rfl | exact True.intro | omega | (rw [tm3, tm4]; show _ = _; omega)
      ((conv=>whnf);(repeat(refine And.intro ?_ ?_;(focus((first|omega|exact⟨rfl,True.intro⟩|exact⟨rfl,rfl,True.intro⟩|rfl|(simp only[List.length_set];first|omega|(refine⟨?_,?_⟩<;>omega)|(refine⟨?_,?_,?_⟩<;>omega))|(intro hg;(try simp only[bB]at hg);first|omega|(refine⟨?_,?_⟩<;>omega)|(refine⟨?_,?_,?_⟩<;>first|omega|(show _<_;(try simp only[List.length_set]);omega)|exact leT rfl))|(refine⟨?_,?_⟩<;>omega)|(refine⟨?_,?_,?_⟩<;>first|omega|(show _<_;(try simp only[List.length_set]);omega)|exact leT rfl)|(simp only[show rI.d=(0:Int)from rfl];omega));done));(conv=>whnf))))
      refine EvBi.append_nil (R := rV) tyok22 rfl tyok27 rfl (by decide) rfl (ms.take a) (fun ρ W hp => hp.cut (R := rV) (n := 3) (xs := ms) rfl (by decide) (by omega) q8 a (by omega) 4) (by rw [tm1]; show a * 32 ≤ _; omega) (by omega) (fun ca hq1 hq2 => ?_)
      ((conv=>whnf);(repeat(refine And.intro ?_ ?_;(focus((first|omega|exact⟨rfl,True.intro⟩|exact⟨rfl,rfl,True.intro⟩|rfl|(simp only[List.length_set];first|omega|(refine⟨?_,?_⟩<;>omega)|(refine⟨?_,?_,?_⟩<;>omega))|(intro hg;(try simp only[bB]at hg);first|omega|(refine⟨?_,?_⟩<;>omega)|(refine⟨?_,?_,?_⟩<;>first|omega|(show _<_;(try simp only[List.length_set]);omega)|exact leT rfl))|(refine⟨?_,?_⟩<;>omega)|(refine⟨?_,?_,?_⟩<;>first|omega|(show _<_;(try simp only[List.length_set]);omega)|exact leT rfl)|(simp only[show rI.d=(0:Int)from rfl];omega));done));(conv=>whnf))))
      refine EvBi.append (R := rV) tyok22 rfl tyok27 rfl (by decide) rfl rfl rfl hq1 [x] (fun ρ W hp => hp.lit (R := rV) (ys := [x]) (n := 6) rfl (by decide) (by simp) (by omega) (by rw [← hx]; rfl)) (by rw [tm1]; show (a + 1) * 32 ≤ _; omega) (by rw [tm1]; show a + 1 ≤ _; omega) (fun cb hq3 hq4 => ?_)
      ((conv=>whnf);(repeat(refine And.intro ?_ ?_;(focus((first|omega|exact⟨rfl,True.intro⟩|exact⟨rfl,rfl,True.intro⟩|rfl|(simp only[List.length_set];first|omega|(refine⟨?_,?_⟩<;>omega)|(refine⟨?_,?_,?_⟩<;>omega))|(intro hg;(try simp only[bB]at hg);first|omega|(refine⟨?_,?_⟩<;>omega)|(refine⟨?_,?_,?_⟩<;>first|omega|(show _<_;(try simp only[List.length_set]);omega)|exact leT rfl))|(refine⟨?_,?_⟩<;>omega)|(refine⟨?_,?_,?_⟩<;>first|omega|(show _<_;(try simp only[List.length_set]);omega)|exact leT rfl)|(simp only[show rI.d=(0:Int)from rfl];omega));done));(conv=>whnf))))
      refine EvBi.append (R := rV) (xs := ms.take a ++ [x]) tyok22 rfl tyok27 rfl (by decide) rfl rfl (by rw [tm3, tm1]; rfl) (by rw [tm3]; rw [tm1] at hq3; exact hq3) (ms.drop a) (fun ρ W hp => by
        have := hp.part (R := rV) (n := 3) (xs := ms) (c := p.2.2.2.2.1) rfl (by decide) (by omega) q8 a ms.length (by omega) (Nat.le_refl _)
        rw [tm2, q3] at this
        exact this) (by rw [tm3, tm4]; show (a + 1 + (ms.length - a)) * 32 ≤ _; omega) (by rw [tm3, tm4]; omega) (fun cc hq5 hq6 => ?_)
      ((conv=>whnf);(repeat(refine And.intro ?_ ?_;(focus((first|omega|exact⟨rfl,True.intro⟩|exact⟨rfl,rfl,True.intro⟩|rfl|(simp only[List.length_set];first|omega|(refine⟨?_,?_⟩<;>omega)|(refine⟨?_,?_,?_⟩<;>omega))|(intro hg;(try simp only[bB]at hg);first|omega|(refine⟨?_,?_⟩<;>omega)|(refine⟨?_,?_,?_⟩<;>first|omega|(show _<_;(try simp only[List.length_set]);omega)|exact leT rfl))|(refine⟨?_,?_⟩<;>omega)|(refine⟨?_,?_,?_⟩<;>first|omega|(show _<_;(try simp only[List.length_set]);omega)|exact leT rfl)|(simp only[show rI.d=(0:Int)from rfl];omega));done));(conv=>whnf))))
      refine Exists.intro cc (And.intro ⟨by rw [tm3, tm4] at hq5; omega, hq6⟩ (Sub.of [(6, 9)] [] rfl ?_))
      (repeat' (refine And.intro ?_ ?_)) <;> first | rfl | exact True.intro | omega | (rw [tm3, tm4]; show _ = _; omega)
    intro mc ⟨w3, w4⟩
    ((conv=>whnf);(repeat(refine And.intro ?_ ?_;(focus((first|omega|exact⟨rfl,True.intro⟩|exact⟨rfl,rfl,True.intro⟩|rfl|(simp only[List.length_set];first|omega|(refine⟨?_,?_⟩<;>omega)|(refine⟨?_,?_,?_⟩<;>omega))|(intro hg;(try simp only[bB]at hg);first|omega|(refine⟨?_,?_⟩<;>omega)|(refine⟨?_,?_,?_⟩<;>first|omega|(show _<_;(try simp only[List.length_set]);omega)|exact leT rfl))|(refine⟨?_,?_⟩<;>omega)|(refine⟨?_,?_,?_⟩<;>first|omega|(show _<_;(try simp only[List.length_set]);omega)|exact leT rfl)|(simp only[show rI.d=(0:Int)from rfl];omega));done));(conv=>whnf))))
    (refine EvDraw.one (.q 0 (.q 1 (.q 2 (.q 3 (.q 4 (.q 5 (.q 7 (.n 6 false (.q 8 (.n 9 true (.n 10 false (.n 11 true (.q 12 (.z)) (.e)) (.e)) (.e))) (.e))))))))) (by kernel_rfl) ?_)
    ((conv=>whnf);(repeat(refine And.intro ?_ ?_;(focus((first|omega|exact⟨rfl,True.intro⟩|exact⟨rfl,rfl,True.intro⟩|rfl|(simp only[List.length_set];first|omega|(refine⟨?_,?_⟩<;>omega)|(refine⟨?_,?_,?_⟩<;>omega))|(intro hg;(try simp only[bB]at hg);first|omega|(refine⟨?_,?_⟩<;>omega)|(refine⟨?_,?_,?_⟩<;>first|omega|(show _<_;(try simp only[List.length_set]);omega)|exact leT rfl))|(refine⟨?_,?_⟩<;>omega)|(refine⟨?_,?_,?_⟩<;>first|omega|(show _<_;(try simp only[List.length_set]);omega)|exact leT rfl)|(simp only[show rI.d=(0:Int)from rfl];omega));done));(conv=>whnf))))
    refine EvCall.plain Try.call13 (.v (.int .i64 T)) rfl (fun ρ W hp => ats W ht (by omega)) ?_
    ((conv=>whnf);(repeat(refine And.intro ?_ ?_;(focus((first|omega|exact⟨rfl,True.intro⟩|exact⟨rfl,rfl,True.intro⟩|rfl|(simp only[List.length_set];first|omega|(refine⟨?_,?_⟩<;>omega)|(refine⟨?_,?_,?_⟩<;>omega))|(intro hg;(try simp only[bB]at hg);first|omega|(refine⟨?_,?_⟩<;>omega)|(refine⟨?_,?_,?_⟩<;>first|omega|(show _<_;(try simp only[List.length_set]);omega)|exact leT rfl))|(refine⟨?_,?_⟩<;>omega)|(refine⟨?_,?_,?_⟩<;>first|omega|(show _<_;(try simp only[List.length_set]);omega)|exact leT rfl)|(simp only[show rI.d=(0:Int)from rfl];omega));done));(conv=>whnf))))
    refine EvCall.plain Try.call19 (.a (fS f)) rfl (fun ρ W hp => by
      rw [fS_den]
      have := hin W
      rw [← hx] at this
      exact this) ?_
    ((conv=>whnf);(repeat(refine And.intro ?_ ?_;(focus((first|omega|exact⟨rfl,True.intro⟩|exact⟨rfl,rfl,True.intro⟩|rfl|(simp only[List.length_set];first|omega|(refine⟨?_,?_⟩<;>omega)|(refine⟨?_,?_,?_⟩<;>omega))|(intro hg;(try simp only[bB]at hg);first|omega|(refine⟨?_,?_⟩<;>omega)|(refine⟨?_,?_,?_⟩<;>first|omega|(show _<_;(try simp only[List.length_set]);omega)|exact leT rfl))|(refine⟨?_,?_⟩<;>omega)|(refine⟨?_,?_,?_⟩<;>first|omega|(show _<_;(try simp only[List.length_set]);omega)|exact leT rfl)|(simp only[show rI.d=(0:Int)from rfl];omega));done));(conv=>whnf))))
    refine EvBi.append (R := rF) (xs := cl) tyok49 rfl tyok25 rfl (by decide) rfl rfl (by rw [hcl]) (by rw [hcl]; exact q9) [f] (fun ρ W hp => hp.lit (R := rF) (ys := [f]) (n := 7) rfl (by decide) (by simp) (by omega) rfl) (by rw [hcl]; show (_ + 1) * 16 ≤ _; omega) (by rw [hcl]; show _ + 1 ≤ _; omega) (fun cc hq1 hq2 => ?_)
    ((conv=>whnf);(repeat(refine And.intro ?_ ?_;(focus((first|omega|exact⟨rfl,True.intro⟩|exact⟨rfl,rfl,True.intro⟩|rfl|(simp only[List.length_set];first|omega|(refine⟨?_,?_⟩<;>omega)|(refine⟨?_,?_,?_⟩<;>omega))|(intro hg;(try simp only[bB]at hg);first|omega|(refine⟨?_,?_⟩<;>omega)|(refine⟨?_,?_,?_⟩<;>first|omega|(show _<_;(try simp only[List.length_set]);omega)|exact leT rfl))|(refine⟨?_,?_⟩<;>omega)|(refine⟨?_,?_,?_⟩<;>first|omega|(show _<_;(try simp only[List.length_set]);omega)|exact leT rfl)|(simp only[show rI.d=(0:Int)from rfl];omega));done));(conv=>whnf))))
    have nk : (ks.take a ++ [h] ++ ks.drop a).length = p.1 + 1 := by rw [List.length_append, tk3, tk4]; omega
    have nm : (ms.take a ++ [x] ++ ms.drop a).length = p.1 + 1 := by rw [List.length_append, tm3, tm4]; omega
    refine LoopI.back (p.1 + 1, ks.take a ++ [h] ++ ks.drop a, ms.take a ++ [x] ++ ms.drop a, kc, mc, cc) ⟨by show p.1 + 1 ≤ _; omega, nk, nm, hnew, ⟨w1, w2⟩, ⟨w3, w4⟩, by simpa [hcl] using hq1, hq2⟩ (by show xs.length - (p.1 + 1) < xs.length - p.1; omega) (Sub.of [(2, 5), (3, 6), (4, 8)] [] rfl ?_)
    (repeat' (refine And.intro ?_ ?_)) <;> first | rfl | exact True.intro | omega | exact congrArg (Ct.rows Fq rF) hcs | exact congrArg (Ct.rows Fq rF) hcs.symm | exact congrArg (· + 1) hcl.symm | exact congrArg (· + 1) hcl
  · have g3 : p.1 = xs.length := by have := of_decide_eq_false g2; omega
    obtain ⟨ms, hms⟩ : ∃ ms, p.2.2.1 = ms := ⟨_, rfl⟩
    rw [hms] at q3 q4 ⊢
    rw [g3] at q3 q4 q7 q9 hcl ⊢
    rw [List.take_length] at q4
    have hpm := kthF_perm hvx q4.symm (n := 1 + K) (by omega)
    obtain ⟨s, hsl, hsm⟩ : ∃ s, s.length = xs.length ∧ sortF (chF xs T xs.length) = s := ⟨_, by rw [sortF_len, hcl], rfl⟩
    rw [hsm] at hz1
    have e9 : (1 + K - 1).toNat = K.toNat := by omega
    obtain ⟨z, hz⟩ : ∃ z, (kthF xs (1 + K)).1 = z := ⟨_, rfl⟩
    have hkz : kthF xs (1 + K) = (z, 0) := Prod.ext hz hz0
    rw [hz] at hz1
    rw [hkz] at hpm
    have ck := fun v W hv => kth_s v xs (1 + K) W hv (by omega) (by omega)
    have cm := fun v W hv => kth_s v ms (1 + K) W hv (by omega) (by omega)
    rw [hkz] at ck
    rw [hpm] at cm
    ((conv=>whnf);(repeat(refine And.intro ?_ ?_;(focus((first|omega|exact⟨rfl,True.intro⟩|exact⟨rfl,rfl,True.intro⟩|rfl|(simp only[List.length_set];first|omega|(refine⟨?_,?_⟩<;>omega)|(refine⟨?_,?_,?_⟩<;>omega))|(intro hg;(try simp only[bB]at hg);first|omega|(refine⟨?_,?_⟩<;>omega)|(refine⟨?_,?_,?_⟩<;>first|omega|(show _<_;(try simp only[List.length_set]);omega)|exact leT rfl))|(refine⟨?_,?_⟩<;>omega)|(refine⟨?_,?_,?_⟩<;>first|omega|(show _<_;(try simp only[List.length_set]);omega)|exact leT rfl)|(simp only[show rI.d=(0:Int)from rfl];omega));done));(conv=>whnf))))
    refine EvCall.plain Try.call13 (.v (.int .i64 K)) rfl (fun ρ W hp => aks W) ?_
    ((conv=>whnf);(repeat(refine And.intro ?_ ?_;(focus((first|omega|exact⟨rfl,True.intro⟩|exact⟨rfl,rfl,True.intro⟩|rfl|(simp only[List.length_set];first|omega|(refine⟨?_,?_⟩<;>omega)|(refine⟨?_,?_,?_⟩<;>omega))|(intro hg;(try simp only[bB]at hg);first|omega|(refine⟨?_,?_⟩<;>omega)|(refine⟨?_,?_,?_⟩<;>first|omega|(show _<_;(try simp only[List.length_set]);omega)|exact leT rfl))|(refine⟨?_,?_⟩<;>omega)|(refine⟨?_,?_,?_⟩<;>first|omega|(show _<_;(try simp only[List.length_set]);omega)|exact leT rfl)|(simp only[show rI.d=(0:Int)from rfl];omega));done));(conv=>whnf))))
    refine EvCall.plain Try.call14 (ieS (z, 0)) rfl (fun ρ W hp => by
      rw [ieS_den]
      exact ck _ W (hp.rowsIn (R := rV) (n := 1) (xs := xs) (c := xc) rfl (by decide) hx1 hx2 4)) ?_
    ((conv=>whnf);(repeat(refine And.intro ?_ ?_;(focus((first|omega|exact⟨rfl,True.intro⟩|exact⟨rfl,rfl,True.intro⟩|rfl|(simp only[List.length_set];first|omega|(refine⟨?_,?_⟩<;>omega)|(refine⟨?_,?_,?_⟩<;>omega))|(intro hg;(try simp only[bB]at hg);first|omega|(refine⟨?_,?_⟩<;>omega)|(refine⟨?_,?_,?_⟩<;>first|omega|(show _<_;(try simp only[List.length_set]);omega)|exact leT rfl))|(refine⟨?_,?_⟩<;>omega)|(refine⟨?_,?_,?_⟩<;>first|omega|(show _<_;(try simp only[List.length_set]);omega)|exact leT rfl)|(simp only[show rI.d=(0:Int)from rfl];omega));done));(conv=>whnf))))
    refine EvCall.plain Try.call14 (ieS (z, 0)) rfl (fun ρ W hp => by
      rw [ieS_den]
      have := hp.rowsIn (R := rV) (n := 3) (xs := ms) (c := p.2.2.2.2.1) rfl (by decide) (by omega) q8 4
      rw [q3] at this
      exact cm _ W this) ?_
    ((conv=>whnf);(repeat(refine And.intro ?_ ?_;(focus((first|omega|exact⟨rfl,True.intro⟩|exact⟨rfl,rfl,True.intro⟩|rfl|(simp only[List.length_set];first|omega|(refine⟨?_,?_⟩<;>omega)|(refine⟨?_,?_,?_⟩<;>omega))|(intro hg;(try simp only[bB]at hg);first|omega|(refine⟨?_,?_⟩<;>omega)|(refine⟨?_,?_,?_⟩<;>first|omega|(show _<_;(try simp only[List.length_set]);omega)|exact leT rfl))|(refine⟨?_,?_⟩<;>omega)|(refine⟨?_,?_,?_⟩<;>first|omega|(show _<_;(try simp only[List.length_set]);omega)|exact leT rfl)|(simp only[show rI.d=(0:Int)from rfl];omega));done));(conv=>whnf))))
    (refine EvDraw.one (.q 0 (.q 1 (.q 2 (.q 3 (.q 4 (.q 5 (.q 6 (.q 7 (.q 8 (.q 9 (.q 10 (.q 11 (.q 12 (.q 13 (.q 15 (.q 16 (.n 14 false (.q 17 (.q 18 (.n 19 false (.q 20 (.q 21 (.n 22 false (.q 23 (.q 24 (.z))) (.e)))) (.e)))) (.e)))))))))))))))))) (by kernel_rfl) ?_)
    ((conv=>whnf);(repeat(refine And.intro ?_ ?_;(focus((first|omega|exact⟨rfl,True.intro⟩|exact⟨rfl,rfl,True.intro⟩|rfl|(simp only[List.length_set];first|omega|(refine⟨?_,?_⟩<;>omega)|(refine⟨?_,?_,?_⟩<;>omega))|(intro hg;(try simp only[bB]at hg);first|omega|(refine⟨?_,?_⟩<;>omega)|(refine⟨?_,?_,?_⟩<;>first|omega|(show _<_;(try simp only[List.length_set]);omega)|exact leT rfl))|(refine⟨?_,?_⟩<;>omega)|(refine⟨?_,?_,?_⟩<;>first|omega|(show _<_;(try simp only[List.length_set]);omega)|exact leT rfl)|(simp only[show rI.d=(0:Int)from rfl];omega));done));(conv=>whnf))))
    refine EvCallC.on (by simp) ?_
    refine EvCall.rows (R := rF) (ty := 25) (xs := s) Try.call32 (fun ρ W hp => by
      have := hp.rowsIn (R := rF) (n := 4) (xs := chF xs T xs.length) (c := p.2.2.2.2.2) rfl (by decide) (by omega) q10 2
      rw [hcl] at this
      rw [← hsm]
      exact sorted4_s _ (chF xs T xs.length) W this (by omega) hcv) (fun sc hs1 hs2 => ?_)
    ((conv=>whnf);(repeat(refine And.intro ?_ ?_;(focus((first|omega|exact⟨rfl,True.intro⟩|exact⟨rfl,rfl,True.intro⟩|rfl|(simp only[List.length_set];first|omega|(refine⟨?_,?_⟩<;>omega)|(refine⟨?_,?_,?_⟩<;>omega))|(intro hg;(try simp only[bB]at hg);first|omega|(refine⟨?_,?_⟩<;>omega)|(refine⟨?_,?_,?_⟩<;>first|omega|(show _<_;(try simp only[List.length_set]);omega)|exact leT rfl))|(refine⟨?_,?_⟩<;>omega)|(refine⟨?_,?_,?_⟩<;>first|omega|(show _<_;(try simp only[List.length_set]);omega)|exact leT rfl)|(simp only[show rI.d=(0:Int)from rfl];omega));done));(conv=>whnf))))
    refine EvCallC.plain Try.call31 (.v (.bool true)) rfl (fun _ ρ W hp => by rw [← hz1]; exact cont_s z (s.getD (1 + K - 1).toNat fr0) W) ?_
    ((conv=>whnf);(repeat(refine And.intro ?_ ?_;(focus((first|omega|exact⟨rfl,True.intro⟩|exact⟨rfl,rfl,True.intro⟩|rfl|(simp only[List.length_set];first|omega|(refine⟨?_,?_⟩<;>omega)|(refine⟨?_,?_,?_⟩<;>omega))|(intro hg;(try simp only[bB]at hg);first|omega|(refine⟨?_,?_⟩<;>omega)|(refine⟨?_,?_,?_⟩<;>first|omega|(show _<_;(try simp only[List.length_set]);omega)|exact leT rfl))|(refine⟨?_,?_⟩<;>omega)|(refine⟨?_,?_,?_⟩<;>first|omega|(show _<_;(try simp only[List.length_set]);omega)|exact leT rfl)|(simp only[show rI.d=(0:Int)from rfl];omega));done));(conv=>whnf))))
    refine EvCallC.plain Try.call16 (.v (.bool true)) rfl (fun _ ρ W hp => lives_s W) ?_
    ((conv=>whnf);(repeat(refine And.intro ?_ ?_;(focus((first|omega|exact⟨rfl,True.intro⟩|exact⟨rfl,rfl,True.intro⟩|rfl|(simp only[List.length_set];first|omega|(refine⟨?_,?_⟩<;>omega)|(refine⟨?_,?_,?_⟩<;>omega))|(intro hg;(try simp only[bB]at hg);first|omega|(refine⟨?_,?_⟩<;>omega)|(refine⟨?_,?_,?_⟩<;>first|omega|(show _<_;(try simp only[List.length_set]);omega)|exact leT rfl))|(refine⟨?_,?_⟩<;>omega)|(refine⟨?_,?_,?_⟩<;>first|omega|(show _<_;(try simp only[List.length_set]);omega)|exact leT rfl)|(simp only[show rI.d=(0:Int)from rfl];omega));done));(conv=>whnf))))
    exact ret_bool (by simp)
theorem walk_IntervalRanks (w : World) (V0 : Value) (l : List Int) (hv : Ints w V0 l) (seed : Int) (hs : I64 seed) (k : Int) (hk : I64 k) (t : Int) (ht : I64 t) : Calls Try.prog 6 #[V0, .int .i64 seed, .int .i64 k, .int .i64 t] w fun e w' => e = .returned (.bool true) ∧ Below w.heap.size w w' := (intervalranks_s V0 l seed k t w hv hs hk ht).out
end Go.Proofs.Ythknflclfmnciaa
