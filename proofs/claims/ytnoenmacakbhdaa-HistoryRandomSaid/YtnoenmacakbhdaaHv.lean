
/- Histories: Random, walked. -/
import Derived.Test.YtnoenmacakbhdaaHt
import Derived.Test.YtnoenmacakbhdaaHu
namespace Go.Proofs.Ytnoenmacakbhdaa
open Go.RowKit
set_option linter.unusedVariables false
set_option linter.unusedSimpArgs false

theorem u64_rng (z : Int) : 0 ≤ IntKind.u64.wrap z ∧ IntKind.u64.wrap z < 18446744073709551616 := by
  simp only [IntKind.wrap, IntKind.bits, IntKind.signed]
  simp
  omega
theorem mixV_rng (s x : Int) : 0 ≤ mixV s x ∧ mixV s x < 18446744073709551616 := u64_rng _
theorem sumV_rng (s : ByteArray) (ws : List Int) : 0 ≤ sumV s ws ∧ sumV s ws < 18446744073709551616 := mixV_rng _ _
theorem sum_s (s : ByteArray) (v : Value) (ws : List Int) (w : World) (hs : s.size ≤ 1000000) (hv : RowsIn rI w v ws) (h0 : 0 < ws.length) (hl : ws.length ≤ 1000000) :
    Con Try.prog 87 #[.string s, v] w (Ret w (.int .u64 (sumV s ws))) := by
  obtain ⟨A, c, rfl, h1, h2, h3, h4⟩ := hv
  obtain ⟨b, off, rfl, hb, hc⟩ := h4 h0
  exact ⟨sum_any s hs b off c ws w hb (fun k x hx => hc k _ (by
    have e : rowC rI ws = ws.map (Value.int .i64) := cells_ints (fun _ => none) ws
    rw [e, List.getElem?_map, hx]
    rfl)) hl⟩
def sHist : ByteArray := ⟨#[104, 105, 115, 116, 111, 114, 121]⟩
def rdG (d : Dc) (seed : Int) (i : Nat) : Int := sumV sHist [seed, d.first + (i : Int)]
/-- What Random returns. -/
noncomputable def rdR (d : Dc) (l : List Cl) (seed : Int) : List Int × Int :=
  if (newR d l).2 ≠ 0 then ([], (newR d l).2) else (rndL d (fun i => (rLoL d l (spanN d)).getD i 0) (fun i => (rHiL d l (spanN d)).getD i 0) (rdG d seed) (spanN d), 0)
theorem rnd_bd {d : Dc} {lo hi : Nat → Int} {i : Nat} {p : Int} : rndX d lo i p = (if i = 0 then lo i else max (lo i) (p + d.down)) ∧ rndY d hi i p = (if i = 0 then hi i else min (hi i) (p + d.up)) := ⟨rfl, rfl⟩
set_option maxRecDepth 20000 in
theorem hrandom_s (V v : Value) (d : Dc) (l : List Cl) (seed : Int) (w : World) (h : DeclIs w V d) (hI : DcI d) (hvc : validCode d = 0) (hll : l.length ≤ 4096) (hlv : ∀ c ∈ l, validB d c = true) (hv : RowsIn rC w v l) :
    Con Try.prog 44 #[V, v, .int .i64 seed] w (RetRowsE rI 3 w (rdR d l seed).1 (rdR d l seed).2) := by
  have hD := h
  obtain ⟨nm, A, c, lb, rfl, hnm, hlab, hS⟩ := h
  obtain ⟨A1, c1, rfl, e1, e2⟩ := hv.form
  have hbd := valid_bounds hvc
  have hsp : (spanN d : Int) = d.last - d.first + 1 := by unfold spanN; omega
  refine enter tabOk mixed Try.func44 rfl Try.ntmps44 Try.results44 [.a (dcS nm (.v (.slice A lb.length c)) d), .s 0 4 l.length c1, .v (.int .i64 seed)] (fun _ => A1) [⟨0, false, 52, 4, c1, .rows Cl rC (l)⟩] 1 rfl rfl (.ro (hp0 _ _ _) _ rfl rfl rfl (ro_rows hv rfl _)) ?_
  ((conv=>whnf);(repeat(refine And.intro ?_ ?_;(focus((first|omega|exact⟨rfl,True.intro⟩|exact⟨rfl,rfl,True.intro⟩|rfl|(simp only[List.length_set];first|omega|(refine⟨?_,?_⟩<;>omega)|(refine⟨?_,?_,?_⟩<;>omega))|(intro hg;(try simp only[bB]at hg);first|omega|(refine⟨?_,?_⟩<;>omega)|(refine⟨?_,?_,?_⟩<;>first|omega|(show _<_;(try simp only[List.length_set]);omega)|exact leT rfl))|(refine⟨?_,?_⟩<;>omega)|(refine⟨?_,?_,?_⟩<;>first|omega|(show _<_;(try simp only[List.length_set]);omega)|exact leT rfl)|(simp only[show rI.d=(0:Int)from rfl];omega));done));(conv=>whnf))))
  rcases two_ok hvc hll hlv with ⟨hok, hN⟩ | ⟨hno, hN⟩
  case inr =>
    have hr : rdR d l seed = ([], 13) := by rw [rdR, hN, if_pos (by simp)]
    rw [hr]
    refine EvCall.two (ty := 3) (xs := []) (ys := []) (envES 0 13) (envES_den _ _) (envES_lt _ _) Try.call17 (fun ρ W hp => by
      have := new_s _ _ d l W (hD.below hp.bel) hI (hp.rowsIn (R := rC) (n := 0) (c := c1) rfl (by decide) e1 e2 4)
      rw [hN] at this
      exact this) (fun p1 p2 q1 q2 q3 q4 => ?_)
    ((conv=>whnf);(repeat(refine And.intro ?_ ?_;(focus((first|omega|exact⟨rfl,True.intro⟩|exact⟨rfl,rfl,True.intro⟩|rfl|(simp only[List.length_set];first|omega|(refine⟨?_,?_⟩<;>omega)|(refine⟨?_,?_,?_⟩<;>omega))|(intro hg;(try simp only[bB]at hg);first|omega|(refine⟨?_,?_⟩<;>omega)|(refine⟨?_,?_,?_⟩<;>first|omega|(show _<_;(try simp only[List.length_set]);omega)|exact leT rfl))|(refine⟨?_,?_⟩<;>omega)|(refine⟨?_,?_,?_⟩<;>first|omega|(show _<_;(try simp only[List.length_set]);omega)|exact leT rfl)|(simp only[show rI.d=(0:Int)from rfl];omega));done));(conv=>whnf))))
    refine EvIf.pos rfl ?_
    ((conv=>whnf);(repeat(refine And.intro ?_ ?_;(focus((first|omega|exact⟨rfl,True.intro⟩|exact⟨rfl,rfl,True.intro⟩|rfl|(simp only[List.length_set];first|omega|(refine⟨?_,?_⟩<;>omega)|(refine⟨?_,?_,?_⟩<;>omega))|(intro hg;(try simp only[bB]at hg);first|omega|(refine⟨?_,?_⟩<;>omega)|(refine⟨?_,?_,?_⟩<;>first|omega|(show _<_;(try simp only[List.length_set]);omega)|exact leT rfl))|(refine⟨?_,?_⟩<;>omega)|(refine⟨?_,?_,?_⟩<;>first|omega|(show _<_;(try simp only[List.length_set]);omega)|exact leT rfl)|(simp only[show rI.d=(0:Int)from rfl];omega));done));(conv=>whnf))))
    exact EvRet.rowsE_nil rfl rfl
  have hr : rdR d l seed = (rndL d (fun i => (rLoL d l (spanN d)).getD i 0) (fun i => (rHiL d l (spanN d)).getD i 0) (rdG d seed) (spanN d), 0) := by rw [rdR, hN, if_neg (by simp)]
  rw [hr]
  have hl1 := rLoL_len d l (spanN d)
  have hl2 := rHiL_len d l (spanN d)
  obtain ⟨hL, hH⟩ := rL_hist hvc hlv hsp hok
  have hcb : ∀ i, (-1099511627776 ≤ (rLoL d l (spanN d)).getD i 0 ∧ (rLoL d l (spanN d)).getD i 0 ≤ 1099511627776) ∧ -1099511627776 ≤ (rHiL d l (spanN d)).getD i 0 ∧ (rHiL d l (spanN d)).getD i 0 ≤ 1099511627776 := fun i => ⟨hist_bd5 hvc hL i, hist_bd5 hvc hH i⟩
  obtain ⟨hRH, hXY⟩ := rnd_hist (rdG d seed) hvc hlv hsp hok
  have hRb := hist_bd5 hvc hRH
  refine EvCall.two (ty := 3) (xs := rLoL d l (spanN d)) (ys := rHiL d l (spanN d)) (envES d.first 0) (envES_den _ _) (envES_lt _ _) Try.call17 (fun ρ W hp => by
    have := new_s _ _ d l W (hD.below hp.bel) hI (hp.rowsIn (R := rC) (n := 0) (c := c1) rfl (by decide) e1 e2 4)
    rw [hN] at this
    exact this) (fun p1 p2 q1 q2 q3 q4 => ?_)
  clear hRH hL hH hr hN hok
  generalize rLoL d l (spanN d) = lo at *
  generalize rHiL d l (spanN d) = hi at *
  generalize spanN d = n at *
  ((conv=>whnf);(repeat(refine And.intro ?_ ?_;(focus((first|omega|exact⟨rfl,True.intro⟩|exact⟨rfl,rfl,True.intro⟩|rfl|(simp only[List.length_set];first|omega|(refine⟨?_,?_⟩<;>omega)|(refine⟨?_,?_,?_⟩<;>omega))|(intro hg;(try simp only[bB]at hg);first|omega|(refine⟨?_,?_⟩<;>omega)|(refine⟨?_,?_,?_⟩<;>first|omega|(show _<_;(try simp only[List.length_set]);omega)|exact leT rfl))|(refine⟨?_,?_⟩<;>omega)|(refine⟨?_,?_,?_⟩<;>first|omega|(show _<_;(try simp only[List.length_set]);omega)|exact leT rfl)|(simp only[show rI.d=(0:Int)from rfl];omega));done));(conv=>whnf))))
  refine EvIf.neg rfl ?_
  ((conv=>whnf);(repeat(refine And.intro ?_ ?_;(focus((first|omega|exact⟨rfl,True.intro⟩|exact⟨rfl,rfl,True.intro⟩|rfl|(simp only[List.length_set];first|omega|(refine⟨?_,?_⟩<;>omega)|(refine⟨?_,?_,?_⟩<;>omega))|(intro hg;(try simp only[bB]at hg);first|omega|(refine⟨?_,?_⟩<;>omega)|(refine⟨?_,?_,?_⟩<;>first|omega|(show _<_;(try simp only[List.length_set]);omega)|exact leT rfl))|(refine⟨?_,?_⟩<;>omega)|(refine⟨?_,?_,?_⟩<;>first|omega|(show _<_;(try simp only[List.length_set]);omega)|exact leT rfl)|(simp only[show rI.d=(0:Int)from rfl];omega));done));(conv=>whnf))))
  refine EvMake.full (R := rI) tyok22 rfl tyok3 rfl (by decide) 0 rfl lo.length (by show 8 * lo.length ≤ _; omega) (by omega) ?_
  rw [hl1]
  obtain ⟨F, hF⟩ : ∃ F, F = rndV d (fun i => lo.getD i 0) (fun i => hi.getD i 0) (rdG d seed) := ⟨_, rfl⟩
  rw [mixL_rep F (fun _ => 0) n 0 (fun _ _ => rfl)]
  have hFb : ∀ j, j < n → -1099511627776 ≤ F j ∧ F j ≤ 1099511627776 := fun j hj => by
    have h5 := hRb j
    have e : (rndL d (fun i => lo.getD i 0) (fun i => hi.getD i 0) (rdG d seed) n).getD j 0 = F j := by rw [hF]; exact map_get _ n j hj
    rwa [e] at h5
  ((conv=>whnf);(repeat(refine And.intro ?_ ?_;(focus((first|omega|exact⟨rfl,True.intro⟩|exact⟨rfl,rfl,True.intro⟩|rfl|(simp only[List.length_set];first|omega|(refine⟨?_,?_⟩<;>omega)|(refine⟨?_,?_,?_⟩<;>omega))|(intro hg;(try simp only[bB]at hg);first|omega|(refine⟨?_,?_⟩<;>omega)|(refine⟨?_,?_,?_⟩<;>first|omega|(show _<_;(try simp only[List.length_set]);omega)|exact leT rfl))|(refine⟨?_,?_⟩<;>omega)|(refine⟨?_,?_,?_⟩<;>first|omega|(show _<_;(try simp only[List.length_set]);omega)|exact leT rfl)|(simp only[show rI.d=(0:Int)from rfl];omega));done));(conv=>whnf))))
  refine EvLoop.inv (α := Nat) (fun i => i ≤ n) (fun i => n - i) (fun i => [(29, [], .v (.int .i64 ((i : Int)))), (28, [], .v (.int .i64 ((n : Int)))), (10, [], .s 5 1 n n), (8, [], .p 4 0), (3, [], .p 1 0), (2, [], .v (.int .i64 (seed)))])
    (fun i => [⟨5, true, 3, 1, n, .rows Int rI (mixL F (fun _ => 0) n i)⟩, ⟨4, true, 32, 3, 1, .cs [.v (.int .i64 d.first), .s 2 1 lo.length p1, .s 3 1 hi.length p2]⟩, ⟨3, true, 3, 1, p2, .rows Int rI hi⟩, ⟨2, true, 3, 1, p1, .rows Int rI lo⟩, ⟨1, true, 27, 12, 1, .cs (dcS nm (.v (.slice A lb.length c)) d)⟩]) 6 0 (by omega) (Sub.of [] [] rfl ?_) ?_
  · (repeat' (refine And.intro ?_ ?_)) <;> first | rfl | exact True.intro | omega | exact hl1 | exact hl1.symm
  intro i hi0
  have hlj := mixL_len F (fun _ => 0) n i
  ((conv=>whnf);(repeat(refine And.intro ?_ ?_;(focus((first|omega|exact⟨rfl,True.intro⟩|exact⟨rfl,rfl,True.intro⟩|rfl|(simp only[List.length_set];first|omega|(refine⟨?_,?_⟩<;>omega)|(refine⟨?_,?_,?_⟩<;>omega))|(intro hg;(try simp only[bB]at hg);first|omega|(refine⟨?_,?_⟩<;>omega)|(refine⟨?_,?_,?_⟩<;>first|omega|(show _<_;(try simp only[List.length_set]);omega)|exact leT rfl))|(refine⟨?_,?_⟩<;>omega)|(refine⟨?_,?_,?_⟩<;>first|omega|(show _<_;(try simp only[List.length_set]);omega)|exact leT rfl)|(simp only[show rI.d=(0:Int)from rfl];omega));done));(conv=>whnf))))
  refine EvIf.split (fun g => ?_) (fun g => ?_)
  · simp only [decide_eq_true_eq] at g
    have bi : (-1099511627776 ≤ lo.getD (i : Int).toNat rI.d ∧ lo.getD (i : Int).toNat rI.d ≤ 1099511627776) ∧ -1099511627776 ≤ hi.getD (i : Int).toNat rI.d ∧ hi.getD (i : Int).toNat rI.d ≤ 1099511627776 := hcb i
    have hxy := hXY i (by omega)
    obtain ⟨X, hX⟩ : ∃ X, X = rndX d (fun i => lo.getD i 0) i (prevV d (fun i => lo.getD i 0) (fun i => hi.getD i 0) (rdG d seed) i) := ⟨_, rfl⟩
    obtain ⟨Y, hY⟩ : ∃ Y, Y = rndY d (fun i => hi.getD i 0) i (prevV d (fun i => lo.getD i 0) (fun i => hi.getD i 0) (rdG d seed) i) := ⟨_, rfl⟩
    have hFi : F i = X + rdG d seed i % (Y - X + 1) := by rw [hF, rndV_prev, hX, hY]; rfl
    rw [← hX, ← hY] at hxy
    have hlo : lo.getD (i : Int).toNat rI.d = lo.getD i 0 := rfl
    have hhi : hi.getD (i : Int).toNat rI.d = hi.getD i 0 := rfl
    have hpz : 0 < i → ((mixL F (fun _ => 0) n i).getD ((i : Int) - 1).toNat rI.d = F (i - 1) ∧ prevV d (fun i => lo.getD i 0) (fun i => hi.getD i 0) (rdG d seed) i = F (i - 1)) := fun h0 => by
      constructor
      · rw [show ((i : Int) - 1).toNat = i - 1 by omega, mixL_get _ _ _ _ _ _ (by omega), if_pos (by omega)]
      · unfold prevV
        rw [if_neg (by omega), hF]
    have hXb : -1099512676352 ≤ X ∧ X ≤ 1099512676352 ∧ -1099512676352 ≤ Y ∧ Y ≤ 1099512676352 := by
      by_cases h0 : i = 0
      · rw [hX, hY]
        unfold rndX rndY
        rw [if_pos h0, if_pos h0]
        dsimp only
        omega
      · have h1 := hFb (i - 1) (by omega)
        rw [hX, hY, (hpz (by omega)).2]
        unfold rndX rndY
        rw [if_neg h0, if_neg h0]
        dsimp only
        omega
    have bp : 0 < i → -1099511627776 ≤ (mixL F (fun _ => 0) n i).getD ((i : Int) - 1).toNat rI.d ∧ (mixL F (fun _ => 0) n i).getD ((i : Int) - 1).toNat rI.d ≤ 1099511627776 := fun h0 => by rw [(hpz h0).1]; exact hFb _ (by omega)
    ((conv=>whnf);(repeat(refine And.intro ?_ ?_;(focus((first|omega|exact⟨rfl,True.intro⟩|exact⟨rfl,rfl,True.intro⟩|rfl|(simp only[List.length_set];first|omega|(refine⟨?_,?_⟩<;>omega)|(refine⟨?_,?_,?_⟩<;>omega))|(intro hg;(try simp only[bB]at hg);first|omega|(refine⟨?_,?_⟩<;>omega)|(refine⟨?_,?_,?_⟩<;>first|omega|(show _<_;(try simp only[List.length_set]);omega)|exact leT rfl))|(refine⟨?_,?_⟩<;>omega)|(refine⟨?_,?_,?_⟩<;>first|omega|(show _<_;(try simp only[List.length_set]);omega)|exact leT rfl)|(simp only[show rI.d=(0:Int)from rfl];omega));done));(conv=>whnf))))
    (refine EvDraw.one (.q 0 (.q 1 (.q 2 (.q 3 (.q 4 (.q 5 (.q 6 (.q 7 (.q 8 (.q 9 (.q 10 (.q 11 (.z))))))))))))) (by kernel_rfl) ?_)
    ((conv=>whnf);(repeat(refine And.intro ?_ ?_;(focus((first|omega|exact⟨rfl,True.intro⟩|exact⟨rfl,rfl,True.intro⟩|rfl|(simp only[List.length_set];first|omega|(refine⟨?_,?_⟩<;>omega)|(refine⟨?_,?_,?_⟩<;>omega))|(intro hg;(try simp only[bB]at hg);first|omega|(refine⟨?_,?_⟩<;>omega)|(refine⟨?_,?_,?_⟩<;>first|omega|(show _<_;(try simp only[List.length_set]);omega)|exact leT rfl))|(refine⟨?_,?_⟩<;>omega)|(refine⟨?_,?_,?_⟩<;>first|omega|(show _<_;(try simp only[List.length_set]);omega)|exact leT rfl)|(simp only[show rI.d=(0:Int)from rfl];omega));done));(conv=>whnf))))
    refine EvIf.meet (α := Unit) (fun _ => True) (fun _ => [(29, [], .v (.int .i64 ((i : Int)))), (28, [], .v (.int .i64 ((n : Int)))), (10, [], .s 5 1 n n), (8, [], .p 4 0), (3, [], .p 1 0), (2, [], .v (.int .i64 (seed))), (11, [], .v (.int .i64 ((i : Int)))), (12, [], .v (.int .i64 (X))), (13, [], .v (.int .i64 (Y)))])
      (fun _ => [⟨5, true, 3, 1, n, .rows Int rI (mixL F (fun _ => 0) n i)⟩, ⟨4, true, 32, 3, 1, .cs [.v (.int .i64 d.first), .s 2 1 lo.length p1, .s 3 1 hi.length p2]⟩, ⟨3, true, 3, 1, p2, .rows Int rI hi⟩, ⟨2, true, 3, 1, p1, .rows Int rI lo⟩, ⟨1, true, 27, 12, 1, .cs (dcS nm (.v (.slice A lb.length c)) d)⟩]) 6 (fun g2 => ?_) (fun g2 => ?_) ?_
    · simp only [decide_eq_true_eq] at g2
      have h0 : 0 < i := by omega
      have b2 := bp h0
      have hX2 : X = max (lo.getD (i : Int).toNat rI.d) ((mixL F (fun _ => 0) n i).getD ((i : Int) - 1).toNat rI.d + d.down) := by
        rw [hX, (hpz h0).2, (hpz h0).1]; unfold rndX; rw [if_neg (by omega)]; rfl
      have hY2 : Y = min (hi.getD (i : Int).toNat rI.d) ((mixL F (fun _ => 0) n i).getD ((i : Int) - 1).toNat rI.d + d.up) := by
        rw [hY, (hpz h0).2, (hpz h0).1]; unfold rndY; rw [if_neg (by omega)]; rfl
      ((conv=>whnf);(repeat(refine And.intro ?_ ?_;(focus((first|omega|exact⟨rfl,True.intro⟩|exact⟨rfl,rfl,True.intro⟩|rfl|(simp only[List.length_set];first|omega|(refine⟨?_,?_⟩<;>omega)|(refine⟨?_,?_,?_⟩<;>omega))|(intro hg;(try simp only[bB]at hg);first|omega|(refine⟨?_,?_⟩<;>omega)|(refine⟨?_,?_,?_⟩<;>first|omega|(show _<_;(try simp only[List.length_set]);omega)|exact leT rfl))|(refine⟨?_,?_⟩<;>omega)|(refine⟨?_,?_,?_⟩<;>first|omega|(show _<_;(try simp only[List.length_set]);omega)|exact leT rfl)|(simp only[show rI.d=(0:Int)from rfl];omega));done));(conv=>whnf))))
      (refine EvDraw.one (.q 0 (.q 1 (.q 2 (.q 3 (.q 4 (.q 5 (.q 6 (.q 7 (.q 8 (.q 9 (.q 10 (.q 11 (.q 12 (.q 13 (.q 14 (.q 15 (.q 16 (.q 17 (.q 18 (.q 19 (.q 20 (.q 21 (.z))))))))))))))))))))))) (by kernel_rfl) ?_)
      ((conv=>whnf);(repeat(refine And.intro ?_ ?_;(focus((first|omega|exact⟨rfl,True.intro⟩|exact⟨rfl,rfl,True.intro⟩|rfl|(simp only[List.length_set];first|omega|(refine⟨?_,?_⟩<;>omega)|(refine⟨?_,?_,?_⟩<;>omega))|(intro hg;(try simp only[bB]at hg);first|omega|(refine⟨?_,?_⟩<;>omega)|(refine⟨?_,?_,?_⟩<;>first|omega|(show _<_;(try simp only[List.length_set]);omega)|exact leT rfl))|(refine⟨?_,?_⟩<;>omega)|(refine⟨?_,?_,?_⟩<;>first|omega|(show _<_;(try simp only[List.length_set]);omega)|exact leT rfl)|(simp only[show rI.d=(0:Int)from rfl];omega));done));(conv=>whnf))))
      refine Exists.intro () (And.intro trivial (Sub.of [] [] rfl ?_))
      (repeat' (refine And.intro ?_ ?_)) <;> first | rfl | exact True.intro | exact hX2 | exact hY2 | omega
    · simp only [decide_eq_false_iff_not] at g2
      have h0 : i = 0 := by omega
      have hX2 : X = lo.getD (i : Int).toNat rI.d := by rw [hX]; unfold rndX; rw [if_pos h0]; rfl
      have hY2 : Y = hi.getD (i : Int).toNat rI.d := by rw [hY]; unfold rndY; rw [if_pos h0]; rfl
      ((conv=>whnf);(repeat(refine And.intro ?_ ?_;(focus((first|omega|exact⟨rfl,True.intro⟩|exact⟨rfl,rfl,True.intro⟩|rfl|(simp only[List.length_set];first|omega|(refine⟨?_,?_⟩<;>omega)|(refine⟨?_,?_,?_⟩<;>omega))|(intro hg;(try simp only[bB]at hg);first|omega|(refine⟨?_,?_⟩<;>omega)|(refine⟨?_,?_,?_⟩<;>first|omega|(show _<_;(try simp only[List.length_set]);omega)|exact leT rfl))|(refine⟨?_,?_⟩<;>omega)|(refine⟨?_,?_,?_⟩<;>first|omega|(show _<_;(try simp only[List.length_set]);omega)|exact leT rfl)|(simp only[show rI.d=(0:Int)from rfl];omega));done));(conv=>whnf))))
      refine Exists.intro () (And.intro trivial (Sub.of [] [] rfl ?_))
      (repeat' (refine And.intro ?_ ?_)) <;> first | rfl | exact True.intro | exact hX2 | exact hY2 | omega
    intro _ _
    have hg0 := sumV_rng sHist [seed, d.first + (i : Int)]
    have hwr : IntKind.u64.wrap (Y - X + 1) = Y - X + 1 := u64_in _ (by omega)
    have hmod : (sumV sHist [seed, d.first + (i : Int)]).tmod (Y - X + 1) = rdG d seed i % (Y - X + 1) := Int.tmod_eq_emod_of_nonneg hg0.1
    have hm := mod_in (rdG d seed i) (Y - X) (by omega)
    rw [← hmod] at hm
    have g1 : (mixL F (fun _ => 0) n i).set i (X + (sumV sHist [seed, d.first + (i : Int)]).tmod (Y - X + 1)) = mixL F (fun _ => 0) n (i + 1) := by
      rw [hmod, ← hFi]
      exact mixL_set F _ _ _ (by omega)
    ((conv=>whnf);(repeat(refine And.intro ?_ ?_;(focus((first|omega|exact⟨rfl,True.intro⟩|exact⟨rfl,rfl,True.intro⟩|rfl|(simp only[List.length_set];first|omega|(refine⟨?_,?_⟩<;>omega)|(refine⟨?_,?_,?_⟩<;>omega))|(intro hg;(try simp only[bB]at hg);first|omega|(refine⟨?_,?_⟩<;>omega)|(refine⟨?_,?_,?_⟩<;>first|omega|(show _<_;(try simp only[List.length_set]);omega)|exact leT rfl))|(refine⟨?_,?_⟩<;>omega)|(refine⟨?_,?_,?_⟩<;>first|omega|(show _<_;(try simp only[List.length_set]);omega)|exact leT rfl)|(simp only[show rI.d=(0:Int)from rfl];omega));done));(conv=>whnf))))
    refine EvCall.plain Try.call87 (.v (.int .u64 (sumV sHist [seed, d.first + (i : Int)]))) rfl (fun ρ W hp => sum_s sHist _ [seed, d.first + (i : Int)] W (by decide) (hp.lit (R := rI) (ys := [seed, d.first + (i : Int)]) (n := 6) (sz := 1) (c := 2) rfl (by decide) (by simp) (by omega) rfl) (by simp) (by simp)) ?_
    ((conv=>whnf);(repeat(refine And.intro ?_ ?_;(focus((first|omega|exact⟨rfl,True.intro⟩|exact⟨rfl,rfl,True.intro⟩|rfl|(simp only[List.length_set];first|omega|(refine⟨?_,?_⟩<;>omega)|(refine⟨?_,?_,?_⟩<;>omega))|(intro hg;(try simp only[bB]at hg);first|omega|(refine⟨?_,?_⟩<;>omega)|(refine⟨?_,?_,?_⟩<;>first|omega|(show _<_;(try simp only[List.length_set]);omega)|exact leT rfl))|(refine⟨?_,?_⟩<;>omega)|(refine⟨?_,?_,?_⟩<;>first|omega|(show _<_;(try simp only[List.length_set]);omega)|exact leT rfl)|(simp only[show rI.d=(0:Int)from rfl];omega));done));(conv=>whnf))))
    rw [hwr]
    refine And.intro (by omega) ?_
    ((conv=>whnf);(repeat(refine And.intro ?_ ?_;(focus((first|omega|exact⟨rfl,True.intro⟩|exact⟨rfl,rfl,True.intro⟩|rfl|(simp only[List.length_set];first|omega|(refine⟨?_,?_⟩<;>omega)|(refine⟨?_,?_,?_⟩<;>omega))|(intro hg;(try simp only[bB]at hg);first|omega|(refine⟨?_,?_⟩<;>omega)|(refine⟨?_,?_,?_⟩<;>first|omega|(show _<_;(try simp only[List.length_set]);omega)|exact leT rfl))|(refine⟨?_,?_⟩<;>omega)|(refine⟨?_,?_,?_⟩<;>first|omega|(show _<_;(try simp only[List.length_set]);omega)|exact leT rfl)|(simp only[show rI.d=(0:Int)from rfl];omega));done));(conv=>whnf))))
    refine LoopI.back (i + 1) (by omega) (by omega) (Sub.of [] [] rfl ?_)
    ((repeat' (refine And.intro ?_ ?_)) <;> first | exact congrArg (Ct.rows Int rI) g1 | exact congrArg (Ct.rows Int rI) g1.symm | rfl | exact True.intro | omega)
  · simp only [decide_eq_false_iff_not] at g
    obtain rfl : i = n := by omega
    have hfin : mixL F (fun _ => 0) i i = rndL d (fun i => lo.getD i 0) (fun i => hi.getD i 0) (rdG d seed) i := by rw [mixL_full, hF]; rfl
    ((conv=>whnf);(repeat(refine And.intro ?_ ?_;(focus((first|omega|exact⟨rfl,True.intro⟩|exact⟨rfl,rfl,True.intro⟩|rfl|(simp only[List.length_set];first|omega|(refine⟨?_,?_⟩<;>omega)|(refine⟨?_,?_,?_⟩<;>omega))|(intro hg;(try simp only[bB]at hg);first|omega|(refine⟨?_,?_⟩<;>omega)|(refine⟨?_,?_,?_⟩<;>first|omega|(show _<_;(try simp only[List.length_set]);omega)|exact leT rfl))|(refine⟨?_,?_⟩<;>omega)|(refine⟨?_,?_,?_⟩<;>first|omega|(show _<_;(try simp only[List.length_set]);omega)|exact leT rfl)|(simp only[show rI.d=(0:Int)from rfl];omega));done));(conv=>whnf))))
    exact EvRet.rowsE (R := rI) (by rw [rndL_len]) (by rw [rndL_len]; omega) hfin rfl rfl
end Go.Proofs.Ytnoenmacakbhdaa
