
/- Histories: advance, Count, the example, walked. -/
import Derived.Test.YtnoenmacakbhdaaHb
namespace Go.Proofs.Ytnoenmacakbhdaa
open Go.RowKit
set_option linter.unusedVariables false
set_option linter.unusedSimpArgs false

/-! prefix sums -/
def sumT (xs : List Int) : Nat → Int
  | 0 => 0
  | k + 1 => sumT xs k + xs.getD k 0
def Cnt (xs : List Int) : Prop := ∀ k, 0 ≤ xs.getD k 0 ∧ xs.getD k 0 ≤ 10000
theorem sumT_bd {xs : List Int} (h : Cnt xs) : ∀ k : Nat, 0 ≤ sumT xs k ∧ sumT xs k ≤ 10000 * (k : Int)
  | 0 => by simp [sumT]
  | k + 1 => by
    have := sumT_bd h k
    have := h k
    simp only [sumT]
    omega
theorem sumT_le {xs : List Int} (h : Cnt xs) (a : Nat) : ∀ k, sumT xs a ≤ sumT xs (a + k)
  | 0 => Int.le_refl _
  | k + 1 => by
    have := sumT_le h a k
    have := h (a + k)
    rw [show a + (k + 1) = a + k + 1 by omega]
    simp only [sumT]
    omega
theorem sumT_mono {xs : List Int} (h : Cnt xs) {a b : Nat} (hab : a ≤ b) : sumT xs a ≤ sumT xs b := by
  have := sumT_le h a (b - a)
  rwa [show a + (b - a) = b by omega] at this
def smL (xs : List Int) : List Int := (List.range (xs.length + 1)).map (sumT xs)
theorem smL_len (xs : List Int) : (smL xs).length = xs.length + 1 := by simp [smL]
theorem smL_get {xs : List Int} {k : Nat} (h : k ≤ xs.length) : (smL xs).getD k 0 = sumT xs k := map_get _ _ _ (by omega)
theorem smL_bd {xs : List Int} (h : Cnt xs) (hl : xs.length ≤ 100000) (k : Nat) : 0 ≤ (smL xs).getD k 0 ∧ (smL xs).getD k 0 ≤ 1000000000 := by
  by_cases hk : k ≤ xs.length
  · rw [smL_get hk]
    have := sumT_bd h k
    omega
  · rw [getD_out (by rw [smL_len]; omega)]
    omega
def advFrom (d : Dc) (L1 L0 : Int) (j : Int) : Int := max (L1 + j - d.up) L0 - L0
def advTo (d : Dc) (L1 L0 H0 : Int) (j : Int) : Int := min (L1 + j - d.down) H0 - L0
def advN (d : Dc) (L1 L0 H0 : Int) (cs : List Int) (most : Int) (j : Nat) : Int :=
  if advFrom d L1 L0 j ≤ advTo d L1 L0 H0 j then min (sumT cs (advTo d L1 L0 H0 j + 1).toNat - sumT cs (advFrom d L1 L0 j).toNat) most else 0
def advL (d : Dc) (L1 H1 L0 H0 : Int) (cs : List Int) (most : Int) : List Int := (List.range (H1 - L1 + 1).toNat).map (advN d L1 L0 H0 cs most)
theorem advL_len (d : Dc) (L1 H1 L0 H0 : Int) (cs : List Int) (most : Int) : (advL d L1 H1 L0 H0 cs most).length = (H1 - L1 + 1).toNat := by simp [advL]
theorem advN_bd {d : Dc} {L1 L0 H0 : Int} {cs : List Int} {most : Int} (h : Cnt cs) (hm : 0 ≤ most ∧ most ≤ 10000) (j : Nat) : 0 ≤ advN d L1 L0 H0 cs most j ∧ advN d L1 L0 H0 cs most j ≤ 10000 := by
  unfold advN
  split
  · rename_i hft
    have := sumT_mono h (a := (advFrom d L1 L0 j).toNat) (b := (advTo d L1 L0 H0 j + 1).toNat) (by omega)
    omega
  · omega
theorem advL_cnt {d : Dc} {L1 H1 L0 H0 : Int} {cs : List Int} {most : Int} (h : Cnt cs) (hm : 0 ≤ most ∧ most ≤ 10000) : Cnt (advL d L1 H1 L0 H0 cs most) := by
  intro k
  by_cases hk : k < (H1 - L1 + 1).toNat
  · have e : (advL d L1 H1 L0 H0 cs most).getD k 0 = advN d L1 L0 H0 cs most k := map_get _ _ _ hk
    rw [e]
    exact advN_bd h hm k
  · rw [getD_out (by rw [advL_len]; omega)]
    omega
set_option maxRecDepth 20000 in
theorem advance_s (nm : ByteArray) (A : Option Addr) (ln c : Nat) (d : Dc) (e : Env12) (A1 A2 : Option Addr) (n1 n2 c1 c2 : Nat) (i : Nat) (v : Value) (cs : List Int) (most : Int) (w : World) (hd : DcS d) (h1 : RowsIn rI w (.slice A1 n1 c1) e.lo) (h2 : RowsIn rI w (.slice A2 n2 c2) e.hi) (h3 : RowsIn rI w v cs)
    (hi : 0 < i) (hil : i < e.lo.length) (hih : i < e.hi.length) (hll : e.lo.length ≤ 4096)
    (hb : ∀ i, (-1099511627776 ≤ e.lo.getD i 0 ∧ e.lo.getD i 0 ≤ 1099511627776) ∧ -1099511627776 ≤ e.hi.getD i 0 ∧ e.hi.getD i 0 ≤ 1099511627776)
    (hw : e.lo.getD i 0 ≤ e.hi.getD i 0 ∧ e.hi.getD i 0 - e.lo.getD i 0 ≤ 20000) (hcl : (cs.length : Int) = e.hi.getD (i - 1) 0 - e.lo.getD (i - 1) 0 + 1) (hc : Cnt cs) (hcl2 : cs.length ≤ 20000) (hm : 0 ≤ most ∧ most ≤ 10000) :
    Con Try.prog 79 #[.agg (dcCells nm (.slice A ln c) d), envV e.f (.slice A1 n1 c1) (.slice A2 n2 c2), .int .i64 (i : Int), v, .int .i64 most] w (RetRows rI 3 w (advL d (e.lo.getD i 0) (e.hi.getD i 0) (e.lo.getD (i - 1) 0) (e.hi.getD (i - 1) 0) cs most)) := by
  obtain ⟨_, _, ee, e1, e2⟩ := h1.form
  simp at ee
  obtain ⟨rfl, rfl, rfl⟩ := ee
  obtain ⟨_, _, ee, e3, e4⟩ := h2.form
  simp at ee
  obtain ⟨rfl, rfl, rfl⟩ := ee
  obtain ⟨A3, c3, rfl, e5, e6⟩ := h3.form
  obtain ⟨q1, q2, q3, q4⟩ := hd
  have hn1 : (cs.length : Int) + 1 = ((cs.length + 1 : Nat) : Int) := by omega
  have hi1 : ((i : Int) - 1).toNat = i - 1 := by omega
  refine enter tabOk mixed Try.func79 rfl Try.ntmps79 Try.results79 [.a (dcS nm (.v (.slice A ln c)) d), .a [.v (.int .i64 e.f), .s 0 1 e.lo.length c1, .s 1 1 e.hi.length c2], .v (.int .i64 (i : Int)), .s 2 1 cs.length c3, .v (.int .i64 most)] (fun n => if n = 0 then A1 else if n = 1 then A2 else A3) [⟨2, false, 3, 1, c3, .rows Int rI (cs)⟩, ⟨1, false, 3, 1, c2, .rows Int rI (e.hi)⟩, ⟨0, false, 3, 1, c1, .rows Int rI (e.lo)⟩] 3 rfl rfl (.ro (.ro (.ro (hp0 _ _ _) _ rfl rfl rfl (ro_rows h1 rfl _)) _ rfl rfl rfl (ro_rows h2 rfl _)) _ rfl rfl rfl (ro_rows h3 rfl _)) ?_
  ((conv=>whnf);repeat(refine And.intro (by omega) ?_;(conv=>whnf)))
  rw [hn1]
  refine EvMake.full (R := rI) tyok22 rfl tyok3 rfl (by decide) 0 rfl (cs.length + 1) (by show 8 * (cs.length + 1) ≤ _; omega) (by omega) ?_
  have hstart : List.replicate (cs.length + 1) (0 : Int) = mixL (sumT cs) (fun _ => 0) (cs.length + 1) 1 := by
    rw [mixL_rep (sumT cs) (fun _ => 0) (cs.length + 1) 0 (fun _ _ => rfl), ← mixL_set _ _ _ _ (show 0 < cs.length + 1 by omega)]
    refine eq_of_getDI (by simp) (fun j hj => ?_)
    rw [mixL_len] at hj
    by_cases h0 : j = 0
    · subst h0
      rw [mixL_get _ _ _ _ _ _ hj, List.getD_eq_getElem?_getD, List.getElem?_set_self (by rw [mixL_len]; exact hj)]
      simp [sumT]
    · rw [List.getD_eq_getElem?_getD, List.getD_eq_getElem?_getD, List.getElem?_set_ne (by omega)]
  rw [hstart]
  ((conv=>whnf);repeat(refine And.intro (by omega) ?_;(conv=>whnf)))
  refine EvLoop.inv (α := Nat) (fun j => j ≤ cs.length) (fun j => cs.length - j) (fun j => [(25, [], .v (.int .i64 ((j : Int)))), (24, [], .v (.int .i64 ((cs.length : Int)))), (23, [], .s 2 1 cs.length c3), (11, [], .s 5 1 (cs.length + 1) (cs.length + 1)), (2, [], .v (.int .i64 ((i : Int)))), (4, [], .v (.int .i64 (most))), (5, [], .p 3 0), (6, [], .p 4 0)])
    (fun j => [⟨5, true, 3, 1, cs.length + 1, .rows Int rI (mixL (sumT cs) (fun _ => 0) (cs.length + 1) (j + 1))⟩, ⟨4, true, 32, 3, 1, .cs [.v (.int .i64 e.f), .s 0 1 e.lo.length c1, .s 1 1 e.hi.length c2]⟩, ⟨3, true, 27, 12, 1, .cs (dcS nm (.v (.slice A ln c)) d)⟩, ⟨2, false, 3, 1, c3, .rows Int rI cs⟩, ⟨1, false, 3, 1, c2, .rows Int rI e.hi⟩, ⟨0, false, 3, 1, c1, .rows Int rI e.lo⟩]) 6 0 (by omega) (Sub.of [] [] rfl ?_) ?_
  · ((repeat' (refine And.intro ?_ ?_)) <;> first | rfl | exact True.intro | omega)
  intro j hj
  have hlj := mixL_len (sumT cs) (fun _ => 0) (cs.length + 1) (j + 1)
  ((conv=>whnf);repeat(refine And.intro (by omega) ?_;(conv=>whnf)))
  refine EvIf.split (fun g => ?_) (fun g => ?_)
  · simp only [decide_eq_true_eq] at g
    have hgj : (mixL (sumT cs) (fun _ => 0) (cs.length + 1) (j + 1)).getD j 0 = sumT cs j := by rw [mixL_get _ _ _ _ _ _ (by omega), if_pos (by omega)]
    have hbj := sumT_bd hc j
    have hcj := hc j
    have hbj' : 0 ≤ (mixL (sumT cs) (fun _ => 0) (cs.length + 1) (j + 1)).getD (j : Int).toNat rI.d ∧ (mixL (sumT cs) (fun _ => 0) (cs.length + 1) (j + 1)).getD (j : Int).toNat rI.d ≤ 1000000000 := by
      have : (mixL (sumT cs) (fun _ => 0) (cs.length + 1) (j + 1)).getD (j : Int).toNat rI.d = sumT cs j := hgj
      rw [this]; omega
    have hcj' : 0 ≤ cs.getD (j : Int).toNat rI.d ∧ cs.getD (j : Int).toNat rI.d ≤ 10000 := hcj
    have g1 : (mixL (sumT cs) (fun _ => 0) (cs.length + 1) (j + 1)).set (j + 1) ((mixL (sumT cs) (fun _ => 0) (cs.length + 1) (j + 1)).getD j 0 + cs.getD j 0) = mixL (sumT cs) (fun _ => 0) (cs.length + 1) (j + 1 + 1) := by
      rw [hgj]
      exact mixL_set (sumT cs) _ _ _ (by omega)
    ((conv=>whnf);(repeat(refine And.intro ?_ ?_;(focus((first|omega|exact⟨rfl,True.intro⟩|exact⟨rfl,rfl,True.intro⟩|rfl|(simp only[List.length_set];first|omega|(refine⟨?_,?_⟩<;>omega)|(refine⟨?_,?_,?_⟩<;>omega))|(intro hg;(try simp only[bB]at hg);first|omega|(refine⟨?_,?_⟩<;>omega)|(refine⟨?_,?_,?_⟩<;>first|omega|(show _<_;(try simp only[List.length_set]);omega)|exact leT rfl))|(refine⟨?_,?_⟩<;>omega)|(refine⟨?_,?_,?_⟩<;>first|omega|(show _<_;(try simp only[List.length_set]);omega)|exact leT rfl)|(simp only[show rI.d=(0:Int)from rfl];omega));done));(conv=>whnf))))
    refine LoopI.back (j + 1) (by omega) (by omega) (Sub.of [] [] rfl ?_)
    ((repeat' (refine And.intro ?_ ?_)) <;> first | exact congrArg (Ct.rows Int rI) g1 | exact congrArg (Ct.rows Int rI) g1.symm | rfl | exact True.intro | omega)
  simp only [decide_eq_false_iff_not] at g
  obtain rfl : j = cs.length := by omega
  rw [mixL_full]
  have hsm : (List.range (cs.length + 1)).map (sumT cs) = smL cs := rfl
  rw [hsm]
  have hsl := smL_len cs
  obtain ⟨m, hm'⟩ : ∃ m : Nat, (e.hi.getD i 0 - e.lo.getD i 0 + 1) = (m : Int) := ⟨(e.hi.getD i 0 - e.lo.getD i 0 + 1).toNat, by omega⟩
  have hm2 : e.hi.getD (i : Int).toNat rI.d - e.lo.getD (i : Int).toNat rI.d + 1 = (m : Int) := hm'
  have bi : (-1099511627776 ≤ e.lo.getD (i : Int).toNat rI.d ∧ e.lo.getD (i : Int).toNat rI.d ≤ 1099511627776) ∧ -1099511627776 ≤ e.hi.getD (i : Int).toNat rI.d ∧ e.hi.getD (i : Int).toNat rI.d ≤ 1099511627776 := hb i
  have bp : (-1099511627776 ≤ e.lo.getD ((i : Int) - 1).toNat rI.d ∧ e.lo.getD ((i : Int) - 1).toNat rI.d ≤ 1099511627776) ∧ -1099511627776 ≤ e.hi.getD ((i : Int) - 1).toNat rI.d ∧ e.hi.getD ((i : Int) - 1).toNat rI.d ≤ 1099511627776 := hb _
  ((conv=>whnf);repeat(refine And.intro (by omega) ?_;(conv=>whnf)))
  (refine EvDraw.one (.q 0 (.q 1 (.q 2 (.q 3 (.q 4 (.q 5 (.q 6 (.q 7 (.q 8 (.q 9 (.q 10 (.q 11 (.n 12 false (.q 13 (.z)) (.e)))))))))))))) (by kernel_rfl) ?_)
  ((conv=>whnf);(repeat(refine And.intro ?_ ?_;(focus((first|omega|exact⟨rfl,True.intro⟩|exact⟨rfl,rfl,True.intro⟩|rfl|(simp only[List.length_set];first|omega|(refine⟨?_,?_⟩<;>omega)|(refine⟨?_,?_,?_⟩<;>omega))|(intro hg;(try simp only[bB]at hg);first|omega|(refine⟨?_,?_⟩<;>omega)|(refine⟨?_,?_,?_⟩<;>first|omega|(show _<_;(try simp only[List.length_set]);omega)|exact leT rfl))|(refine⟨?_,?_⟩<;>omega)|(refine⟨?_,?_,?_⟩<;>first|omega|(show _<_;(try simp only[List.length_set]);omega)|exact leT rfl)|(simp only[show rI.d=(0:Int)from rfl];omega));done));(conv=>whnf))))
  rw [hm2]
  refine EvMake.full (R := rI) tyok22 rfl tyok3 rfl (by decide) 0 rfl m (by show 8 * m ≤ _; omega) (by omega) ?_
  obtain ⟨F, hF⟩ : ∃ F, F = advN d (e.lo.getD i 0) (e.lo.getD (i - 1) 0) (e.hi.getD (i - 1) 0) cs most := ⟨_, rfl⟩
  rw [mixL_rep F (fun _ => 0) m 0 (fun _ _ => rfl)]
  ((conv=>whnf);repeat(refine And.intro (by omega) ?_;(conv=>whnf)))
  refine EvLoop.inv (α := Nat) (fun j => j ≤ m) (fun j => m - j) (fun j => [(56, [], .v (.int .i64 ((j : Int)))), (55, [], .v (.int .i64 ((m : Int)))), (14, [], .s 6 1 m m), (11, [], .s 5 1 (cs.length + 1) (cs.length + 1)), (2, [], .v (.int .i64 ((i : Int)))), (4, [], .v (.int .i64 (most))), (5, [], .p 3 0), (6, [], .p 4 0)])
    (fun j => [⟨6, true, 3, 1, m, .rows Int rI (mixL F (fun _ => 0) m j)⟩, ⟨5, true, 3, 1, cs.length + 1, .rows Int rI (smL cs)⟩, ⟨4, true, 32, 3, 1, .cs [.v (.int .i64 e.f), .s 0 1 e.lo.length c1, .s 1 1 e.hi.length c2]⟩, ⟨3, true, 27, 12, 1, .cs (dcS nm (.v (.slice A ln c)) d)⟩, ⟨1, false, 3, 1, c2, .rows Int rI e.hi⟩, ⟨0, false, 3, 1, c1, .rows Int rI e.lo⟩]) 7 0 (by omega) (Sub.of [] [] rfl ?_) ?_
  · ((repeat' (refine And.intro ?_ ?_)) <;> first | rfl | exact True.intro | omega)
  intro j hj
  have hlj := mixL_len F (fun _ => 0) m j
  ((conv=>whnf);repeat(refine And.intro (by omega) ?_;(conv=>whnf)))
  refine EvIf.split (fun g => ?_) (fun g => ?_)
  · simp only [decide_eq_true_eq] at g
    have hdef : advFrom d (e.lo.getD i 0) (e.lo.getD (i - 1) 0) j = max (e.lo.getD i 0 + j - d.up) (e.lo.getD (i - 1) 0) - e.lo.getD (i - 1) 0 := rfl
    have hdeft : advTo d (e.lo.getD i 0) (e.lo.getD (i - 1) 0) (e.hi.getD (i - 1) 0) j = min (e.lo.getD i 0 + j - d.down) (e.hi.getD (i - 1) 0) - e.lo.getD (i - 1) 0 := rfl
    ((conv=>whnf);(repeat(refine And.intro ?_ ?_;(focus((first|omega|exact⟨rfl,True.intro⟩|exact⟨rfl,rfl,True.intro⟩|rfl|(simp only[List.length_set];first|omega|(refine⟨?_,?_⟩<;>omega)|(refine⟨?_,?_,?_⟩<;>omega))|(intro hg;(try simp only[bB]at hg);first|omega|(refine⟨?_,?_⟩<;>omega)|(refine⟨?_,?_,?_⟩<;>first|omega|(show _<_;(try simp only[List.length_set]);omega)|exact leT rfl))|(refine⟨?_,?_⟩<;>omega)|(refine⟨?_,?_,?_⟩<;>first|omega|(show _<_;(try simp only[List.length_set]);omega)|exact leT rfl)|(simp only[show rI.d=(0:Int)from rfl];omega));done));(conv=>whnf))))
    (refine EvDraw.one (.q 0 (.q 1 (.q 2 (.q 3 (.q 4 (.q 5 (.q 6 (.q 7 (.q 8 (.q 9 (.q 10 (.q 11 (.q 12 (.q 13 (.q 14 (.q 15 (.q 16 (.q 17 (.q 18 (.z)))))))))))))))))))) (by kernel_rfl) ?_)
    ((conv=>whnf);(repeat(refine And.intro ?_ ?_;(focus((first|omega|exact⟨rfl,True.intro⟩|exact⟨rfl,rfl,True.intro⟩|rfl|(simp only[List.length_set];first|omega|(refine⟨?_,?_⟩<;>omega)|(refine⟨?_,?_,?_⟩<;>omega))|(intro hg;(try simp only[bB]at hg);first|omega|(refine⟨?_,?_⟩<;>omega)|(refine⟨?_,?_,?_⟩<;>first|omega|(show _<_;(try simp only[List.length_set]);omega)|exact leT rfl))|(refine⟨?_,?_⟩<;>omega)|(refine⟨?_,?_,?_⟩<;>first|omega|(show _<_;(try simp only[List.length_set]);omega)|exact leT rfl)|(simp only[show rI.d=(0:Int)from rfl];omega));done));(conv=>whnf))))
    (refine EvDraw.one (.q 0 (.q 1 (.q 2 (.q 3 (.q 4 (.q 5 (.q 6 (.q 7 (.q 8 (.q 9 (.q 10 (.q 11 (.q 12 (.q 13 (.q 14 (.q 15 (.q 16 (.q 17 (.q 18 (.z)))))))))))))))))))) (by kernel_rfl) ?_)
    ((conv=>whnf);(repeat(refine And.intro ?_ ?_;(focus((first|omega|exact⟨rfl,True.intro⟩|exact⟨rfl,rfl,True.intro⟩|rfl|(simp only[List.length_set];first|omega|(refine⟨?_,?_⟩<;>omega)|(refine⟨?_,?_,?_⟩<;>omega))|(intro hg;(try simp only[bB]at hg);first|omega|(refine⟨?_,?_⟩<;>omega)|(refine⟨?_,?_,?_⟩<;>first|omega|(show _<_;(try simp only[List.length_set]);omega)|exact leT rfl))|(refine⟨?_,?_⟩<;>omega)|(refine⟨?_,?_,?_⟩<;>first|omega|(show _<_;(try simp only[List.length_set]);omega)|exact leT rfl)|(simp only[show rI.d=(0:Int)from rfl];omega));done));(conv=>whnf))))
    have hx1 : max (e.lo.getD (i : Int).toNat rI.d + (j : Int) - d.up) (e.lo.getD ((i : Int) - 1).toNat rI.d) - e.lo.getD ((i : Int) - 1).toNat rI.d = advFrom d (e.lo.getD i 0) (e.lo.getD (i - 1) 0) j := by
      rw [hi1]; rfl
    have hx2 : min (e.lo.getD (i : Int).toNat rI.d + (j : Int) - d.down) (e.hi.getD ((i : Int) - 1).toNat rI.d) - e.lo.getD ((i : Int) - 1).toNat rI.d = advTo d (e.lo.getD i 0) (e.lo.getD (i - 1) 0) (e.hi.getD (i - 1) 0) j := by
      rw [hi1]; rfl
    simp only [hx1, hx2]
    have hFj : F j = if advFrom d (e.lo.getD i 0) (e.lo.getD (i - 1) 0) j ≤ advTo d (e.lo.getD i 0) (e.lo.getD (i - 1) 0) (e.hi.getD (i - 1) 0) j then min (sumT cs (advTo d (e.lo.getD i 0) (e.lo.getD (i - 1) 0) (e.hi.getD (i - 1) 0) j + 1).toNat - sumT cs (advFrom d (e.lo.getD i 0) (e.lo.getD (i - 1) 0) j).toNat) most else 0 := by rw [hF]; rfl
    have k1 : 0 ≤ advFrom d (e.lo.getD i 0) (e.lo.getD (i - 1) 0) j := by rw [hdef]; omega
    have k2 : advTo d (e.lo.getD i 0) (e.lo.getD (i - 1) 0) (e.hi.getD (i - 1) 0) j ≤ (cs.length : Int) - 1 := by rw [hdeft]; omega
    generalize advFrom d (e.lo.getD i 0) (e.lo.getD (i - 1) 0) j = fr at *
    generalize advTo d (e.lo.getD i 0) (e.lo.getD (i - 1) 0) (e.hi.getD (i - 1) 0) j = tq at *
    refine EvIf.split (fun g2 => ?_) (fun g2 => ?_)
    · simp only [decide_eq_true_eq] at g2
      rw [if_pos g2] at hFj
      have s1 : 0 ≤ (smL cs).getD (tq + 1).toNat rI.d ∧ (smL cs).getD (tq + 1).toNat rI.d ≤ 1000000000 := smL_bd hc (by omega) _
      have s2 : 0 ≤ (smL cs).getD fr.toNat rI.d ∧ (smL cs).getD fr.toNat rI.d ≤ 1000000000 := smL_bd hc (by omega) _
      have s3 : (smL cs).getD (tq + 1).toNat 0 = sumT cs (tq + 1).toNat := smL_get (by omega)
      have s4 : (smL cs).getD fr.toNat 0 = sumT cs fr.toNat := smL_get (by omega)
      have g1 : (mixL F (fun _ => 0) m j).set j (min ((smL cs).getD (tq + 1).toNat 0 - (smL cs).getD fr.toNat 0) most) = mixL F (fun _ => 0) m (j + 1) := by
        rw [s3, s4, ← hFj]
        exact mixL_set F _ _ _ (by omega)
      ((conv=>whnf);repeat(refine And.intro (by omega) ?_;(conv=>whnf)))
      (refine EvDraw.one (.q 0 (.q 1 (.q 2 (.q 3 (.q 4 (.q 5 (.q 6 (.q 7 (.q 8 (.q 9 (.q 10 (.q 11 (.q 12 (.q 13 (.q 14 (.n 15 true (.z) (.e))))))))))))))))) (by kernel_rfl) ?_)
      ((conv=>whnf);(repeat(refine And.intro ?_ ?_;(focus((first|omega|exact⟨rfl,True.intro⟩|exact⟨rfl,rfl,True.intro⟩|rfl|(simp only[List.length_set];first|omega|(refine⟨?_,?_⟩<;>omega)|(refine⟨?_,?_,?_⟩<;>omega))|(intro hg;(try simp only[bB]at hg);first|omega|(refine⟨?_,?_⟩<;>omega)|(refine⟨?_,?_,?_⟩<;>first|omega|(show _<_;(try simp only[List.length_set]);omega)|exact leT rfl))|(refine⟨?_,?_⟩<;>omega)|(refine⟨?_,?_,?_⟩<;>first|omega|(show _<_;(try simp only[List.length_set]);omega)|exact leT rfl)|(simp only[show rI.d=(0:Int)from rfl];omega));done));(conv=>whnf))))
      refine LoopI.back (j + 1) (by omega) (by omega) (Sub.of [] [] rfl ?_)
      ((repeat' (refine And.intro ?_ ?_)) <;> first | exact congrArg (Ct.rows Int rI) g1 | exact congrArg (Ct.rows Int rI) g1.symm | rfl | exact True.intro | omega)
    · simp only [decide_eq_false_iff_not] at g2
      rw [if_neg g2] at hFj
      have g1 : mixL F (fun _ => 0) m j = mixL F (fun _ => 0) m (j + 1) := mixL_congr _ _ _ _ _ _ _ (fun i hi => by
        by_cases hij : i = j
        · subst hij; rw [if_neg (by omega), if_pos (by omega), hFj]
        · by_cases h1 : i < j
          · rw [if_pos h1, if_pos (by omega)]
          · rw [if_neg h1, if_neg (by omega)])
      ((conv=>whnf);repeat(refine And.intro (by omega) ?_;(conv=>whnf)))
      refine LoopI.back (j + 1) (by omega) (by omega) (Sub.of [] [] rfl ?_)
      ((repeat' (refine And.intro ?_ ?_)) <;> first | exact congrArg (Ct.rows Int rI) g1 | exact congrArg (Ct.rows Int rI) g1.symm | rfl | exact True.intro | omega)
  · simp only [decide_eq_false_iff_not] at g
    obtain rfl : j = m := by omega
    rw [mixL_full]
    have hfin : (List.range j).map F = advL d (e.lo.getD i 0) (e.hi.getD i 0) (e.lo.getD (i - 1) 0) (e.hi.getD (i - 1) 0) cs most := by
      rw [hF]
      unfold advL
      rw [show (e.hi.getD i 0 - e.lo.getD i 0 + 1).toNat = j by omega]
    ((conv=>whnf);repeat(refine And.intro (by omega) ?_;(conv=>whnf)))
    exact EvRet.rows (R := rI) (by rw [advL_len]; omega) (by rw [advL_len]; omega) hfin rfl
end Go.Proofs.Ytnoenmacakbhdaa
