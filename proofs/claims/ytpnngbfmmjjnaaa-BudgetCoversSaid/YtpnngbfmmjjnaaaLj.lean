
/- Lossy steps: bands.with, walked. -/
import Derived.Test.YtpnngbfmmjjnaaaLe
namespace Go.Proofs.Ytpnngbfmmjjnaaa
open Go.RowKit
set_option linter.unusedVariables false
set_option linter.unusedSimpArgs false

theorem clonei_s (v : Value) (l : List Int) (w : World) (hv : RowsIn rI w v l) (hn : l.length ≤ 2000000) : Con Try.prog 83 #[v] w (RetRows rI 3 w l) := by
  obtain ⟨A1, c1, rfl, e1, e2⟩ := hv.form
  cases A1 with
  | none =>
    have hl : l = [] := by
      obtain ⟨A, c, e, _, _, _, h4⟩ := hv
      rcases Nat.eq_zero_or_pos l.length with h | h
      · exact List.eq_nil_of_length_eq_zero h
      · obtain ⟨b, off, hA, _⟩ := h4 h
        simp at e
        rw [hA] at e
        cases e.1
    refine enter tabOk mixed Try.func83 rfl Try.ntmps83 Try.results83 [.v (.slice none l.length c1)] (fun _ => none) [] 0 rfl rfl (hp0 _ _ _) ?_
    ((conv=>whnf);(repeat(refine And.intro ?_ ?_;(focus((first|omega|exact⟨rfl,True.intro⟩|exact⟨rfl,rfl,True.intro⟩|rfl|(simp only[List.length_set];first|omega|(refine⟨?_,?_⟩<;>omega)|(refine⟨?_,?_,?_⟩<;>omega))|(intro hg;(try simp only[bB]at hg);first|omega|(refine⟨?_,?_⟩<;>omega)|(refine⟨?_,?_,?_⟩<;>first|omega|(show _<_;(try simp only[List.length_set]);omega)|exact leT rfl))|(refine⟨?_,?_⟩<;>omega)|(refine⟨?_,?_,?_⟩<;>first|omega|(show _<_;(try simp only[List.length_set]);omega)|exact leT rfl)|(simp only[show rI.d=(0:Int)from rfl];omega));done));(conv=>whnf))))
    refine EvIf.pos rfl ?_
    ((conv=>whnf);(repeat(refine And.intro ?_ ?_;(focus((first|omega|exact⟨rfl,True.intro⟩|exact⟨rfl,rfl,True.intro⟩|rfl|(simp only[List.length_set];first|omega|(refine⟨?_,?_⟩<;>omega)|(refine⟨?_,?_,?_⟩<;>omega))|(intro hg;(try simp only[bB]at hg);first|omega|(refine⟨?_,?_⟩<;>omega)|(refine⟨?_,?_,?_⟩<;>first|omega|(show _<_;(try simp only[List.length_set]);omega)|exact leT rfl))|(refine⟨?_,?_⟩<;>omega)|(refine⟨?_,?_,?_⟩<;>first|omega|(show _<_;(try simp only[List.length_set]);omega)|exact leT rfl)|(simp only[show rI.d=(0:Int)from rfl];omega));done));(conv=>whnf))))
    exact EvRet.rows_nil hl
  | some B =>
    refine enter tabOk mixed Try.func83 rfl Try.ntmps83 Try.results83 [.v (.slice (some B) l.length c1)] (fun _ => none) [] 0 rfl rfl (hp0 _ _ _) ?_
    ((conv=>whnf);(repeat(refine And.intro ?_ ?_;(focus((first|omega|exact⟨rfl,True.intro⟩|exact⟨rfl,rfl,True.intro⟩|rfl|(simp only[List.length_set];first|omega|(refine⟨?_,?_⟩<;>omega)|(refine⟨?_,?_,?_⟩<;>omega))|(intro hg;(try simp only[bB]at hg);first|omega|(refine⟨?_,?_⟩<;>omega)|(refine⟨?_,?_,?_⟩<;>first|omega|(show _<_;(try simp only[List.length_set]);omega)|exact leT rfl))|(refine⟨?_,?_⟩<;>omega)|(refine⟨?_,?_,?_⟩<;>first|omega|(show _<_;(try simp only[List.length_set]);omega)|exact leT rfl)|(simp only[show rI.d=(0:Int)from rfl];omega));done));(conv=>whnf))))
    refine EvIf.neg rfl ?_
    ((conv=>whnf);(repeat(refine And.intro ?_ ?_;(focus((first|omega|exact⟨rfl,True.intro⟩|exact⟨rfl,rfl,True.intro⟩|rfl|(simp only[List.length_set];first|omega|(refine⟨?_,?_⟩<;>omega)|(refine⟨?_,?_,?_⟩<;>omega))|(intro hg;(try simp only[bB]at hg);first|omega|(refine⟨?_,?_⟩<;>omega)|(refine⟨?_,?_,?_⟩<;>first|omega|(show _<_;(try simp only[List.length_set]);omega)|exact leT rfl))|(refine⟨?_,?_⟩<;>omega)|(refine⟨?_,?_,?_⟩<;>first|omega|(show _<_;(try simp only[List.length_set]);omega)|exact leT rfl)|(simp only[show rI.d=(0:Int)from rfl];omega));done));(conv=>whnf))))
    refine EvBi.recast (n := 0) rfl (.rows Int rI []) (fun _ => rfl) rfl ?_
    refine EvBi.append (R := rI) (xs := []) tyok22 rfl tyok3 rfl (by decide) rfl rfl rfl (Nat.zero_le _) l (fun ρ W hp => hv.below hp.bel) (by show (0 + _) * 8 ≤ _; omega) (by show 0 + _ ≤ _; omega) (fun cap2 hq1 hq2 => ?_)
    ((conv=>whnf);(repeat(refine And.intro ?_ ?_;(focus((first|omega|exact⟨rfl,True.intro⟩|exact⟨rfl,rfl,True.intro⟩|rfl|(simp only[List.length_set];first|omega|(refine⟨?_,?_⟩<;>omega)|(refine⟨?_,?_,?_⟩<;>omega))|(intro hg;(try simp only[bB]at hg);first|omega|(refine⟨?_,?_⟩<;>omega)|(refine⟨?_,?_,?_⟩<;>first|omega|(show _<_;(try simp only[List.length_set]);omega)|exact leT rfl))|(refine⟨?_,?_⟩<;>omega)|(refine⟨?_,?_,?_⟩<;>first|omega|(show _<_;(try simp only[List.length_set]);omega)|exact leT rfl)|(simp only[show rI.d=(0:Int)from rfl];omega));done));(conv=>whnf))))
    exact EvRet.rows (R := rI) (ys := l) (by simp) (by simpa using hq1) rfl rfl
/-- Bands narrowed by a claim, up to (not with) the index m. -/
def wpL (g : Int → Int) (xs : List Int) (a m : Int) : List Int := (List.range xs.length).map fun (i : Nat) => if a ≤ (i : Int) ∧ (i : Int) < m then g (xs.getD i 0) else xs.getD i 0
theorem wpL_len (g : Int → Int) (xs : List Int) (a m : Int) : (wpL g xs a m).length = xs.length := by simp [wpL]
theorem wpL_get {g : Int → Int} {xs : List Int} {a m : Int} {i : Nat} (h : i < xs.length) : (wpL g xs a m).getD i 0 = if a ≤ (i : Int) ∧ (i : Int) < m then g (xs.getD i 0) else xs.getD i 0 := by
  simp [wpL, List.getD_eq_getElem?_getD, h]
theorem wpL_start (g : Int → Int) (xs : List Int) (a : Int) : wpL g xs a a = xs := by
  apply List.ext_getElem (by simp [wpL])
  intro i h1 h2
  simp only [wpL, List.getElem_map, List.getElem_range]
  rw [if_neg (by omega)]
  simp [List.getD_eq_getElem?_getD, h2]
theorem wpL_step {g : Int → Int} {xs : List Int} {a : Int} {m : Nat} (h : m < xs.length) (ha : a ≤ m) : (wpL g xs a m).set m (g (xs.getD m 0)) = wpL g xs a (m + 1) := by
  apply List.ext_getElem (by simp [wpL])
  intro i h1 h2
  have h3 : i < xs.length := by simpa [wpL] using h2
  rw [List.getElem_set]
  simp only [wpL, List.getElem_map, List.getElem_range]
  by_cases hmi : m = i
  · subst hmi
    rw [if_pos rfl, if_pos (by omega)]
  · rw [if_neg hmi]
    by_cases h4 : a ≤ (i : Int) ∧ (i : Int) < m
    · rw [if_pos h4, if_pos (by omega)]
    · rw [if_neg h4, if_neg (by omega)]
def wCl (f : Int) (p : List Int × List Int) (c : Cl) : List Int × List Int := (wpL (fun x => max x c.lo) p.1 (c.f - f) (c.t - f + 1), wpL (fun x => min x c.hi) p.2 (c.f - f) (c.t - f + 1))
def wAll (f : Int) (lo hi : List Int) (l : List Cl) : List Int × List Int := l.foldl (wCl f) (lo, hi)
theorem wAll_snoc (f : Int) (lo hi : List Int) (l : List Cl) (c : Cl) : wAll f lo hi (l ++ [c]) = wCl f (wAll f lo hi l) c := by simp [wAll, List.foldl_append]
theorem wCl_len (f : Int) (p : List Int × List Int) (c : Cl) : (wCl f p c).1.length = p.1.length ∧ (wCl f p c).2.length = p.2.length := by simp [wCl, wpL_len]
theorem foldW_len (f : Int) : ∀ (l : List Cl) (p : List Int × List Int), (l.foldl (wCl f) p).1.length = p.1.length ∧ (l.foldl (wCl f) p).2.length = p.2.length
  | [], p => ⟨rfl, rfl⟩
  | c :: r, p => by
    have h1 := foldW_len f r (wCl f p c)
    have h2 := wCl_len f p c
    exact ⟨h1.1.trans h2.1, h1.2.trans h2.2⟩
theorem wAll_len (f : Int) (lo hi : List Int) (l : List Cl) : (wAll f lo hi l).1.length = lo.length ∧ (wAll f lo hi l).2.length = hi.length := foldW_len f l (lo, hi)
set_option maxHeartbeats 1000000 in
set_option maxRecDepth 10000 in
theorem with_s (f : Int) (lo hi : List Int) (l : List Cl) (A1 A2 : Option Addr) (n1 n2 k1 k2 : Nat) (v : Value) (w : World) (h1 : RowsIn rI w (.slice A1 n1 k1) lo) (h2 : RowsIn rI w (.slice A2 n2 k2) hi) (hv : RowsIn rC w v l)
    (hf : 0 ≤ f ∧ f ≤ 1048576) (hlen : lo.length = hi.length) (hle : lo.length ≤ 2000000) (hc : ∀ c ∈ l, f ≤ c.f ∧ c.f ≤ c.t ∧ c.t < f + lo.length) :
    Con Try.prog 69 #[envV f (.slice A1 n1 k1) (.slice A2 n2 k2), v] w (Ret2 3 w (wAll f lo hi l).1 (wAll f lo hi l).2 (envV f)) := by
  obtain ⟨_, _, ee, e1, e2⟩ := h1.form
  simp at ee
  obtain ⟨rfl, rfl, rfl⟩ := ee
  obtain ⟨_, _, ee, e3, e4⟩ := h2.form
  simp at ee
  obtain ⟨rfl, rfl, rfl⟩ := ee
  obtain ⟨A3, c3, rfl, e5, e6⟩ := hv.form
  have hal := wAll_len f lo hi
  refine enter tabOk mixed Try.func69 rfl Try.ntmps69 Try.results69 [.a [.v (.int .i64 f), .s 0 1 lo.length k1, .s 1 1 hi.length k2], .s 2 4 l.length c3] (fun n => if n = 0 then A1 else if n = 1 then A2 else A3) [⟨2, false, 62, 4, c3, .rows Cl rC (l)⟩, ⟨1, false, 3, 1, k2, .rows Int rI (hi)⟩, ⟨0, false, 3, 1, k1, .rows Int rI (lo)⟩] 3 rfl rfl (.ro (.ro (.ro (hp0 _ _ _) _ rfl rfl rfl (ro_rows h1 rfl _)) _ rfl rfl rfl (ro_rows h2 rfl _)) _ rfl rfl rfl (ro_rows hv rfl _)) ?_
  ((conv=>whnf);(repeat(refine And.intro ?_ ?_;(focus((first|omega|exact⟨rfl,True.intro⟩|exact⟨rfl,rfl,True.intro⟩|rfl|(simp only[List.length_set];first|omega|(refine⟨?_,?_⟩<;>omega)|(refine⟨?_,?_,?_⟩<;>omega))|(intro hg;(try simp only[bB]at hg);first|omega|(refine⟨?_,?_⟩<;>omega)|(refine⟨?_,?_,?_⟩<;>first|omega|(show _<_;(try simp only[List.length_set]);omega)|exact leT rfl))|(refine⟨?_,?_⟩<;>omega)|(refine⟨?_,?_,?_⟩<;>first|omega|(show _<_;(try simp only[List.length_set]);omega)|exact leT rfl)|(simp only[show rI.d=(0:Int)from rfl];omega));done));(conv=>whnf))))
  (refine EvDraw.one (.q 0 (.q 1 (.q 3 (.q 4 (.n 2 false (.q 6 (.n 5 true (.n 7 true (.q 8 (.n 9 true (.z) (.e))) (.e)) (.e))) (.e)))))) (by kernel_rfl) ?_)
  ((conv=>whnf);(repeat(refine And.intro ?_ ?_;(focus((first|omega|exact⟨rfl,True.intro⟩|exact⟨rfl,rfl,True.intro⟩|rfl|(simp only[List.length_set];first|omega|(refine⟨?_,?_⟩<;>omega)|(refine⟨?_,?_,?_⟩<;>omega))|(intro hg;(try simp only[bB]at hg);first|omega|(refine⟨?_,?_⟩<;>omega)|(refine⟨?_,?_,?_⟩<;>first|omega|(show _<_;(try simp only[List.length_set]);omega)|exact leT rfl))|(refine⟨?_,?_⟩<;>omega)|(refine⟨?_,?_,?_⟩<;>first|omega|(show _<_;(try simp only[List.length_set]);omega)|exact leT rfl)|(simp only[show rI.d=(0:Int)from rfl];omega));done));(conv=>whnf))))
  refine EvCall.rows (R := rI) (ty := 3) (xs := lo) Try.call83 (fun ρ W hp => clonei_s _ lo W (hp.rowsIn (R := rI) (n := 0) (c := k1) rfl (by decide) e1 e2 1) (by omega)) (fun ca a1 a2 => ?_)
  ((conv=>whnf);(repeat(refine And.intro ?_ ?_;(focus((first|omega|exact⟨rfl,True.intro⟩|exact⟨rfl,rfl,True.intro⟩|rfl|(simp only[List.length_set];first|omega|(refine⟨?_,?_⟩<;>omega)|(refine⟨?_,?_,?_⟩<;>omega))|(intro hg;(try simp only[bB]at hg);first|omega|(refine⟨?_,?_⟩<;>omega)|(refine⟨?_,?_,?_⟩<;>first|omega|(show _<_;(try simp only[List.length_set]);omega)|exact leT rfl))|(refine⟨?_,?_⟩<;>omega)|(refine⟨?_,?_,?_⟩<;>first|omega|(show _<_;(try simp only[List.length_set]);omega)|exact leT rfl)|(simp only[show rI.d=(0:Int)from rfl];omega));done));(conv=>whnf))))
  refine EvCall.rows (R := rI) (ty := 3) (xs := hi) Try.call83 (fun ρ W hp => clonei_s _ hi W (hp.rowsIn (R := rI) (n := 1) (c := k2) rfl (by decide) e3 e4 1) (by omega)) (fun cb b1 b2 => ?_)
  ((conv=>whnf);(repeat(refine And.intro ?_ ?_;(focus((first|omega|exact⟨rfl,True.intro⟩|exact⟨rfl,rfl,True.intro⟩|rfl|(simp only[List.length_set];first|omega|(refine⟨?_,?_⟩<;>omega)|(refine⟨?_,?_,?_⟩<;>omega))|(intro hg;(try simp only[bB]at hg);first|omega|(refine⟨?_,?_⟩<;>omega)|(refine⟨?_,?_,?_⟩<;>first|omega|(show _<_;(try simp only[List.length_set]);omega)|exact leT rfl))|(refine⟨?_,?_⟩<;>omega)|(refine⟨?_,?_,?_⟩<;>first|omega|(show _<_;(try simp only[List.length_set]);omega)|exact leT rfl)|(simp only[show rI.d=(0:Int)from rfl];omega));done));(conv=>whnf))))
  refine EvLoop.inv (α := Nat) (fun p => p ≤ l.length) (fun p => l.length - p) (fun p => [(18, [], .v (.int .i64 ((p : Int)))), (17, [], .v (.int .i64 ((l.length : Int)))), (16, [], .s 2 4 l.length c3), (2, [], .p 3 0), (4, [], .p 4 0)])
    (fun p => [⟨6, true, 3, 1, cb, .rows Int rI (wAll f lo hi (l.take p)).2⟩, ⟨5, true, 3, 1, ca, .rows Int rI (wAll f lo hi (l.take p)).1⟩, ⟨4, true, 86, 3, 1, .cs [.v (.int .i64 0), .v (.slice none 0 0), .v (.slice none 0 0)]⟩, ⟨3, true, 86, 3, 1, .cs [.v (.int .i64 f), .s 5 1 lo.length ca, .s 6 1 hi.length cb]⟩, ⟨2, false, 62, 4, c3, .rows Cl rC l⟩]) 7 0 (by omega) (Sub.of [] [] rfl ?_) ?_
  · ((repeat' (refine And.intro ?_ ?_)) <;> first | rfl | exact True.intro | omega)
  intro p hp
  have hap := hal (l.take p)
  ((conv=>whnf);(repeat(refine And.intro ?_ ?_;(focus((first|omega|exact⟨rfl,True.intro⟩|exact⟨rfl,rfl,True.intro⟩|rfl|(simp only[List.length_set];first|omega|(refine⟨?_,?_⟩<;>omega)|(refine⟨?_,?_,?_⟩<;>omega))|(intro hg;(try simp only[bB]at hg);first|omega|(refine⟨?_,?_⟩<;>omega)|(refine⟨?_,?_,?_⟩<;>first|omega|(show _<_;(try simp only[List.length_set]);omega)|exact leT rfl))|(refine⟨?_,?_⟩<;>omega)|(refine⟨?_,?_,?_⟩<;>first|omega|(show _<_;(try simp only[List.length_set]);omega)|exact leT rfl)|(simp only[show rI.d=(0:Int)from rfl];omega));done));(conv=>whnf))))
  refine EvIf.split (fun g1 => ?_) (fun g1 => ?_)
  · simp only [decide_eq_true_eq] at g1
    have hlt : p < l.length := by omega
    have hmem : l.getD p cl0 ∈ l := by
      have : l.getD p cl0 = l[p] := by simp [List.getD_eq_getElem?_getD, hlt]
      rw [this]; exact List.getElem_mem ..
    have hcp := hc _ hmem
    have hcp' : f ≤ (l.getD (p : Int).toNat rC.d).f ∧ (l.getD (p : Int).toNat rC.d).f ≤ (l.getD (p : Int).toNat rC.d).t ∧ (l.getD (p : Int).toNat rC.d).t < f + lo.length := hcp
    have hsn : wAll f lo hi (l.take (p + 1)) = wCl f (wAll f lo hi (l.take p)) (l.getD (p : Int).toNat rC.d) := by
      rw [take_one l p cl0 hlt, wAll_snoc]
      rfl
    have hs1 := congrArg Prod.fst hsn
    have hs2 := congrArg Prod.snd hsn
    unfold wCl at hs1 hs2
    simp only at hs1 hs2
    generalize wAll f lo hi (l.take p) = cu at *
    obtain ⟨a0, ha0⟩ : ∃ a0 : Nat, (a0 : Int) = (l.getD (p : Int).toNat rC.d).f - f := ⟨((l.getD (p : Int).toNat rC.d).f - f).toNat, by omega⟩
    ((conv=>whnf);(repeat(refine And.intro ?_ ?_;(focus((first|omega|exact⟨rfl,True.intro⟩|exact⟨rfl,rfl,True.intro⟩|rfl|(simp only[List.length_set];first|omega|(refine⟨?_,?_⟩<;>omega)|(refine⟨?_,?_,?_⟩<;>omega))|(intro hg;(try simp only[bB]at hg);first|omega|(refine⟨?_,?_⟩<;>omega)|(refine⟨?_,?_,?_⟩<;>first|omega|(show _<_;(try simp only[List.length_set]);omega)|exact leT rfl))|(refine⟨?_,?_⟩<;>omega)|(refine⟨?_,?_,?_⟩<;>first|omega|(show _<_;(try simp only[List.length_set]);omega)|exact leT rfl)|(simp only[show rI.d=(0:Int)from rfl];omega));done));(conv=>whnf))))
    refine EvLoop.inv (α := Nat) (fun m => (l.getD (p : Int).toNat rC.d).f - f ≤ (m : Int) ∧ (m : Int) ≤ (l.getD (p : Int).toNat rC.d).t - f + 1) (fun m => lo.length + 1 - m) (fun m => [(7, [], .v (.int .i64 ((m : Int)))), (18, [], .v (.int .i64 ((p : Int)))), (17, [], .v (.int .i64 ((l.length : Int)))), (16, [], .s 2 4 l.length c3), (2, [], .p 3 0), (4, [], .p 4 0), (6, [], .p 7 0)])
      (fun m => [⟨7, true, 62, 4, 1, .cs [.v (.int .i64 (l.getD (p : Int).toNat rC.d).f), .v (.int .i64 (l.getD (p : Int).toNat rC.d).t), .v (.int .i64 (l.getD (p : Int).toNat rC.d).lo), .v (.int .i64 (l.getD (p : Int).toNat rC.d).hi)]⟩, ⟨6, true, 3, 1, cb, .rows Int rI (wpL (fun x => min x (l.getD (p : Int).toNat rC.d).hi) cu.2 ((l.getD (p : Int).toNat rC.d).f - f) m)⟩, ⟨5, true, 3, 1, ca, .rows Int rI (wpL (fun x => max x (l.getD (p : Int).toNat rC.d).lo) cu.1 ((l.getD (p : Int).toNat rC.d).f - f) m)⟩, ⟨4, true, 86, 3, 1, .cs [.v (.int .i64 0), .v (.slice none 0 0), .v (.slice none 0 0)]⟩, ⟨3, true, 86, 3, 1, .cs [.v (.int .i64 f), .s 5 1 lo.length ca, .s 6 1 hi.length cb]⟩, ⟨2, false, 62, 4, c3, .rows Cl rC l⟩]) 8 a0 ⟨by omega, by omega⟩ (Sub.of [] [] rfl ?_) ?_
    · have q1 : (wpL (fun x => max x (l.getD (p : Int).toNat rC.d).lo) cu.1 ((l.getD (p : Int).toNat rC.d).f - f) a0) = cu.1 := by rw [ha0, wpL_start]
      have q2 : (wpL (fun x => min x (l.getD (p : Int).toNat rC.d).hi) cu.2 ((l.getD (p : Int).toNat rC.d).f - f) a0) = cu.2 := by rw [ha0, wpL_start]
      (repeat' (refine And.intro ?_ ?_)) <;> first | rfl | exact True.intro | exact congrArg (Ct.rows Int rI) q1 | exact congrArg (Ct.rows Int rI) q1.symm | exact congrArg (Ct.rows Int rI) q2 | exact congrArg (Ct.rows Int rI) q2.symm | omega
    intro m ⟨hm1, hm2⟩
    have hw1 := wpL_len (fun x => max x (l.getD (p : Int).toNat rC.d).lo) cu.1 ((l.getD (p : Int).toNat rC.d).f - f) m
    have hw2 := wpL_len (fun x => min x (l.getD (p : Int).toNat rC.d).hi) cu.2 ((l.getD (p : Int).toNat rC.d).f - f) m
    ((conv=>whnf);(repeat(refine And.intro ?_ ?_;(focus((first|omega|exact⟨rfl,True.intro⟩|exact⟨rfl,rfl,True.intro⟩|rfl|(simp only[List.length_set];first|omega|(refine⟨?_,?_⟩<;>omega)|(refine⟨?_,?_,?_⟩<;>omega))|(intro hg;(try simp only[bB]at hg);first|omega|(refine⟨?_,?_⟩<;>omega)|(refine⟨?_,?_,?_⟩<;>first|omega|(show _<_;(try simp only[List.length_set]);omega)|exact leT rfl))|(refine⟨?_,?_⟩<;>omega)|(refine⟨?_,?_,?_⟩<;>first|omega|(show _<_;(try simp only[List.length_set]);omega)|exact leT rfl)|(simp only[show rI.d=(0:Int)from rfl];omega));done));(conv=>whnf))))
    refine EvIf.split (fun g2 => ?_) (fun g2 => ?_)
    · simp only [decide_eq_true_eq] at g2
      have hm3 : m < cu.1.length := by omega
      have hm4 : m < cu.2.length := by omega
      have r1 : (wpL (fun x => max x (l.getD (p : Int).toNat rC.d).lo) cu.1 ((l.getD (p : Int).toNat rC.d).f - f) m).set (m : Int).toNat (max ((wpL (fun x => max x (l.getD (p : Int).toNat rC.d).lo) cu.1 ((l.getD (p : Int).toNat rC.d).f - f) m).getD (m : Int).toNat rI.d) (l.getD (p : Int).toNat rC.d).lo) = (wpL (fun x => max x (l.getD (p : Int).toNat rC.d).lo) cu.1 ((l.getD (p : Int).toNat rC.d).f - f) (m + 1)) := by
        have e := wpL_get (g := fun x => max x (l.getD (p : Int).toNat rC.d).lo) (a := (l.getD (p : Int).toNat rC.d).f - f) (m := m) hm3
        rw [if_neg (by omega)] at e
        show (wpL (fun x => max x (l.getD (p : Int).toNat rC.d).lo) cu.1 ((l.getD (p : Int).toNat rC.d).f - f) m).set m (max ((wpL (fun x => max x (l.getD (p : Int).toNat rC.d).lo) cu.1 ((l.getD (p : Int).toNat rC.d).f - f) m).getD m 0) (l.getD (p : Int).toNat rC.d).lo) = _
        rw [e]
        exact wpL_step (g := fun x => max x (l.getD (p : Int).toNat rC.d).lo) hm3 hm1
      have r2 : (wpL (fun x => min x (l.getD (p : Int).toNat rC.d).hi) cu.2 ((l.getD (p : Int).toNat rC.d).f - f) m).set (m : Int).toNat (min ((wpL (fun x => min x (l.getD (p : Int).toNat rC.d).hi) cu.2 ((l.getD (p : Int).toNat rC.d).f - f) m).getD (m : Int).toNat rI.d) (l.getD (p : Int).toNat rC.d).hi) = (wpL (fun x => min x (l.getD (p : Int).toNat rC.d).hi) cu.2 ((l.getD (p : Int).toNat rC.d).f - f) (m + 1)) := by
        have e := wpL_get (g := fun x => min x (l.getD (p : Int).toNat rC.d).hi) (a := (l.getD (p : Int).toNat rC.d).f - f) (m := m) hm4
        rw [if_neg (by omega)] at e
        show (wpL (fun x => min x (l.getD (p : Int).toNat rC.d).hi) cu.2 ((l.getD (p : Int).toNat rC.d).f - f) m).set m (min ((wpL (fun x => min x (l.getD (p : Int).toNat rC.d).hi) cu.2 ((l.getD (p : Int).toNat rC.d).f - f) m).getD m 0) (l.getD (p : Int).toNat rC.d).hi) = _
        rw [e]
        exact wpL_step (g := fun x => min x (l.getD (p : Int).toNat rC.d).hi) hm4 hm1
      have hc1 : ((m + 1 : Nat) : Int) = (m : Int) + 1 := by omega
      ((conv=>whnf);(repeat(refine And.intro ?_ ?_;(focus((first|omega|exact⟨rfl,True.intro⟩|exact⟨rfl,rfl,True.intro⟩|rfl|(simp only[List.length_set];first|omega|(refine⟨?_,?_⟩<;>omega)|(refine⟨?_,?_,?_⟩<;>omega))|(intro hg;(try simp only[bB]at hg);first|omega|(refine⟨?_,?_⟩<;>omega)|(refine⟨?_,?_,?_⟩<;>first|omega|(show _<_;(try simp only[List.length_set]);omega)|exact leT rfl))|(refine⟨?_,?_⟩<;>omega)|(refine⟨?_,?_,?_⟩<;>first|omega|(show _<_;(try simp only[List.length_set]);omega)|exact leT rfl)|(simp only[show rI.d=(0:Int)from rfl];omega));done));(conv=>whnf))))
      (refine EvDraw.oneR (.q 0 (.q 1 (.q 2 (.q 3 (.q 4 (.q 5 (.q 6 (.q 7 (.q 8 (.q 9 (.q 10 (.q 11 (.q 12 (.q 13 (.q 14 (.q 15 (.q 16 (.q 17 (.q 18 (.q 19 (.q 20 (.q 21 (.q 22 (.n 23 true (.q 24 (.n 25 true (.z) (.e))) (.e))))))))))))))))))))))))) [4,20] [3,7] (by kernel_rfl) ?_)
      ((conv=>whnf);(repeat(refine And.intro ?_ ?_;(focus((first|omega|exact⟨rfl,True.intro⟩|exact⟨rfl,rfl,True.intro⟩|rfl|(simp only[List.length_set];first|omega|(refine⟨?_,?_⟩<;>omega)|(refine⟨?_,?_,?_⟩<;>omega))|(intro hg;(try simp only[bB]at hg);first|omega|(refine⟨?_,?_⟩<;>omega)|(refine⟨?_,?_,?_⟩<;>first|omega|(show _<_;(try simp only[List.length_set]);omega)|exact leT rfl))|(refine⟨?_,?_⟩<;>omega)|(refine⟨?_,?_,?_⟩<;>first|omega|(show _<_;(try simp only[List.length_set]);omega)|exact leT rfl)|(simp only[show rI.d=(0:Int)from rfl];omega));done));(conv=>whnf))))
      refine LoopI.back (m + 1) ⟨by omega, by omega⟩ (by omega) (Sub.of [] [] rfl ?_)
      rw [hc1]
      (repeat' (refine And.intro ?_ ?_)) <;> first | rfl | exact True.intro | exact congrArg (Ct.rows Int rI) r1 | exact congrArg (Ct.rows Int rI) r1.symm | exact congrArg (Ct.rows Int rI) r2 | exact congrArg (Ct.rows Int rI) r2.symm | omega
    · simp only [decide_eq_false_iff_not] at g2
      have hme : (m : Int) = (l.getD (p : Int).toNat rC.d).t - f + 1 := by omega
      rw [hme, ← hs1, ← hs2]
      ((conv=>whnf);(repeat(refine And.intro ?_ ?_;(focus((first|omega|exact⟨rfl,True.intro⟩|exact⟨rfl,rfl,True.intro⟩|rfl|(simp only[List.length_set];first|omega|(refine⟨?_,?_⟩<;>omega)|(refine⟨?_,?_,?_⟩<;>omega))|(intro hg;(try simp only[bB]at hg);first|omega|(refine⟨?_,?_⟩<;>omega)|(refine⟨?_,?_,?_⟩<;>first|omega|(show _<_;(try simp only[List.length_set]);omega)|exact leT rfl))|(refine⟨?_,?_⟩<;>omega)|(refine⟨?_,?_,?_⟩<;>first|omega|(show _<_;(try simp only[List.length_set]);omega)|exact leT rfl)|(simp only[show rI.d=(0:Int)from rfl];omega));done));(conv=>whnf))))
      refine LoopI.back (p + 1) (by omega) (by omega) (Sub.of [] [] rfl ?_)
      ((repeat' (refine And.intro ?_ ?_)) <;> first | rfl | exact True.intro | omega)
  · simp only [decide_eq_false_iff_not] at g1
    obtain rfl : p = l.length := by omega
    rw [List.take_length] at *
    ((conv=>whnf);(repeat(refine And.intro ?_ ?_;(focus((first|omega|exact⟨rfl,True.intro⟩|exact⟨rfl,rfl,True.intro⟩|rfl|(simp only[List.length_set];first|omega|(refine⟨?_,?_⟩<;>omega)|(refine⟨?_,?_,?_⟩<;>omega))|(intro hg;(try simp only[bB]at hg);first|omega|(refine⟨?_,?_⟩<;>omega)|(refine⟨?_,?_,?_⟩<;>first|omega|(show _<_;(try simp only[List.length_set]);omega)|exact leT rfl))|(refine⟨?_,?_⟩<;>omega)|(refine⟨?_,?_,?_⟩<;>first|omega|(show _<_;(try simp only[List.length_set]);omega)|exact leT rfl)|(simp only[show rI.d=(0:Int)from rfl];omega));done));(conv=>whnf))))
    exact EvRet.two (n := 5) (m := 6) (fun ρ => by simp [den, denL, envV]) hap.1.symm hap.2.symm (by omega) (by omega) rfl rfl (by decide)
end Go.Proofs.Ytpnngbfmmjjnaaa
