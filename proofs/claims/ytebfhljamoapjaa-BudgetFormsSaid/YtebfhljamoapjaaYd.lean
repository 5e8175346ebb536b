
/- Package intervalmonref17 and the law's small functions, walked. -/
import Derived.Test.YtebfhljamoapjaaYc
import Derived.Test.YtebfhljamoapjaaDcB
namespace Go.Proofs.Ytebfhljamoapjaa
open Go.RowKit
set_option linter.unusedVariables false
set_option linter.unusedSimpArgs false

theorem canB_snoc : ∀ {b : Int} {es : List En} {e : En}, canB b (es ++ [e]) ↔ canB b es ∧ 0 ≤ e.2 ∧ 1 ≤ e.1.size ∧ e.1.size ≤ 16 ∧ e.2 ≤ b - sumE es
  | b, [], e => by simp [canB, sumE]
  | b, x :: r, e => by
    have ih := canB_snoc (b := b - x.2) (es := r) (e := e)
    simp only [List.cons_append, canB, sumE, ih]
    constructor
    · rintro ⟨h1, h2, h3, h4, h5, h6, h7, h8, h9⟩
      exact ⟨⟨h1, h2, h3, h4, h5⟩, h6, h7, h8, by omega⟩
    · rintro ⟨⟨h1, h2, h3, h4, h5⟩, h6, h7, h8, h9⟩
      exact ⟨h1, h2, h3, h4, h5, h6, h7, h8, by omega⟩
theorem take_succE {es : List En} {i : Nat} (h : i < es.length) : es.take (i + 1) = es.take i ++ [es.getD i rE.d] := by
  rw [List.take_add_one, List.getD_eq_getElem?_getD, List.getElem?_eq_getElem h]
  rfl
theorem canB_take {b : Int} {es : List En} (h : canB b es) : ∀ i, canB b (es.take i) := by
  intro i
  induction i generalizing b es with
  | zero => simp [canB]
  | succ i ih =>
    cases es with
    | nil => simp [canB]
    | cons x r =>
      obtain ⟨h1, h2, h3, h4, h5⟩ := h
      exact ⟨h1, h2, h3, h4, ih h5⟩
theorem canB_at {b : Int} {es : List En} (h : canB b es) {i : Nat} (hi : i < es.length) : 0 ≤ (es.getD i rE.d).2 ∧ 1 ≤ (es.getD i rE.d).1.size ∧ (es.getD i rE.d).1.size ≤ 16 ∧ (es.getD i rE.d).2 ≤ b - sumE (es.take i) ∧ sumE (es.take (i + 1)) = sumE (es.take i) + (es.getD i rE.d).2 := by
  have h1 := canB_take h (i + 1)
  rw [take_succE hi, canB_snoc] at h1
  rw [take_succE hi, sumE_snoc]
  exact ⟨h1.2.1, h1.2.2.1, h1.2.2.2.1, h1.2.2.2.2, rfl⟩
theorem canB_all {b : Int} {es : List En} (hb : 0 ≤ b) (h : canB b es) : ∀ e ∈ es, 0 ≤ e.2 ∧ e.2 ≤ b ∧ e.1.size ≤ 16 := by
  induction es generalizing b with
  | nil => intro e he; cases he
  | cons x r ih =>
    obtain ⟨h1, h2, h3, h4, h5⟩ := h
    intro e he
    rcases List.mem_cons.1 he with rfl | he
    · exact ⟨h1, h4, h3⟩
    · have := ih (by omega) h5 e he
      omega
set_option maxRecDepth 10000 in
theorem refspent_s (b : Int) (v : Value) (es : List En) (w : World) (hv : RowsIn rE w v es) (hc : canB b es) (hb : 0 ≤ b) (hb2 : b ≤ 2147483648) : Con Try.prog 66 #[.agg #[.int .i64 b, v]] w (Ret w (.int .i64 (sumE es))) := by
  obtain ⟨A1, c1, rfl, e1, e2⟩ := hv.form
  refine enter tabOk mixed Try.func66 rfl Try.ntmps66 Try.results66 [.a [.v (.int .i64 b), .s 0 2 es.length c1]] (fun _ => A1) [⟨0, false, 35, 2, c1, .rows (ByteArray × Int) rE (es)⟩] 1 rfl rfl (.ro (hp0 _ _ _) _ rfl rfl rfl (ro_rows hv rfl _)) ?_
  ((conv=>whnf);(repeat(refine And.intro ?_ ?_;(focus((first|omega|exact⟨rfl,True.intro⟩|exact⟨rfl,rfl,True.intro⟩|rfl|(simp only[List.length_set];first|omega|(refine⟨?_,?_⟩<;>omega)|(refine⟨?_,?_,?_⟩<;>omega))|(intro hg;(try simp only[bB]at hg);first|omega|(refine⟨?_,?_⟩<;>omega)|(refine⟨?_,?_,?_⟩<;>first|omega|(show _<_;(try simp only[List.length_set]);omega)|exact leT rfl))|(refine⟨?_,?_⟩<;>omega)|(refine⟨?_,?_,?_⟩<;>first|omega|(show _<_;(try simp only[List.length_set]);omega)|exact leT rfl)|(simp only[show rI.d=(0:Int)from rfl];omega));done));(conv=>whnf))))
  refine EvLoop.inv (α := Nat) (fun i => i ≤ es.length) (fun i => es.length - i) (fun i => [(4, [], .v (.int .i64 ((i : Int)))), (3, [], .v (.int .i64 (sumE (es.take i)))), (1, [], .p 1 0)]) (fun i => [⟨1, true, 25, 2, 1, .cs [.v (.int .i64 b), .s 0 2 es.length c1]⟩, ⟨0, false, 35, 2, c1, .rows (ByteArray × Int) rE es⟩]) 2 0 (Nat.zero_le _) (Sub.of [] [] rfl ?_) ?_
  · ((repeat' (refine And.intro ?_ ?_)) <;> first | rfl | exact True.intro | omega)
  intro i hi
  ((conv=>whnf);(repeat(refine And.intro ?_ ?_;(focus((first|omega|exact⟨rfl,True.intro⟩|exact⟨rfl,rfl,True.intro⟩|rfl|(simp only[List.length_set];first|omega|(refine⟨?_,?_⟩<;>omega)|(refine⟨?_,?_,?_⟩<;>omega))|(intro hg;(try simp only[bB]at hg);first|omega|(refine⟨?_,?_⟩<;>omega)|(refine⟨?_,?_,?_⟩<;>first|omega|(show _<_;(try simp only[List.length_set]);omega)|exact leT rfl))|(refine⟨?_,?_⟩<;>omega)|(refine⟨?_,?_,?_⟩<;>first|omega|(show _<_;(try simp only[List.length_set]);omega)|exact leT rfl)|(simp only[show rI.d=(0:Int)from rfl];omega));done));(conv=>whnf))))
  refine EvIf.split (fun g1 => ?_) (fun g1 => ?_)
  · have hlt : i < es.length := by have := of_decide_eq_true g1; omega
    obtain ⟨a1, a2, a3, a4, a5⟩ := canB_at hc hlt
    have ht := canB_sum hb (canB_take hc i)
    have a1' : 0 ≤ (es.getD (i : Int).toNat rE.d).2 := a1
    have a4' : (es.getD (i : Int).toNat rE.d).2 ≤ b - sumE (es.take i) := a4
    ((conv=>whnf);(repeat(refine And.intro ?_ ?_;(focus((first|omega|exact⟨rfl,True.intro⟩|exact⟨rfl,rfl,True.intro⟩|rfl|(simp only[List.length_set];first|omega|(refine⟨?_,?_⟩<;>omega)|(refine⟨?_,?_,?_⟩<;>omega))|(intro hg;(try simp only[bB]at hg);first|omega|(refine⟨?_,?_⟩<;>omega)|(refine⟨?_,?_,?_⟩<;>first|omega|(show _<_;(try simp only[List.length_set]);omega)|exact leT rfl))|(refine⟨?_,?_⟩<;>omega)|(refine⟨?_,?_,?_⟩<;>first|omega|(show _<_;(try simp only[List.length_set]);omega)|exact leT rfl)|(simp only[show rI.d=(0:Int)from rfl];omega));done));(conv=>whnf))))
    refine LoopI.back (i + 1) hlt (by show es.length - (i + 1) < es.length - i; omega) (Sub.of [] [] rfl ?_)
    rw [a5]
    ((repeat' (refine And.intro ?_ ?_)) <;> first | rfl | exact True.intro | omega)
  · have hi2 : i = es.length := by have := of_decide_eq_false g1; omega
    ((conv=>whnf);(repeat(refine And.intro ?_ ?_;(focus((first|omega|exact⟨rfl,True.intro⟩|exact⟨rfl,rfl,True.intro⟩|rfl|(simp only[List.length_set];first|omega|(refine⟨?_,?_⟩<;>omega)|(refine⟨?_,?_,?_⟩<;>omega))|(intro hg;(try simp only[bB]at hg);first|omega|(refine⟨?_,?_⟩<;>omega)|(refine⟨?_,?_,?_⟩<;>first|omega|(show _<_;(try simp only[List.length_set]);omega)|exact leT rfl))|(refine⟨?_,?_⟩<;>omega)|(refine⟨?_,?_,?_⟩<;>first|omega|(show _<_;(try simp only[List.length_set]);omega)|exact leT rfl)|(simp only[show rI.d=(0:Int)from rfl];omega));done));(conv=>whnf))))
    exact EvRet.ret (fun _ => by rw [hi2, List.take_length]; rfl)
/-- The reference's Spend. -/
def spendL (b : Int) (es : List En) (s : ByteArray) (c : Int) : List En × Int := if c < 0 ∨ s.size = 0 ∨ 16 < s.size then (es, 1) else if b - sumE es < c then (es, 12) else (es ++ [(s, c)], 0)
set_option maxRecDepth 10000 in
theorem refspend_no (b : Int) (v : Value) (es : List En) (s : ByteArray) (c : Int) (w : World) (hv : RowsIn rE w v es) (hc : canB b es) (hb : 0 ≤ b) (hb2 : b ≤ 2147483648) (h : (spendL b es s c).2 ≠ 0) : Con Try.prog 57 #[.agg #[.int .i64 b, v], .string s, .int .i64 c] w (Ret w (.tuple #[.agg #[.int .i64 b, v], .int .i64 (spendL b es s c).2])) := by
  obtain ⟨A1, c1, rfl, e1, e2⟩ := hv.form
  have hs := canB_sum hb hc
  refine enter tabOk mixed Try.func57 rfl Try.ntmps57 Try.results57 [.a [.v (.int .i64 b), .v (.slice A1 es.length c1)], .v (.string s), .v (.int .i64 c)] (fun _ => none) [] 0 rfl rfl (hp0 _ _ _) ?_
  ((conv=>whnf);(repeat(refine And.intro ?_ ?_;(focus((first|omega|exact⟨rfl,True.intro⟩|exact⟨rfl,rfl,True.intro⟩|rfl|(simp only[List.length_set];first|omega|(refine⟨?_,?_⟩<;>omega)|(refine⟨?_,?_,?_⟩<;>omega))|(intro hg;(try simp only[bB]at hg);first|omega|(refine⟨?_,?_⟩<;>omega)|(refine⟨?_,?_,?_⟩<;>first|omega|(show _<_;(try simp only[List.length_set]);omega)|exact leT rfl))|(refine⟨?_,?_⟩<;>omega)|(refine⟨?_,?_,?_⟩<;>first|omega|(show _<_;(try simp only[List.length_set]);omega)|exact leT rfl)|(simp only[show rI.d=(0:Int)from rfl];omega));done));(conv=>whnf))))
  by_cases r1 : c < 0 ∨ s.size = 0 ∨ 16 < s.size
  · have e : spendL b es s c = (es, 1) := by unfold spendL; rw [if_pos r1]
    rw [e]
    refine EvIf.pos (by rw [Bool.or_eq_true, Bool.or_eq_true]; simp only [decide_eq_true_eq]; omega) ?_
    ((conv=>whnf);(repeat(refine And.intro ?_ ?_;(focus((first|omega|exact⟨rfl,True.intro⟩|exact⟨rfl,rfl,True.intro⟩|rfl|(simp only[List.length_set];first|omega|(refine⟨?_,?_⟩<;>omega)|(refine⟨?_,?_,?_⟩<;>omega))|(intro hg;(try simp only[bB]at hg);first|omega|(refine⟨?_,?_⟩<;>omega)|(refine⟨?_,?_,?_⟩<;>first|omega|(show _<_;(try simp only[List.length_set]);omega)|exact leT rfl))|(refine⟨?_,?_⟩<;>omega)|(refine⟨?_,?_,?_⟩<;>first|omega|(show _<_;(try simp only[List.length_set]);omega)|exact leT rfl)|(simp only[show rI.d=(0:Int)from rfl];omega));done));(conv=>whnf))))
    exact EvRet.ret (fun _ => rfl)
  refine EvIf.neg (by rw [Bool.or_eq_false_iff, Bool.or_eq_false_iff]; simp only [decide_eq_false_iff_not]; omega) ?_
  ((conv=>whnf);(repeat(refine And.intro ?_ ?_;(focus((first|omega|exact⟨rfl,True.intro⟩|exact⟨rfl,rfl,True.intro⟩|rfl|(simp only[List.length_set];first|omega|(refine⟨?_,?_⟩<;>omega)|(refine⟨?_,?_,?_⟩<;>omega))|(intro hg;(try simp only[bB]at hg);first|omega|(refine⟨?_,?_⟩<;>omega)|(refine⟨?_,?_,?_⟩<;>first|omega|(show _<_;(try simp only[List.length_set]);omega)|exact leT rfl))|(refine⟨?_,?_⟩<;>omega)|(refine⟨?_,?_,?_⟩<;>first|omega|(show _<_;(try simp only[List.length_set]);omega)|exact leT rfl)|(simp only[show rI.d=(0:Int)from rfl];omega));done));(conv=>whnf))))
  (refine EvDraw.one (.q 0 (.q 1 (.q 2 (.q 3 (.n 4 false (.q 5 (.q 6 (.z))) (.e)))))) (by kernel_rfl) ?_)
  ((conv=>whnf);(repeat(refine And.intro ?_ ?_;(focus((first|omega|exact⟨rfl,True.intro⟩|exact⟨rfl,rfl,True.intro⟩|rfl|(simp only[List.length_set];first|omega|(refine⟨?_,?_⟩<;>omega)|(refine⟨?_,?_,?_⟩<;>omega))|(intro hg;(try simp only[bB]at hg);first|omega|(refine⟨?_,?_⟩<;>omega)|(refine⟨?_,?_,?_⟩<;>first|omega|(show _<_;(try simp only[List.length_set]);omega)|exact leT rfl))|(refine⟨?_,?_⟩<;>omega)|(refine⟨?_,?_,?_⟩<;>first|omega|(show _<_;(try simp only[List.length_set]);omega)|exact leT rfl)|(simp only[show rI.d=(0:Int)from rfl];omega));done));(conv=>whnf))))
  refine EvCall.plain Try.call66 (.v (.int .i64 (sumE es))) rfl (fun ρ W hp => refspent_s b _ es W (hv.below hp.bel) hc hb hb2) ?_
  ((conv=>whnf);(repeat(refine And.intro ?_ ?_;(focus((first|omega|exact⟨rfl,True.intro⟩|exact⟨rfl,rfl,True.intro⟩|rfl|(simp only[List.length_set];first|omega|(refine⟨?_,?_⟩<;>omega)|(refine⟨?_,?_,?_⟩<;>omega))|(intro hg;(try simp only[bB]at hg);first|omega|(refine⟨?_,?_⟩<;>omega)|(refine⟨?_,?_,?_⟩<;>first|omega|(show _<_;(try simp only[List.length_set]);omega)|exact leT rfl))|(refine⟨?_,?_⟩<;>omega)|(refine⟨?_,?_,?_⟩<;>first|omega|(show _<_;(try simp only[List.length_set]);omega)|exact leT rfl)|(simp only[show rI.d=(0:Int)from rfl];omega));done));(conv=>whnf))))
  by_cases r2 : b - sumE es < c
  · have e : spendL b es s c = (es, 12) := by unfold spendL; rw [if_neg r1, if_pos r2]
    rw [e]
    refine EvIf.pos (decide_eq_true (by omega)) ?_
    ((conv=>whnf);(repeat(refine And.intro ?_ ?_;(focus((first|omega|exact⟨rfl,True.intro⟩|exact⟨rfl,rfl,True.intro⟩|rfl|(simp only[List.length_set];first|omega|(refine⟨?_,?_⟩<;>omega)|(refine⟨?_,?_,?_⟩<;>omega))|(intro hg;(try simp only[bB]at hg);first|omega|(refine⟨?_,?_⟩<;>omega)|(refine⟨?_,?_,?_⟩<;>first|omega|(show _<_;(try simp only[List.length_set]);omega)|exact leT rfl))|(refine⟨?_,?_⟩<;>omega)|(refine⟨?_,?_,?_⟩<;>first|omega|(show _<_;(try simp only[List.length_set]);omega)|exact leT rfl)|(simp only[show rI.d=(0:Int)from rfl];omega));done));(conv=>whnf))))
    exact EvRet.ret (fun _ => rfl)
  · exact absurd (by unfold spendL; rw [if_neg r1, if_neg r2]) h
/-- A reference ledger with its error. -/
def rlV (b : Int) (z : Int) (es : List En) (c : Nat) : SV := .t [.a [.v (.int .i64 b), .s 0 2 es.length c], .v (.int .i64 z)]
def rlO (es : List En) (c : Nat) : List Ob := [⟨0, true, 35, 2, c, .rows (ByteArray × Int) rE es⟩]
set_option maxRecDepth 10000 in
theorem refspend_ok (b : Int) (v : Value) (es : List En) (s : ByteArray) (c : Int) (w : World) (hv : RowsIn rE w v es) (hc : canB b es) (hb : 0 ≤ b) (hb2 : b ≤ 2147483648) (hl : es.length ≤ 1000000) (h : (spendL b es s c).2 = 0) :
    Con Try.prog 57 #[.agg #[.int .i64 b, v], .string s, .int .i64 c] w (fun e w' => ∃ k : Nat, (es.length + 1 ≤ k ∧ k ≤ 9223372036854775807) ∧ RetObs w (rlV b 0 (es ++ [(s, c)]) k) (rlO (es ++ [(s, c)]) k) 1 e w') := by
  obtain ⟨A1, c1, rfl, e1, e2⟩ := hv.form
  have hs := canB_sum hb hc
  have hcd : ¬ (c < 0 ∨ s.size = 0 ∨ 16 < s.size) ∧ ¬ b - sumE es < c := by
    unfold spendL at h
    split at h
    · cases h
    · split at h
      · cases h
      · exact ⟨by assumption, by assumption⟩
  obtain ⟨r1, r2⟩ := hcd
  refine enter tabOk mixed Try.func57 rfl Try.ntmps57 Try.results57 [.a [.v (.int .i64 b), .v (.slice A1 es.length c1)], .v (.string s), .v (.int .i64 c)] (fun _ => none) [] 0 rfl rfl (hp0 _ _ _) ?_
  ((conv=>whnf);(repeat(refine And.intro ?_ ?_;(focus((first|omega|exact⟨rfl,True.intro⟩|exact⟨rfl,rfl,True.intro⟩|rfl|(simp only[List.length_set];first|omega|(refine⟨?_,?_⟩<;>omega)|(refine⟨?_,?_,?_⟩<;>omega))|(intro hg;(try simp only[bB]at hg);first|omega|(refine⟨?_,?_⟩<;>omega)|(refine⟨?_,?_,?_⟩<;>first|omega|(show _<_;(try simp only[List.length_set]);omega)|exact leT rfl))|(refine⟨?_,?_⟩<;>omega)|(refine⟨?_,?_,?_⟩<;>first|omega|(show _<_;(try simp only[List.length_set]);omega)|exact leT rfl)|(simp only[show rI.d=(0:Int)from rfl];omega));done));(conv=>whnf))))
  refine EvIf.neg (by rw [Bool.or_eq_false_iff, Bool.or_eq_false_iff]; simp only [decide_eq_false_iff_not]; omega) ?_
  ((conv=>whnf);(repeat(refine And.intro ?_ ?_;(focus((first|omega|exact⟨rfl,True.intro⟩|exact⟨rfl,rfl,True.intro⟩|rfl|(simp only[List.length_set];first|omega|(refine⟨?_,?_⟩<;>omega)|(refine⟨?_,?_,?_⟩<;>omega))|(intro hg;(try simp only[bB]at hg);first|omega|(refine⟨?_,?_⟩<;>omega)|(refine⟨?_,?_,?_⟩<;>first|omega|(show _<_;(try simp only[List.length_set]);omega)|exact leT rfl))|(refine⟨?_,?_⟩<;>omega)|(refine⟨?_,?_,?_⟩<;>first|omega|(show _<_;(try simp only[List.length_set]);omega)|exact leT rfl)|(simp only[show rI.d=(0:Int)from rfl];omega));done));(conv=>whnf))))
  (refine EvDraw.one (.q 0 (.q 1 (.q 2 (.q 3 (.n 4 false (.q 5 (.q 6 (.z))) (.e)))))) (by kernel_rfl) ?_)
  ((conv=>whnf);(repeat(refine And.intro ?_ ?_;(focus((first|omega|exact⟨rfl,True.intro⟩|exact⟨rfl,rfl,True.intro⟩|rfl|(simp only[List.length_set];first|omega|(refine⟨?_,?_⟩<;>omega)|(refine⟨?_,?_,?_⟩<;>omega))|(intro hg;(try simp only[bB]at hg);first|omega|(refine⟨?_,?_⟩<;>omega)|(refine⟨?_,?_,?_⟩<;>first|omega|(show _<_;(try simp only[List.length_set]);omega)|exact leT rfl))|(refine⟨?_,?_⟩<;>omega)|(refine⟨?_,?_,?_⟩<;>first|omega|(show _<_;(try simp only[List.length_set]);omega)|exact leT rfl)|(simp only[show rI.d=(0:Int)from rfl];omega));done));(conv=>whnf))))
  refine EvCall.plain Try.call66 (.v (.int .i64 (sumE es))) rfl (fun ρ W hp => refspent_s b _ es W (hv.below hp.bel) hc hb hb2) ?_
  ((conv=>whnf);(repeat(refine And.intro ?_ ?_;(focus((first|omega|exact⟨rfl,True.intro⟩|exact⟨rfl,rfl,True.intro⟩|rfl|(simp only[List.length_set];first|omega|(refine⟨?_,?_⟩<;>omega)|(refine⟨?_,?_,?_⟩<;>omega))|(intro hg;(try simp only[bB]at hg);first|omega|(refine⟨?_,?_⟩<;>omega)|(refine⟨?_,?_,?_⟩<;>first|omega|(show _<_;(try simp only[List.length_set]);omega)|exact leT rfl))|(refine⟨?_,?_⟩<;>omega)|(refine⟨?_,?_,?_⟩<;>first|omega|(show _<_;(try simp only[List.length_set]);omega)|exact leT rfl)|(simp only[show rI.d=(0:Int)from rfl];omega));done));(conv=>whnf))))
  refine EvIf.neg (decide_eq_false (by omega)) ?_
  ((conv=>whnf);(repeat(refine And.intro ?_ ?_;(focus((first|omega|exact⟨rfl,True.intro⟩|exact⟨rfl,rfl,True.intro⟩|rfl|(simp only[List.length_set];first|omega|(refine⟨?_,?_⟩<;>omega)|(refine⟨?_,?_,?_⟩<;>omega))|(intro hg;(try simp only[bB]at hg);first|omega|(refine⟨?_,?_⟩<;>omega)|(refine⟨?_,?_,?_⟩<;>first|omega|(show _<_;(try simp only[List.length_set]);omega)|exact leT rfl))|(refine⟨?_,?_⟩<;>omega)|(refine⟨?_,?_,?_⟩<;>first|omega|(show _<_;(try simp only[List.length_set]);omega)|exact leT rfl)|(simp only[show rI.d=(0:Int)from rfl];omega));done));(conv=>whnf))))
  refine EvBi.append_nil (R := rE) tyok23 rfl tyok35 rfl (by decide) rfl es (fun ρ W hp => hv.below hp.bel) (by show _ * 24 ≤ _; omega) (by omega) (fun ca a1 a2 => ?_)
  ((conv=>whnf);(repeat(refine And.intro ?_ ?_;(focus((first|omega|exact⟨rfl,True.intro⟩|exact⟨rfl,rfl,True.intro⟩|rfl|(simp only[List.length_set];first|omega|(refine⟨?_,?_⟩<;>omega)|(refine⟨?_,?_,?_⟩<;>omega))|(intro hg;(try simp only[bB]at hg);first|omega|(refine⟨?_,?_⟩<;>omega)|(refine⟨?_,?_,?_⟩<;>first|omega|(show _<_;(try simp only[List.length_set]);omega)|exact leT rfl))|(refine⟨?_,?_⟩<;>omega)|(refine⟨?_,?_,?_⟩<;>first|omega|(show _<_;(try simp only[List.length_set]);omega)|exact leT rfl)|(simp only[show rI.d=(0:Int)from rfl];omega));done));(conv=>whnf))))
  refine EvBi.append (R := rE) (xs := es) tyok23 rfl tyok35 rfl (by decide) rfl rfl rfl a1 [(s, c)] (fun ρ W hp => hp.lit (R := rE) (ys := [(s, c)]) rfl (by decide) (by simp) (by decide) rfl) (by show (_ + 1) * 24 ≤ _; omega) (by show _ + 1 ≤ _; omega) (fun cb b1 b2 => ?_)
  ((conv=>whnf);(repeat(refine And.intro ?_ ?_;(focus((first|omega|exact⟨rfl,True.intro⟩|exact⟨rfl,rfl,True.intro⟩|rfl|(simp only[List.length_set];first|omega|(refine⟨?_,?_⟩<;>omega)|(refine⟨?_,?_,?_⟩<;>omega))|(intro hg;(try simp only[bB]at hg);first|omega|(refine⟨?_,?_⟩<;>omega)|(refine⟨?_,?_,?_⟩<;>first|omega|(show _<_;(try simp only[List.length_set]);omega)|exact leT rfl))|(refine⟨?_,?_⟩<;>omega)|(refine⟨?_,?_,?_⟩<;>first|omega|(show _<_;(try simp only[List.length_set]);omega)|exact leT rfl)|(simp only[show rI.d=(0:Int)from rfl];omega));done));(conv=>whnf))))
  refine EvRet.obs (R := fun k : Nat => es.length + 1 ≤ k ∧ k ≤ 9223372036854775807) (V := fun k => rlV b 0 (es ++ [(s, c)]) k) (O := fun k => rlO (es ++ [(s, c)]) k) cb ⟨by simpa using b1, b2⟩ (Sub.of [(0, 4)] [] rfl ?_)
  (repeat' (refine And.intro ?_ ?_)) <;> first | rfl | exact True.intro | (show _ = _; simp) | omega
end Go.Proofs.Ytebfhljamoapjaa
