
/- Histories: Join, Meet, through, Least, Greatest, Through, Steep, walked. -/
import Derived.Test.YtnoenmacakbhdaaFf
namespace Go.Proofs.Ytnoenmacakbhdaa
open Go.RowKit
set_option linter.unusedVariables false
set_option linter.unusedSimpArgs false

theorem mixL_full (f g : Nat → Int) (n : Nat) : mixL f g n n = (List.range n).map f := List.map_congr_left fun i hi => if_pos (List.mem_range.1 hi)
theorem hjoin1_s (x y : Int) (w : World) : Con Try.prog 90 #[.int .i64 x, .int .i64 y] w (Ret w (.int .i64 (max x y))) := by
  refine enter tabOk mixed Try.func90 rfl Try.ntmps90 Try.results90 [.v (.int .i64 x), .v (.int .i64 y)] (fun _ => none) [] 0 rfl rfl (hp0 _ _ _) ?_
  ((conv=>whnf);repeat(refine And.intro (by omega) ?_;(conv=>whnf)))
  exact EvRet.ret (fun _ => rfl)
set_option maxRecDepth 10000 in
theorem hjoin_comb (v1 v2 : Value) (a b : List Int) (w : World) (h1 : RowsIn rI w v1 a) (h2 : RowsIn rI w v2 b) (hl : a.length ≤ 2000000) :
    Con Try.prog 89 #[v1, v2, .func (.func 90) #[] #[]] w (RetRows rI 3 w (joinL a b)) := by
  obtain ⟨A1, c1, rfl, e1, e2⟩ := h1.form
  obtain ⟨A2, c2, rfl, e3, e4⟩ := h2.form
  obtain ⟨n, hn'⟩ : ∃ n, n = min a.length b.length := ⟨_, rfl⟩
  have hn : min (a.length : Int) (b.length : Int) = (n : Int) := by omega
  refine enter tabOk mixed Try.func89 rfl Try.ntmps89 Try.results89 [.s 0 1 a.length c1, .s 1 1 b.length c2, .f 90 []] (fun n => if n = 0 then A1 else A2) [⟨1, false, 3, 1, c2, .rows Int rI (b)⟩, ⟨0, false, 3, 1, c1, .rows Int rI (a)⟩] 2 rfl rfl (.ro (.ro (hp0 _ _ _) _ rfl rfl rfl (ro_rows h1 rfl _)) _ rfl rfl rfl (ro_rows h2 rfl _)) ?_
  ((conv=>whnf);repeat(refine And.intro (by omega) ?_;(conv=>whnf)))
  rw [hn]
  refine EvMake.full (R := rI) tyok22 rfl tyok3 rfl (by decide) 0 rfl n (by show 8 * n ≤ _; omega) (by omega) ?_
  rw [mixL_rep (fun i => max (a.getD i 0) (b.getD i 0)) (fun _ => 0) n 0 (fun _ _ => rfl)]
  ((conv=>whnf);repeat(refine And.intro (by omega) ?_;(conv=>whnf)))
  refine EvLoop.inv (α := Nat) (fun i => i ≤ n) (fun i => n - i) (fun i => [(17, [], .v (.int .i64 ((i : Int)))), (16, [], .v (.int .i64 ((n : Int)))), (7, [], .s 2 1 n n), (0, [], .s 0 1 a.length c1), (1, [], .s 1 1 b.length c2), (2, [], .f 90 [])])
    (fun i => [⟨2, true, 3, 1, n, .rows Int rI (mixL (fun i => max (a.getD i 0) (b.getD i 0)) (fun _ => 0) n i)⟩, ⟨1, false, 3, 1, c2, .rows Int rI (b)⟩, ⟨0, false, 3, 1, c1, .rows Int rI (a)⟩]) 3 0 (by omega) (Sub.of [] [] rfl ?_) ?_
  · ((repeat' (refine And.intro ?_ ?_)) <;> first | rfl | exact True.intro | omega)
  intro i hi
  have hll := mixL_len (fun i => max (a.getD i 0) (b.getD i 0)) (fun _ => 0) n i
  ((conv=>whnf);repeat(refine And.intro (by omega) ?_;(conv=>whnf)))
  refine EvIf.split (fun g => ?_) (fun g => ?_)
  · simp only [decide_eq_true_eq] at g
    have g1 := mixL_set (fun i => max (a.getD i 0) (b.getD i 0)) (fun _ => 0) n i (by omega)
    ((conv=>whnf);repeat(refine And.intro (by omega) ?_;(conv=>whnf)))
    (refine EvDraw.one (.q 0 (.q 1 (.q 2 (.q 3 (.q 4 (.q 5 (.q 6 (.q 7 (.q 8 (.q 9 (.q 10 (.n 11 true (.q 12 (.n 13 true (.z) (.e))) (.e))))))))))))) (by kernel_rfl) ?_)
    ((conv=>whnf);(repeat(refine And.intro ?_ ?_;(focus((first|omega|exact⟨rfl,True.intro⟩|exact⟨rfl,rfl,True.intro⟩|rfl|(simp only[List.length_set];first|omega|(refine⟨?_,?_⟩<;>omega)|(refine⟨?_,?_,?_⟩<;>omega))|(intro hg;(try simp only[bB]at hg);first|omega|(refine⟨?_,?_⟩<;>omega)|(refine⟨?_,?_,?_⟩<;>first|omega|(show _<_;(try simp only[List.length_set]);omega)|exact leT rfl))|(refine⟨?_,?_⟩<;>omega)|(refine⟨?_,?_,?_⟩<;>first|omega|(show _<_;(try simp only[List.length_set]);omega)|exact leT rfl)|(simp only[show rI.d=(0:Int)from rfl];omega));done));(conv=>whnf))))
    refine EvCall.plain Try.call90 (.v (.int .i64 (max (a.getD i 0) (b.getD i 0)))) rfl (fun ρ W hp => hjoin1_s _ _ W) ?_
    ((conv=>whnf);(repeat(refine And.intro ?_ ?_;(focus((first|omega|exact⟨rfl,True.intro⟩|exact⟨rfl,rfl,True.intro⟩|rfl|(simp only[List.length_set];first|omega|(refine⟨?_,?_⟩<;>omega)|(refine⟨?_,?_,?_⟩<;>omega))|(intro hg;(try simp only[bB]at hg);first|omega|(refine⟨?_,?_⟩<;>omega)|(refine⟨?_,?_,?_⟩<;>first|omega|(show _<_;(try simp only[List.length_set]);omega)|exact leT rfl))|(refine⟨?_,?_⟩<;>omega)|(refine⟨?_,?_,?_⟩<;>first|omega|(show _<_;(try simp only[List.length_set]);omega)|exact leT rfl)|(simp only[show rI.d=(0:Int)from rfl];omega));done));(conv=>whnf))))
    refine LoopI.back (i + 1) (by omega) (by omega) (Sub.of [] [] rfl ?_)
    ((repeat' (refine And.intro ?_ ?_)) <;> first | exact congrArg (Ct.rows Int rI) g1 | exact congrArg (Ct.rows Int rI) g1.symm | rfl | exact True.intro | omega)
  · simp only [decide_eq_false_iff_not] at g
    obtain rfl : i = n := by omega
    ((conv=>whnf);repeat(refine And.intro (by omega) ?_;(conv=>whnf)))
    exact EvRet.rows (R := rI) (by rw [joinL_len]; exact hn') (by rw [joinL_len]; omega) (by rw [mixL_full, hn']; rfl) rfl
set_option maxRecDepth 10000 in
theorem hjoin_s (v1 v2 : Value) (a b : List Int) (w : World) (h1 : RowsIn rI w v1 a) (h2 : RowsIn rI w v2 b) (hl : a.length ≤ 2000000) :
    Con Try.prog 51 #[v1, v2] w (RetRows rI 3 w (joinL a b)) := by
  obtain ⟨A1, c1, rfl, e1, e2⟩ := h1.form
  obtain ⟨A2, c2, rfl, e3, e4⟩ := h2.form
  refine enter tabOk mixed Try.func51 rfl Try.ntmps51 Try.results51 [.s 0 1 a.length c1, .s 1 1 b.length c2] (fun n => if n = 0 then A1 else A2) [⟨1, false, 3, 1, c2, .rows Int rI (b)⟩, ⟨0, false, 3, 1, c1, .rows Int rI (a)⟩] 2 rfl rfl (.ro (.ro (hp0 _ _ _) _ rfl rfl rfl (ro_rows h1 rfl _)) _ rfl rfl rfl (ro_rows h2 rfl _)) ?_
  ((conv=>whnf);repeat(refine And.intro (by omega) ?_;(conv=>whnf)))
  refine EvCall.rows (R := rI) (ty := 3) (xs := joinL a b) Try.call89 (fun ρ W hp => hjoin_comb _ _ a b W (hp.rowsIn (R := rI) (n := 0) rfl (by decide) e1 e2 1) (hp.rowsIn (R := rI) (n := 1) rfl (by decide) e3 e4 1) hl) (fun cap hc1 hc2 => ?_)
  ((conv=>whnf);repeat(refine And.intro (by omega) ?_;(conv=>whnf)))
  exact EvRet.rows (R := rI) rfl hc1 rfl rfl
theorem hmeet1_s (x y : Int) (w : World) : Con Try.prog 91 #[.int .i64 x, .int .i64 y] w (Ret w (.int .i64 (min x y))) := by
  refine enter tabOk mixed Try.func91 rfl Try.ntmps91 Try.results91 [.v (.int .i64 x), .v (.int .i64 y)] (fun _ => none) [] 0 rfl rfl (hp0 _ _ _) ?_
  ((conv=>whnf);repeat(refine And.intro (by omega) ?_;(conv=>whnf)))
  exact EvRet.ret (fun _ => rfl)
set_option maxRecDepth 10000 in
theorem hmeet_comb (v1 v2 : Value) (a b : List Int) (w : World) (h1 : RowsIn rI w v1 a) (h2 : RowsIn rI w v2 b) (hl : a.length ≤ 2000000) :
    Con Try.prog 89 #[v1, v2, .func (.func 91) #[] #[]] w (RetRows rI 3 w (meetL a b)) := by
  obtain ⟨A1, c1, rfl, e1, e2⟩ := h1.form
  obtain ⟨A2, c2, rfl, e3, e4⟩ := h2.form
  obtain ⟨n, hn'⟩ : ∃ n, n = min a.length b.length := ⟨_, rfl⟩
  have hn : min (a.length : Int) (b.length : Int) = (n : Int) := by omega
  refine enter tabOk mixed Try.func89 rfl Try.ntmps89 Try.results89 [.s 0 1 a.length c1, .s 1 1 b.length c2, .f 91 []] (fun n => if n = 0 then A1 else A2) [⟨1, false, 3, 1, c2, .rows Int rI (b)⟩, ⟨0, false, 3, 1, c1, .rows Int rI (a)⟩] 2 rfl rfl (.ro (.ro (hp0 _ _ _) _ rfl rfl rfl (ro_rows h1 rfl _)) _ rfl rfl rfl (ro_rows h2 rfl _)) ?_
  ((conv=>whnf);repeat(refine And.intro (by omega) ?_;(conv=>whnf)))
  rw [hn]
  refine EvMake.full (R := rI) tyok22 rfl tyok3 rfl (by decide) 0 rfl n (by show 8 * n ≤ _; omega) (by omega) ?_
  rw [mixL_rep (fun i => min (a.getD i 0) (b.getD i 0)) (fun _ => 0) n 0 (fun _ _ => rfl)]
  ((conv=>whnf);repeat(refine And.intro (by omega) ?_;(conv=>whnf)))
  refine EvLoop.inv (α := Nat) (fun i => i ≤ n) (fun i => n - i) (fun i => [(17, [], .v (.int .i64 ((i : Int)))), (16, [], .v (.int .i64 ((n : Int)))), (7, [], .s 2 1 n n), (0, [], .s 0 1 a.length c1), (1, [], .s 1 1 b.length c2), (2, [], .f 91 [])])
    (fun i => [⟨2, true, 3, 1, n, .rows Int rI (mixL (fun i => min (a.getD i 0) (b.getD i 0)) (fun _ => 0) n i)⟩, ⟨1, false, 3, 1, c2, .rows Int rI (b)⟩, ⟨0, false, 3, 1, c1, .rows Int rI (a)⟩]) 3 0 (by omega) (Sub.of [] [] rfl ?_) ?_
  · ((repeat' (refine And.intro ?_ ?_)) <;> first | rfl | exact True.intro | omega)
  intro i hi
  have hll := mixL_len (fun i => min (a.getD i 0) (b.getD i 0)) (fun _ => 0) n i
  ((conv=>whnf);repeat(refine And.intro (by omega) ?_;(conv=>whnf)))
  refine EvIf.split (fun g => ?_) (fun g => ?_)
  · simp only [decide_eq_true_eq] at g
    have g1 := mixL_set (fun i => min (a.getD i 0) (b.getD i 0)) (fun _ => 0) n i (by omega)
    ((conv=>whnf);repeat(refine And.intro (by omega) ?_;(conv=>whnf)))
    (refine EvDraw.one (.q 0 (.q 1 (.q 2 (.q 3 (.q 4 (.q 5 (.q 6 (.q 7 (.q 8 (.q 9 (.q 10 (.n 11 true (.q 12 (.n 13 true (.z) (.e))) (.e))))))))))))) (by kernel_rfl) ?_)
    ((conv=>whnf);(repeat(refine And.intro ?_ ?_;(focus((first|omega|exact⟨rfl,True.intro⟩|exact⟨rfl,rfl,True.intro⟩|rfl|(simp only[List.length_set];first|omega|(refine⟨?_,?_⟩<;>omega)|(refine⟨?_,?_,?_⟩<;>omega))|(intro hg;(try simp only[bB]at hg);first|omega|(refine⟨?_,?_⟩<;>omega)|(refine⟨?_,?_,?_⟩<;>first|omega|(show _<_;(try simp only[List.length_set]);omega)|exact leT rfl))|(refine⟨?_,?_⟩<;>omega)|(refine⟨?_,?_,?_⟩<;>first|omega|(show _<_;(try simp only[List.length_set]);omega)|exact leT rfl)|(simp only[show rI.d=(0:Int)from rfl];omega));done));(conv=>whnf))))
    refine EvCall.plain Try.call91 (.v (.int .i64 (min (a.getD i 0) (b.getD i 0)))) rfl (fun ρ W hp => hmeet1_s _ _ W) ?_
    ((conv=>whnf);(repeat(refine And.intro ?_ ?_;(focus((first|omega|exact⟨rfl,True.intro⟩|exact⟨rfl,rfl,True.intro⟩|rfl|(simp only[List.length_set];first|omega|(refine⟨?_,?_⟩<;>omega)|(refine⟨?_,?_,?_⟩<;>omega))|(intro hg;(try simp only[bB]at hg);first|omega|(refine⟨?_,?_⟩<;>omega)|(refine⟨?_,?_,?_⟩<;>first|omega|(show _<_;(try simp only[List.length_set]);omega)|exact leT rfl))|(refine⟨?_,?_⟩<;>omega)|(refine⟨?_,?_,?_⟩<;>first|omega|(show _<_;(try simp only[List.length_set]);omega)|exact leT rfl)|(simp only[show rI.d=(0:Int)from rfl];omega));done));(conv=>whnf))))
    refine LoopI.back (i + 1) (by omega) (by omega) (Sub.of [] [] rfl ?_)
    ((repeat' (refine And.intro ?_ ?_)) <;> first | exact congrArg (Ct.rows Int rI) g1 | exact congrArg (Ct.rows Int rI) g1.symm | rfl | exact True.intro | omega)
  · simp only [decide_eq_false_iff_not] at g
    obtain rfl : i = n := by omega
    ((conv=>whnf);repeat(refine And.intro (by omega) ?_;(conv=>whnf)))
    exact EvRet.rows (R := rI) (by rw [meetL_len]; exact hn') (by rw [meetL_len]; omega) (by rw [mixL_full, hn']; rfl) rfl
set_option maxRecDepth 10000 in
theorem hmeet_s (v1 v2 : Value) (a b : List Int) (w : World) (h1 : RowsIn rI w v1 a) (h2 : RowsIn rI w v2 b) (hl : a.length ≤ 2000000) :
    Con Try.prog 53 #[v1, v2] w (RetRows rI 3 w (meetL a b)) := by
  obtain ⟨A1, c1, rfl, e1, e2⟩ := h1.form
  obtain ⟨A2, c2, rfl, e3, e4⟩ := h2.form
  refine enter tabOk mixed Try.func53 rfl Try.ntmps53 Try.results53 [.s 0 1 a.length c1, .s 1 1 b.length c2] (fun n => if n = 0 then A1 else A2) [⟨1, false, 3, 1, c2, .rows Int rI (b)⟩, ⟨0, false, 3, 1, c1, .rows Int rI (a)⟩] 2 rfl rfl (.ro (.ro (hp0 _ _ _) _ rfl rfl rfl (ro_rows h1 rfl _)) _ rfl rfl rfl (ro_rows h2 rfl _)) ?_
  ((conv=>whnf);repeat(refine And.intro (by omega) ?_;(conv=>whnf)))
  refine EvCall.rows (R := rI) (ty := 3) (xs := meetL a b) Try.call89 (fun ρ W hp => hmeet_comb _ _ a b W (hp.rowsIn (R := rI) (n := 0) rfl (by decide) e1 e2 1) (hp.rowsIn (R := rI) (n := 1) rfl (by decide) e3 e4 1) hl) (fun cap hc1 hc2 => ?_)
  ((conv=>whnf);repeat(refine And.intro (by omega) ?_;(conv=>whnf)))
  exact EvRet.rows (R := rI) rfl hc1 rfl rfl
def hiF (d : Dc) (t v : Int) (i : Nat) : Int := highV d t (d.first + i) v
theorem meet_cap (d : Dc) (es : List Int) (t v : Int) : meetL es ((List.range es.length).map (hiF d t v)) = capL d es t v := by
  unfold meetL capL
  simp only [List.length_map, List.length_range, Nat.min_self]
  refine List.map_congr_left fun i hi => ?_
  rw [map_get _ _ _ (List.mem_range.1 hi)]
  rfl
set_option maxRecDepth 10000 in
theorem through_s (nm : ByteArray) (A : Option Addr) (ln c : Nat) (d : Dc) (v : Value) (es : List Int) (t val : Int) (w : World) (hv : RowsIn rI w v es) (hd : DcS d) (ht : 0 ≤ t ∧ t ≤ 1048576) (hx : -4611686018427387904 ≤ val ∧ val ≤ 4611686018427387904) (hf : 0 ≤ d.first) (hl : d.first + es.length ≤ 1048577) :
    Con Try.prog 85 #[.agg (dcCells nm (.slice A ln c) d), .int .i64 d.first, v, .int .i64 t, .int .i64 val] w (RetRows rI 3 w (capL d es t val)) := by
  obtain ⟨A1, c1, rfl, e1, e2⟩ := hv.form
  obtain ⟨n, hn⟩ : ∃ n, n = es.length := ⟨_, rfl⟩
  refine enter tabOk mixed Try.func85 rfl Try.ntmps85 Try.results85 [.a (dcS nm (.v (.slice A ln c)) d), .v (.int .i64 d.first), .s 0 1 es.length c1, .v (.int .i64 t), .v (.int .i64 val)] (fun _ => A1) [⟨0, false, 3, 1, c1, .rows Int rI (es)⟩] 1 rfl rfl (.ro (hp0 _ _ _) _ rfl rfl rfl (ro_rows hv rfl _)) ?_
  ((conv=>whnf);repeat(refine And.intro (by omega) ?_;(conv=>whnf)))
  refine EvMake.full (R := rI) tyok22 rfl tyok3 rfl (by decide) 0 rfl es.length (by show 8 * es.length ≤ _; omega) (by omega) ?_
  rw [mixL_rep (hiF d t val) (fun _ => 0) es.length 0 (fun _ _ => rfl)]
  ((conv=>whnf);repeat(refine And.intro (by omega) ?_;(conv=>whnf)))
  refine EvLoop.inv (α := Nat) (fun i => i ≤ es.length) (fun i => es.length - i) (fun i => [(20, [], .v (.int .i64 ((i : Int)))), (19, [], .v (.int .i64 ((es.length : Int)))), (11, [], .s 2 1 es.length es.length), (5, [], .p 1 0), (1, [], .v (.int .i64 (d.first))), (2, [], .s 0 1 es.length c1), (3, [], .v (.int .i64 (t))), (4, [], .v (.int .i64 (val)))])
    (fun i => [⟨2, true, 3, 1, es.length, .rows Int rI (mixL (hiF d t val) (fun _ => 0) es.length i)⟩, ⟨1, true, 27, 12, 1, .cs (dcS nm (.v (.slice A ln c)) d)⟩, ⟨0, false, 3, 1, c1, .rows Int rI (es)⟩]) 3 0 (by omega) (Sub.of [] [] rfl ?_) ?_
  · ((repeat' (refine And.intro ?_ ?_)) <;> first | rfl | exact True.intro | omega)
  intro i hi
  have hll := mixL_len (hiF d t val) (fun _ => 0) es.length i
  ((conv=>whnf);repeat(refine And.intro (by omega) ?_;(conv=>whnf)))
  refine EvIf.split (fun g => ?_) (fun g => ?_)
  · simp only [decide_eq_true_eq] at g
    have g1 := mixL_set (hiF d t val) (fun _ => 0) es.length i (by omega)
    ((conv=>whnf);repeat(refine And.intro (by omega) ?_;(conv=>whnf)))
    refine EvCall.plain Try.call65 (.t [.v (.int .i64 (lowV d t (d.first + i) val)), .v (.int .i64 (highV d t (d.first + i) val))]) rfl (fun ρ W hp => spread_s nm A ln c d t (d.first + i) val val W hd ht (by omega) hx hx) ?_
    ((conv=>whnf);(repeat(refine And.intro ?_ ?_;(focus((first|omega|exact⟨rfl,True.intro⟩|exact⟨rfl,rfl,True.intro⟩|rfl|(simp only[List.length_set];first|omega|(refine⟨?_,?_⟩<;>omega)|(refine⟨?_,?_,?_⟩<;>omega))|(intro hg;(try simp only[bB]at hg);first|omega|(refine⟨?_,?_⟩<;>omega)|(refine⟨?_,?_,?_⟩<;>first|omega|(show _<_;(try simp only[List.length_set]);omega)|exact leT rfl))|(refine⟨?_,?_⟩<;>omega)|(refine⟨?_,?_,?_⟩<;>first|omega|(show _<_;(try simp only[List.length_set]);omega)|exact leT rfl)|(simp only[show rI.d=(0:Int)from rfl];omega));done));(conv=>whnf))))
    refine LoopI.back (i + 1) (by omega) (by omega) (Sub.of [] [] rfl ?_)
    ((repeat' (refine And.intro ?_ ?_)) <;> first | exact congrArg (Ct.rows Int rI) g1 | exact congrArg (Ct.rows Int rI) g1.symm | rfl | exact True.intro | omega)
  · simp only [decide_eq_false_iff_not] at g
    obtain rfl : i = es.length := by omega
    rw [mixL_full]
    ((conv=>whnf);repeat(refine And.intro (by omega) ?_;(conv=>whnf)))
    refine EvCall.rows (R := rI) (ty := 3) (xs := capL d es t val) Try.call53 (fun ρ W hp => by
      have := hmeet_s _ _ es ((List.range es.length).map (hiF d t val)) W (hp.rowsIn (R := rI) (n := 0) (c := c1) rfl (by decide) e1 e2 1) (hp.rowsIn (R := rI) (n := 2) (c := es.length) rfl (by decide) (by simp) (by omega) 1) (by omega)
      rw [meet_cap, List.length_map, List.length_range] at this
      exact this) (fun cap hc1 hc2 => ?_)
    ((conv=>whnf);repeat(refine And.intro (by omega) ?_;(conv=>whnf)))
    exact EvRet.rows (R := rI) rfl hc1 rfl rfl
set_option maxRecDepth 10000 in
theorem hleast_s (V v : Value) (d : Dc) (l : List Cl) (w : World) (h : DeclIs w V d) (hI : DcI d) (hv : RowsIn rC w v l) :
    Con Try.prog 46 #[V, v] w (RetRowsE rI 3 w (newR d l).1.lo (newR d l).2) := by
  have hD := h
  obtain ⟨nm, A, c, lb, rfl, hnm, hl, hS⟩ := h
  obtain ⟨A1, c1, rfl, e1, e2⟩ := hv.form
  refine enter tabOk mixed Try.func46 rfl Try.ntmps46 Try.results46 [.a (dcS nm (.v (.slice A lb.length c)) d), .s 0 4 l.length c1] (fun _ => A1) [⟨0, false, 52, 4, c1, .rows Cl rC (l)⟩] 1 rfl rfl (.ro (hp0 _ _ _) _ rfl rfl rfl (ro_rows hv rfl _)) ?_
  ((conv=>whnf);repeat(refine And.intro (by omega) ?_;(conv=>whnf)))
  refine EvCall.two (ty := 3) (xs := (newR d l).1.lo) (ys := (newR d l).1.hi) (envES (newR d l).1.f (newR d l).2) (envES_den _ _) (envES_lt _ _) Try.call17 (fun ρ W hp => new_s _ _ d l W (hD.below hp.bel) hI (hp.rowsIn (R := rC) (n := 0) rfl (by decide) e1 e2 4)) (fun p1 p2 q1 q2 q3 q4 => ?_)
  ((conv=>whnf);repeat(refine And.intro (by omega) ?_;(conv=>whnf)))
  exact EvRet.rowsE (R := rI) (n := 2) rfl q1 rfl rfl rfl
set_option maxRecDepth 10000 in
theorem hgreat_s (V v : Value) (d : Dc) (l : List Cl) (w : World) (h : DeclIs w V d) (hI : DcI d) (hv : RowsIn rC w v l) :
    Con Try.prog 47 #[V, v] w (RetRowsE rI 3 w (newR d l).1.hi (newR d l).2) := by
  have hD := h
  obtain ⟨nm, A, c, lb, rfl, hnm, hl, hS⟩ := h
  obtain ⟨A1, c1, rfl, e1, e2⟩ := hv.form
  refine enter tabOk mixed Try.func47 rfl Try.ntmps47 Try.results47 [.a (dcS nm (.v (.slice A lb.length c)) d), .s 0 4 l.length c1] (fun _ => A1) [⟨0, false, 52, 4, c1, .rows Cl rC (l)⟩] 1 rfl rfl (.ro (hp0 _ _ _) _ rfl rfl rfl (ro_rows hv rfl _)) ?_
  ((conv=>whnf);repeat(refine And.intro (by omega) ?_;(conv=>whnf)))
  refine EvCall.two (ty := 3) (xs := (newR d l).1.lo) (ys := (newR d l).1.hi) (envES (newR d l).1.f (newR d l).2) (envES_den _ _) (envES_lt _ _) Try.call17 (fun ρ W hp => new_s _ _ d l W (hD.below hp.bel) hI (hp.rowsIn (R := rC) (n := 0) rfl (by decide) e1 e2 4)) (fun p1 p2 q1 q2 q3 q4 => ?_)
  ((conv=>whnf);repeat(refine And.intro (by omega) ?_;(conv=>whnf)))
  exact EvRet.rowsE (R := rI) (n := 3) rfl q3 rfl rfl rfl
/-- What Through returns. -/
noncomputable def thR (d : Dc) (l : List Cl) (t v : Int) : List Int × Int :=
  if (newR d l).2 ≠ 0 then ([], (newR d l).2) else if t < d.first ∨ d.last < t then ([], 9) else if v < rLo d l t ∨ rHi d l t < v then ([], 5) else (capL d (rHiL d l (spanN d)) t v, 0)
theorem two_ok {d : Dc} {l : List Cl} (hvc : validCode d = 0) (hll : l.length ≤ 4096) (hlv : ∀ c ∈ l, validB d c = true) :
    ((∀ i : Nat, i < spanN d → rLo d l (d.first + i) ≤ rHi d l (d.first + i)) ∧ newR d l = (⟨d.first, rLoL d l (spanN d), rHiL d l (spanN d)⟩, 0)) ∨ (¬ (∀ i : Nat, i < spanN d → rLo d l (d.first + i) ≤ rHi d l (d.first + i)) ∧ newR d l = (env0', 13)) := by
  have hbd := valid_bounds hvc
  exact newR_cases hvc hll hlv (by unfold spanN; omega)
set_option maxRecDepth 10000 in
theorem hthrough_s (V v : Value) (d : Dc) (l : List Cl) (t val : Int) (w : World) (h : DeclIs w V d) (hI : DcI d) (hvc : validCode d = 0) (hll : l.length ≤ 4096) (hlv : ∀ c ∈ l, validB d c = true) (hv : RowsIn rC w v l) (ht : -1000000000 ≤ t ∧ t ≤ 1000000000) :
    Con Try.prog 49 #[V, v, .int .i64 t, .int .i64 val] w (RetRowsE rI 3 w (thR d l t val).1 (thR d l t val).2) := by
  have hD := h
  obtain ⟨nm, A, c, lb, rfl, hnm, hl, hS⟩ := h
  obtain ⟨A1, c1, rfl, e1, e2⟩ := hv.form
  have hbd := valid_bounds hvc
  have hsp : (spanN d : Int) = d.last - d.first + 1 := by unfold spanN; omega
  have hl1 := rLoL_len d l (spanN d)
  have hl2 := rHiL_len d l (spanN d)
  refine enter tabOk mixed Try.func49 rfl Try.ntmps49 Try.results49 [.a (dcS nm (.v (.slice A lb.length c)) d), .s 0 4 l.length c1, .v (.int .i64 t), .v (.int .i64 val)] (fun _ => A1) [⟨0, false, 52, 4, c1, .rows Cl rC (l)⟩] 1 rfl rfl (.ro (hp0 _ _ _) _ rfl rfl rfl (ro_rows hv rfl _)) ?_
  ((conv=>whnf);repeat(refine And.intro (by omega) ?_;(conv=>whnf)))
  rcases two_ok hvc hll hlv with ⟨hok, hN⟩ | ⟨hno, hN⟩
  · skip
    refine EvCall.two (ty := 3) (xs := rLoL d l (spanN d)) (ys := rHiL d l (spanN d)) (envES d.first 0) (envES_den _ _) (envES_lt _ _) Try.call17 (fun ρ W hp => by
      have := new_s _ _ d l W (hD.below hp.bel) hI (hp.rowsIn (R := rC) (n := 0) (c := c1) rfl (by decide) e1 e2 4)
      rw [hN] at this
      exact this) (fun p1 p2 q1 q2 q3 q4 => ?_)
    ((conv=>whnf);repeat(refine And.intro (by omega) ?_;(conv=>whnf)))
    refine EvIf.neg rfl ?_
    ((conv=>whnf);repeat(refine And.intro (by omega) ?_;(conv=>whnf)))
    by_cases hin : t < d.first ∨ d.last < t
    · have hr : thR d l t val = ([], 9) := by rw [thR, hN, if_neg (by simp), if_pos hin]
      rw [hr]
      refine EvCall.plain Try.call27 (.t [.v (.int .i64 0), .v (.int .i64 0), .v (.int .i64 9)]) rfl (fun ρ W hp => by
        have := at_s ⟨d.first, rLoL d l (spanN d), rHiL d l (spanN d)⟩ _ _ _ _ _ _ t W (hp.rowsIn (R := rI) (n := 2) (c := p1) rfl (by decide) q1 q2 1) (hp.rowsIn (R := rI) (n := 3) (c := p2) rfl (by decide) q3 q4 1) ht (by show -1000000000 ≤ d.first ∧ d.first ≤ 1000000000; omega)
        rw [at_out hsp hin] at this
        exact this) ?_
      ((conv=>whnf);repeat(refine And.intro (by omega) ?_;(conv=>whnf)))
      refine EvIf.pos rfl ?_
      ((conv=>whnf);repeat(refine And.intro (by omega) ?_;(conv=>whnf)))
      exact EvRet.rowsE_nil rfl rfl
    refine EvCall.plain Try.call27 (.t [.v (.int .i64 (rLo d l t)), .v (.int .i64 (rHi d l t)), .v (.int .i64 0)]) rfl (fun ρ W hp => by
      have := at_s ⟨d.first, rLoL d l (spanN d), rHiL d l (spanN d)⟩ _ _ _ _ _ _ t W (hp.rowsIn (R := rI) (n := 2) (c := p1) rfl (by decide) q1 q2 1) (hp.rowsIn (R := rI) (n := 3) (c := p2) rfl (by decide) q3 q4 1) (by omega) (by show -1000000000 ≤ d.first ∧ d.first ≤ 1000000000; omega)
      rw [at_in hsp (by omega)] at this
      exact this) ?_
    ((conv=>whnf);repeat(refine And.intro (by omega) ?_;(conv=>whnf)))
    refine EvIf.neg rfl ?_
    ((conv=>whnf);repeat(refine And.intro (by omega) ?_;(conv=>whnf)))
    refine EvIf.split (fun g => ?_) (fun g => ?_)
    · simp only [Bool.or_eq_true, decide_eq_true_eq] at g
      have hr : thR d l t val = ([], 5) := by rw [thR, hN, if_neg (by simp), if_neg hin, if_pos g]
      rw [hr]
      ((conv=>whnf);repeat(refine And.intro (by omega) ?_;(conv=>whnf)))
      exact EvRet.rowsE_nil rfl rfl
    · simp only [Bool.or_eq_false_iff, decide_eq_false_iff_not] at g
      have hr : thR d l t val = (capL d (rHiL d l (spanN d)) t val, 0) := by rw [thR, hN, if_neg (by simp), if_neg hin, if_neg (fun h => by omega)]
      rw [hr]
      obtain ⟨hL, hH⟩ := rL_hist hvc hlv hsp hok
      have b1 := hist_bd5 hvc hL (t - d.first).toNat
      have b2 := hist_bd5 hvc hH (t - d.first).toNat
      rw [(rL_get d l (spanN d) (t - d.first).toNat (by omega)).1, show d.first + ((t - d.first).toNat : Int) = t by omega] at b1
      rw [(rL_get d l (spanN d) (t - d.first).toNat (by omega)).2, show d.first + ((t - d.first).toNat : Int) = t by omega] at b2
      ((conv=>whnf);repeat(refine And.intro (by omega) ?_;(conv=>whnf)))
      refine EvCall.rows (R := rI) (ty := 3) (xs := capL d (rHiL d l (spanN d)) t val) Try.call85 (fun ρ W hp => through_s nm A lb.length c d _ (rHiL d l (spanN d)) t val W (hp.rowsIn (R := rI) (n := 3) (c := p2) rfl (by decide) q3 q4 1) (dcS_of hvc) (by omega) (by omega) (by omega) (by omega)) (fun cap hc1 hc2 => ?_)
      ((conv=>whnf);repeat(refine And.intro (by omega) ?_;(conv=>whnf)))
      exact EvRet.rowsE (R := rI) rfl hc1 rfl rfl rfl
  · have hr : thR d l t val = ([], 13) := by rw [thR, hN, if_pos (by simp)]
    rw [hr]
    refine EvCall.two (ty := 3) (xs := []) (ys := []) (envES 0 13) (envES_den _ _) (envES_lt _ _) Try.call17 (fun ρ W hp => by
      have := new_s _ _ d l W (hD.below hp.bel) hI (hp.rowsIn (R := rC) (n := 0) (c := c1) rfl (by decide) e1 e2 4)
      rw [hN] at this
      exact this) (fun p1 p2 q1 q2 q3 q4 => ?_)
    ((conv=>whnf);repeat(refine And.intro (by omega) ?_;(conv=>whnf)))
    refine EvIf.pos rfl ?_
    ((conv=>whnf);repeat(refine And.intro (by omega) ?_;(conv=>whnf)))
    exact EvRet.rowsE_nil rfl rfl
/-- What Steep returns. -/
noncomputable def stM (d : Dc) (l : List Cl) (s t : Int) (down : Bool) : Int := if down then chLo d ⟨d.first, rLoL d l (spanN d), rHiL d l (spanN d)⟩ s t else chHi d ⟨d.first, rLoL d l (spanN d), rHiL d l (spanN d)⟩ s t
noncomputable def stR (d : Dc) (l : List Cl) (s t : Int) (down : Bool) : List Int × Int :=
  if (newR d l).2 ≠ 0 then ([], (newR d l).2) else if (s < d.first ∨ d.last < s) ∨ t < d.first ∨ d.last < t then ([], 9) else (stL d l (spanN d) (s - d.first).toNat (t - d.first).toNat (stM d l s t down), 0)
theorem st_facts {d : Dc} {l : List Cl} {s t : Int} {down : Bool} (hv : validCode d = 0) (hl : ∀ c ∈ l, validB d c = true) (hok : ∀ i : Nat, i < spanN d → rLo d l (d.first + i) ≤ rHi d l (d.first + i)) (hs : d.first ≤ s ∧ s ≤ d.last) (ht : d.first ≤ t ∧ t ≤ d.last) :
    (-1099511627776 ≤ rLo d l s ∧ rLo d l s ≤ 1099511627776) ∧ (-1099511627776 ≤ rLo d l t ∧ rLo d l t ≤ 1099511627776) ∧ -4398046511104 ≤ stM d l s t down ∧ stM d l s t down ≤ 4398046511104 := by
  have hbd := valid_bounds hv
  have hsp : (spanN d : Int) = d.last - d.first + 1 := by unfold spanN; omega
  obtain ⟨hL, hH⟩ := rL_hist hv hl hsp hok
  have key : ∀ x, d.first ≤ x → x ≤ d.last → (-1099511627776 ≤ rLo d l x ∧ rLo d l x ≤ 1099511627776) ∧ -1099511627776 ≤ rHi d l x ∧ rHi d l x ≤ 1099511627776 := by
    intro x h1 h2
    have b1 := hist_bd5 hv hL (x - d.first).toNat
    have b2 := hist_bd5 hv hH (x - d.first).toNat
    rw [(rL_get d l (spanN d) (x - d.first).toNat (by omega)).1, show d.first + ((x - d.first).toNat : Int) = x by omega] at b1
    rw [(rL_get d l (spanN d) (x - d.first).toNat (by omega)).2, show d.first + ((x - d.first).toNat : Int) = x by omega] at b2
    exact ⟨b1, b2⟩
  have k1 := key s hs.1 hs.2
  have k2 := key t ht.1 ht.2
  have q := ch_eq (d := d) (l := l) (n := spanN d) (i := (s - d.first).toNat) (k := (t - d.first).toNat) (by omega) (by omega)
  have l0 := low0_bd hv ((s - d.first).toNat : Int) ((t - d.first).toNat : Int) (by omega)
  have h0 := high0_bd hv ((s - d.first).toNat : Int) ((t - d.first).toNat : Int) (by omega)
  rw [show d.first + ((s - d.first).toNat : Int) = s by omega, show d.first + ((t - d.first).toNat : Int) = t by omega] at q
  refine ⟨k1.1, k2.1, ?_⟩
  unfold stM
  split
  · rw [q.1]; omega
  · rw [q.2]; omega
set_option maxRecDepth 20000 in
theorem hsteep_s (V v : Value) (d : Dc) (l : List Cl) (s t : Int) (down : Bool) (w : World) (h : DeclIs w V d) (hI : DcI d) (hvc : validCode d = 0) (hll : l.length ≤ 4096) (hlv : ∀ c ∈ l, validB d c = true) (hv : RowsIn rC w v l) (hs : -1000000000 ≤ s ∧ s ≤ 1000000000) (ht : -1000000000 ≤ t ∧ t ≤ 1000000000) (hf : d.first ≤ 1000000) :
    Con Try.prog 42 #[V, v, .int .i64 s, .int .i64 t, .bool down] w (RetRowsE rI 3 w (stR d l s t down).1 (stR d l s t down).2) := by
  have hD := h
  obtain ⟨nm, A, c, lb, rfl, hnm, hl, hS⟩ := h
  obtain ⟨A1, c1, rfl, e1, e2⟩ := hv.form
  have hbd := valid_bounds hvc
  have hsp : (spanN d : Int) = d.last - d.first + 1 := by unfold spanN; omega
  have hl1 := rLoL_len d l (spanN d)
  have hl2 := rHiL_len d l (spanN d)
  refine enter tabOk mixed Try.func42 rfl Try.ntmps42 Try.results42 [.a (dcS nm (.v (.slice A lb.length c)) d), .s 0 4 l.length c1, .v (.int .i64 s), .v (.int .i64 t), .v (.bool down)] (fun _ => A1) [⟨0, false, 52, 4, c1, .rows Cl rC (l)⟩] 1 rfl rfl (.ro (hp0 _ _ _) _ rfl rfl rfl (ro_rows hv rfl _)) ?_
  ((conv=>whnf);repeat(refine And.intro (by omega) ?_;(conv=>whnf)))
  rcases two_ok hvc hll hlv with ⟨hok, hN⟩ | ⟨hno, hN⟩
  · obtain ⟨hL, hH⟩ := rL_hist hvc hlv hsp hok
    have hcb : ∀ i, (-1099511627776 ≤ (rLoL d l (spanN d)).getD i 0 ∧ (rLoL d l (spanN d)).getD i 0 ≤ 1099511627776) ∧ -1099511627776 ≤ (rHiL d l (spanN d)).getD i 0 ∧ (rHiL d l (spanN d)).getD i 0 ≤ 1099511627776 := fun i => ⟨hist_bd5 hvc hL i, hist_bd5 hvc hH i⟩
    refine EvCall.two (ty := 3) (xs := rLoL d l (spanN d)) (ys := rHiL d l (spanN d)) (envES d.first 0) (envES_den _ _) (envES_lt _ _) Try.call17 (fun ρ W hp => by
      have := new_s _ _ d l W (hD.below hp.bel) hI (hp.rowsIn (R := rC) (n := 0) (c := c1) rfl (by decide) e1 e2 4)
      rw [hN] at this
      exact this) (fun p1 p2 q1 q2 q3 q4 => ?_)
    ((conv=>whnf);repeat(refine And.intro (by omega) ?_;(conv=>whnf)))
    refine EvIf.neg rfl ?_
    ((conv=>whnf);repeat(refine And.intro (by omega) ?_;(conv=>whnf)))
    have hcall := fun (ρ : Rho) (W : World) (hp : Hp (refOf w) ρ [⟨4, true, 32, 3, 1, .cs [.v (.int .i64 d.first), .s 2 1 (rLoL d l (spanN d)).length p1, .s 3 1 (rHiL d l (spanN d)).length p2]⟩, ⟨3, true, 3, 1, p2, .rows Int rI (rHiL d l (spanN d))⟩, ⟨2, true, 3, 1, p1, .rows Int rI (rLoL d l (spanN d))⟩, ⟨1, true, 27, 12, 1, .cs (dcS nm (.v (.slice A lb.length c)) d)⟩, ⟨0, false, 52, 4, c1, .rows Cl rC l⟩] 5 W) => change_s (.agg (dcCells nm (.slice A lb.length c) d)) d ⟨d.first, rLoL d l (spanN d), rHiL d l (spanN d)⟩ _ _ _ _ _ _ s t W (hD.below hp.bel) hI hvc (hp.rowsIn (R := rI) (n := 2) (c := p1) rfl (by decide) q1 q2 1) (hp.rowsIn (R := rI) (n := 3) (c := p2) rfl (by decide) q3 q4 1) hs ht (by show 0 ≤ d.first ∧ d.first ≤ 1000000; omega) (by show (rLoL d l (spanN d)).length ≤ 4096; omega) hcb
    by_cases hin : (s < d.first ∨ d.last < s) ∨ t < d.first ∨ d.last < t
    · have hr : stR d l s t down = ([], 9) := by rw [stR, hN, if_neg (by simp), if_pos hin]
      have hch : chR d ⟨d.first, rLoL d l (spanN d), rHiL d l (spanN d)⟩ s t = (0, 0, 9) := if_neg (fun h => by unfold inE at h; simp only at h; omega)
      rw [hr]
      refine EvCall.plain Try.call20 (.t [.v (.int .i64 0), .v (.int .i64 0), .v (.int .i64 9)]) rfl (fun ρ W hp => by have := hcall ρ W hp; rw [hch] at this; exact this) ?_
      ((conv=>whnf);repeat(refine And.intro (by omega) ?_;(conv=>whnf)))
      refine EvIf.pos rfl ?_
      ((conv=>whnf);repeat(refine And.intro (by omega) ?_;(conv=>whnf)))
      exact EvRet.rowsE_nil rfl rfl
    have hch : chR d ⟨d.first, rLoL d l (spanN d), rHiL d l (spanN d)⟩ s t = (chLo d ⟨d.first, rLoL d l (spanN d), rHiL d l (spanN d)⟩ s t, chHi d ⟨d.first, rLoL d l (spanN d), rHiL d l (spanN d)⟩ s t, 0) := if_pos ⟨by unfold inE; simp only; omega, by unfold inE; simp only; omega⟩
    have hr : stR d l s t down = (capL d (capL d (rHiL d l (spanN d)) s (max (rLo d l s) (rLo d l t - stM d l s t down))) t (max (rLo d l s) (rLo d l t - stM d l s t down) + stM d l s t down), 0) := by
      rw [stR, hN, if_neg (by simp), if_neg hin]
      unfold stL stA
      rw [show d.first + ((s - d.first).toNat : Int) = s by omega, show d.first + ((t - d.first).toNat : Int) = t by omega]
    obtain ⟨f1, f2, f3⟩ := st_facts (s := s) (t := t) (down := down) hvc hlv hok (by omega) (by omega)
    rw [hr]
    refine EvCall.plain Try.call20 (.t [.v (.int .i64 (chLo d ⟨d.first, rLoL d l (spanN d), rHiL d l (spanN d)⟩ s t)), .v (.int .i64 (chHi d ⟨d.first, rLoL d l (spanN d), rHiL d l (spanN d)⟩ s t)), .v (.int .i64 0)]) rfl (fun ρ W hp => by have := hcall ρ W hp; rw [hch] at this; exact this) ?_
    cases down with
    | true =>
      have hm : stM d l s t true = chLo d ⟨d.first, rLoL d l (spanN d), rHiL d l (spanN d)⟩ s t := rfl
      rw [hm] at f3 ⊢
      generalize chLo d ⟨d.first, rLoL d l (spanN d), rHiL d l (spanN d)⟩ s t = m at f3 ⊢
      ((conv=>whnf);repeat(refine And.intro (by omega) ?_;(conv=>whnf)))
      refine EvIf.neg rfl ?_
      ((conv=>whnf);repeat(refine And.intro (by omega) ?_;(conv=>whnf)))
      refine EvIf.pos rfl ?_
      ((conv=>whnf);repeat(refine And.intro (by omega) ?_;(conv=>whnf)))
      refine EvCall.plain Try.call27 (.t [.v (.int .i64 (rLo d l s)), .v (.int .i64 (rHi d l s)), .v (.int .i64 0)]) rfl (fun ρ W hp => by
        have := at_s ⟨d.first, rLoL d l (spanN d), rHiL d l (spanN d)⟩ _ _ _ _ _ _ s W (hp.rowsIn (R := rI) (n := 2) (c := p1) rfl (by decide) q1 q2 1) (hp.rowsIn (R := rI) (n := 3) (c := p2) rfl (by decide) q3 q4 1) (by omega) (by show -1000000000 ≤ d.first ∧ d.first ≤ 1000000000; omega)
        rw [at_in hsp (by omega)] at this
        exact this) ?_
      ((conv=>whnf);repeat(refine And.intro (by omega) ?_;(conv=>whnf)))
      refine EvCall.plain Try.call27 (.t [.v (.int .i64 (rLo d l t)), .v (.int .i64 (rHi d l t)), .v (.int .i64 0)]) rfl (fun ρ W hp => by
        have := at_s ⟨d.first, rLoL d l (spanN d), rHiL d l (spanN d)⟩ _ _ _ _ _ _ t W (hp.rowsIn (R := rI) (n := 2) (c := p1) rfl (by decide) q1 q2 1) (hp.rowsIn (R := rI) (n := 3) (c := p2) rfl (by decide) q3 q4 1) (by omega) (by show -1000000000 ≤ d.first ∧ d.first ≤ 1000000000; omega)
        rw [at_in hsp (by omega)] at this
        exact this) ?_
      ((conv=>whnf);repeat(refine And.intro (by omega) ?_;(conv=>whnf)))
      (refine EvDraw.one (.q 0 (.q 1 (.q 2 (.q 3 (.q 4 (.q 5 (.q 6 (.q 7 (.q 8 (.q 9 (.q 11 (.q 12 (.q 13 (.q 14 (.n 10 false (.n 15 true (.q 16 (.q 17 (.z))) (.e)) (.e)))))))))))))))) (by kernel_rfl) ?_)
      ((conv=>whnf);repeat(refine And.intro (by omega) ?_;(conv=>whnf)))
      refine EvCall.rows (R := rI) (ty := 3) (xs := capL d (rHiL d l (spanN d)) s (max (rLo d l s) (rLo d l t - m))) Try.call85 (fun ρ W hp => through_s nm A lb.length c d _ (rHiL d l (spanN d)) s _ W (hp.rowsIn (R := rI) (n := 3) (c := p2) rfl (by decide) q3 q4 1) (dcS_of hvc) (by omega) (by omega) (by omega) (by omega)) (fun cap hc1 hc2 => ?_)
      ((conv=>whnf);repeat(refine And.intro (by omega) ?_;(conv=>whnf)))
      refine EvCall.rows (R := rI) (ty := 3) (xs := capL d (capL d (rHiL d l (spanN d)) s (max (rLo d l s) (rLo d l t - m))) t (max (rLo d l s) (rLo d l t - m) + m)) Try.call85 (fun ρ W hp => through_s nm A lb.length c d _ _ t _ W (hp.rowsIn (R := rI) (n := 5) (c := cap) (xs := capL d (rHiL d l (spanN d)) s (max (rLo d l s) (rLo d l t - m))) rfl (by decide) hc1 hc2 1) (dcS_of hvc) (by omega) (by omega) (by omega) (by rw [capL_len]; omega)) (fun cap2 hc3 hc4 => ?_)
      ((conv=>whnf);repeat(refine And.intro (by omega) ?_;(conv=>whnf)))
      exact EvRet.rowsE (R := rI) rfl hc3 rfl rfl rfl
    | false =>
      have hm : stM d l s t false = chHi d ⟨d.first, rLoL d l (spanN d), rHiL d l (spanN d)⟩ s t := rfl
      rw [hm] at f3 ⊢
      generalize chHi d ⟨d.first, rLoL d l (spanN d), rHiL d l (spanN d)⟩ s t = m at f3 ⊢
      ((conv=>whnf);repeat(refine And.intro (by omega) ?_;(conv=>whnf)))
      refine EvIf.neg rfl ?_
      ((conv=>whnf);repeat(refine And.intro (by omega) ?_;(conv=>whnf)))
      refine EvIf.neg rfl ?_
      ((conv=>whnf);repeat(refine And.intro (by omega) ?_;(conv=>whnf)))
      refine EvCall.plain Try.call27 (.t [.v (.int .i64 (rLo d l s)), .v (.int .i64 (rHi d l s)), .v (.int .i64 0)]) rfl (fun ρ W hp => by
        have := at_s ⟨d.first, rLoL d l (spanN d), rHiL d l (spanN d)⟩ _ _ _ _ _ _ s W (hp.rowsIn (R := rI) (n := 2) (c := p1) rfl (by decide) q1 q2 1) (hp.rowsIn (R := rI) (n := 3) (c := p2) rfl (by decide) q3 q4 1) (by omega) (by show -1000000000 ≤ d.first ∧ d.first ≤ 1000000000; omega)
        rw [at_in hsp (by omega)] at this
        exact this) ?_
      ((conv=>whnf);repeat(refine And.intro (by omega) ?_;(conv=>whnf)))
      refine EvCall.plain Try.call27 (.t [.v (.int .i64 (rLo d l t)), .v (.int .i64 (rHi d l t)), .v (.int .i64 0)]) rfl (fun ρ W hp => by
        have := at_s ⟨d.first, rLoL d l (spanN d), rHiL d l (spanN d)⟩ _ _ _ _ _ _ t W (hp.rowsIn (R := rI) (n := 2) (c := p1) rfl (by decide) q1 q2 1) (hp.rowsIn (R := rI) (n := 3) (c := p2) rfl (by decide) q3 q4 1) (by omega) (by show -1000000000 ≤ d.first ∧ d.first ≤ 1000000000; omega)
        rw [at_in hsp (by omega)] at this
        exact this) ?_
      ((conv=>whnf);repeat(refine And.intro (by omega) ?_;(conv=>whnf)))
      (refine EvDraw.one (.q 0 (.q 1 (.q 2 (.q 3 (.q 4 (.q 5 (.q 6 (.q 7 (.q 8 (.q 9 (.q 11 (.q 12 (.q 13 (.q 14 (.n 10 false (.n 15 true (.q 16 (.q 17 (.z))) (.e)) (.e)))))))))))))))) (by kernel_rfl) ?_)
      ((conv=>whnf);repeat(refine And.intro (by omega) ?_;(conv=>whnf)))
      refine EvCall.rows (R := rI) (ty := 3) (xs := capL d (rHiL d l (spanN d)) s (max (rLo d l s) (rLo d l t - m))) Try.call85 (fun ρ W hp => through_s nm A lb.length c d _ (rHiL d l (spanN d)) s _ W (hp.rowsIn (R := rI) (n := 3) (c := p2) rfl (by decide) q3 q4 1) (dcS_of hvc) (by omega) (by omega) (by omega) (by omega)) (fun cap hc1 hc2 => ?_)
      ((conv=>whnf);repeat(refine And.intro (by omega) ?_;(conv=>whnf)))
      refine EvCall.rows (R := rI) (ty := 3) (xs := capL d (capL d (rHiL d l (spanN d)) s (max (rLo d l s) (rLo d l t - m))) t (max (rLo d l s) (rLo d l t - m) + m)) Try.call85 (fun ρ W hp => through_s nm A lb.length c d _ _ t _ W (hp.rowsIn (R := rI) (n := 5) (c := cap) (xs := capL d (rHiL d l (spanN d)) s (max (rLo d l s) (rLo d l t - m))) rfl (by decide) hc1 hc2 1) (dcS_of hvc) (by omega) (by omega) (by omega) (by rw [capL_len]; omega)) (fun cap2 hc3 hc4 => ?_)
      ((conv=>whnf);repeat(refine And.intro (by omega) ?_;(conv=>whnf)))
      exact EvRet.rowsE (R := rI) rfl hc3 rfl rfl rfl
  · have hr : stR d l s t down = ([], 13) := by rw [stR, hN, if_pos (by simp)]
    rw [hr]
    refine EvCall.two (ty := 3) (xs := []) (ys := []) (envES 0 13) (envES_den _ _) (envES_lt _ _) Try.call17 (fun ρ W hp => by
      have := new_s _ _ d l W (hD.below hp.bel) hI (hp.rowsIn (R := rC) (n := 0) (c := c1) rfl (by decide) e1 e2 4)
      rw [hN] at this
      exact this) (fun p1 p2 q1 q2 q3 q4 => ?_)
    ((conv=>whnf);repeat(refine And.intro (by omega) ?_;(conv=>whnf)))
    refine EvIf.pos rfl ?_
    ((conv=>whnf);repeat(refine And.intro (by omega) ?_;(conv=>whnf)))
    exact EvRet.rowsE_nil rfl rfl
end Go.Proofs.Ytnoenmacakbhdaa
