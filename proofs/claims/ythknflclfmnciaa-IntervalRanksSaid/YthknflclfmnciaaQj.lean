
/- Lists of fractions sorted in place; the k-th of intervals; walked. -/
import Derived.Test.YthknflclfmnciaaQi
namespace Go.Proofs.Ythknflclfmnciaa
open Go.RowKit
set_option linter.unusedVariables false
set_option linter.unusedSimpArgs false

section
variable {kp : Bool} {P : Program} {w : Ref} {L : List Ob} {nx : Nat} {k : SV → List Ob → Nat → Prop} {α : Type} {R : RowS α}
/-- make([]T, 0, n). -/
theorem EvMake.cap {t ty : TypeId} {ti te : TI} (ht : TyOk P t ti) (hd : ti.d = .slice ty) (hty : TyOk P ty te) (hsz : te.size = R.cols.length) (hpos : 0 < R.cols.length) (z : α) (hz : te.zero.cells.toList = R.cols.map (fun f => f z)) (n : Nat) (hb : te.bytes * n ≤ 140737488355328) (hn : n ≤ 9223372036854775807)
    (hk : k (.s nx R.cols.length 0 n) (⟨nx, true, ty, R.cols.length, n, .rows α R []⟩ :: L) (nx + 1)) : EvMake kp P w t (.v (.int .i64 0)) (.v (.int .i64 (n : Int))) L nx k := by
  refine ⟨fun ρ W hp => ?_⟩
  obtain ⟨_, j, hj1, hj2, hj3, hj4, _⟩ := hty
  have hb' : (j.bytes : Int) * (n : Int) ≤ 281474976710656 := by
    have h : ((j.bytes * n : Nat) : Int) ≤ 281474976710656 := by rw [hj3]; omega
    rwa [Int.natCast_mul] at h
  have hrun := run_make (P := P) (w := W) t ty j te.zero (by rw [ht.1, hd]) hj1 hj4 .i64 .i64 0 n (by omega) (by omega) hb' (by omega)
  simp only [Int.toNat_natCast] at hrun
  have hzl : te.zero.cells.toList.length = R.cols.length := by rw [hz]; simp
  have hcells : (madeCells te.zero.cells (n * j.size)).toList = rowC R (List.replicate n z) := by
    have := range_rep te.zero.cells.toList (by rw [hzl]; exact hpos) n
    rw [hzl] at this
    have e : n * j.size = n * R.cols.length := by rw [hj2, hsz]
    rw [e]
    unfold madeCells
    simp only [Array.toArray_toList] at this
    rw [this, hz]
    simp [rowC, List.flatMap_replicate]
  have hblk : Blk (W.alloc (.cells (madeCells te.zero.cells (n * j.size)) ty)) W.heap.size ty (rowC R (List.replicate n z)).toArray := by
    have := Blk.new W ty (madeCells te.zero.cells (n * j.size))
    rw [← hcells]
    simpa using this
  refine ⟨_, _, hrun, (fun _ => (Below.refl _ _).alloc (Nat.le_refl _) _), upd ρ nx (some ⟨W.heap.size, 0, none⟩), .s nx R.cols.length 0 n, _, nx + 1, by simp [den, upd_same], agree_upd ρ nx _, by omega, by simp [SV.lt, blt_iff], ?_, hk⟩
  refine hp.new ((Below.refl _ _).alloc (Nat.le_refl _) _) _ _ rfl rfl rfl (.inr ⟨W.heap.size, rowC R (List.replicate n z), upd_same _ _ _, Nat.le_refl _, ?_, by simpa [maxLen] using hn, ?_⟩)
  · have : (Ct.rows α R []).cells (upd ρ nx (some ⟨W.heap.size, 0, none⟩)) = [] := rfl
    simp only [this, rowC_len]
    simp
  · have : (Ct.rows α R []).cells (upd ρ nx (some ⟨W.heap.size, 0, none⟩)) = [] := rfl
    simp only [this, List.nil_append]
    exact hblk
end
def ofV (cs : List Value) : Option Iv :=
  match cs with
  | [.int .i64 a, .int .i64 b, .int .i64 c, .int .i64 d] => some ⟨⟨a, b⟩, ⟨c, d⟩⟩
  | _ => none
theorem ofV_law (cs : List Value) (x : Iv) (h : ofV cs = some x) : [Value.int .i64 x.lo.n, Value.int .i64 x.lo.d, Value.int .i64 x.hi.n, Value.int .i64 x.hi.d] = cs := by
  unfold ofV at h
  split at h
  · simp at h
    subst h
    rfl
  · cases h
def rV : RowS Iv := { cols := [fun e => .int .i64 e.lo.n, fun e => .int .i64 e.lo.d, fun e => .int .i64 e.hi.n, fun e => .int .i64 e.hi.d], d := iv0, of := ofV, law := fun cs x h => ofV_law cs x h, one := fun x f hf => by simp at hf; rcases hf with rfl | rfl | rfl | rfl <;> rfl }
theorem len_s (n : Int) (h1 : 0 ≤ n) (h2 : n ≤ 12) : ∃ z : Int, ∀ w : World, Con Try.prog 72 #[.int .u64 n] w (Ret w (.int .i64 z)) := by
  exact ⟨_, fun w => ⟨(Try.bits_Len n w h1 (by omega)).mono fun e w' h => ret_eq h⟩⟩
/-- The k-th of intervals. -/
def kthF (l : List Iv) (k : Int) : Iv × Int :=
  if k < 1 ∨ (l.length : Int) < k then (iv0, 1) else
  if ∀ x ∈ l, vI x then (⟨(sortF (l.map Iv.lo)).getD (k - 1).toNat fr0, (sortF (l.map Iv.hi)).getD (k - 1).toNat fr0⟩, 0) else (iv0, 1)
theorem kthF_bad {l : List Iv} {k : Int} {x : Iv} (hx : x ∈ l) (h : ¬ vI x) : kthF l k = (iv0, 1) := by
  unfold kthF
  split
  · rfl
  · rw [if_neg (fun h2 => h (h2 x hx))]
theorem kthF_out {l : List Iv} {k : Int} (h : k < 1 ∨ (l.length : Int) < k) : kthF l k = (iv0, 1) := by
  unfold kthF
  rw [if_pos h]
theorem kthF_ok {l : List Iv} {k : Int} (h : ¬ (k < 1 ∨ (l.length : Int) < k)) (hv : ∀ x ∈ l, vI x) : kthF l k = (⟨(sortF (l.map Iv.lo)).getD (k - 1).toNat fr0, (sortF (l.map Iv.hi)).getD (k - 1).toNat fr0⟩, 0) := by
  unfold kthF
  rw [if_neg h, if_pos hv]
theorem map_take_snoc {l : List Iv} (f : Iv → Fq) {i : Nat} (h : i < l.length) : (l.take i).map f ++ [f (l.getD i iv0)] = (l.take (i + 1)).map f := by
  rw [take_snoc l i iv0 h]
  simp
theorem getD_memV {l : List Iv} {i : Nat} (h : i < l.length) : l.getD i iv0 ∈ l := by
  rw [List.getD_eq_getElem?_getD, List.getElem?_eq_getElem h]
  exact List.getElem_mem h
set_option maxRecDepth 10000 in
theorem kth_s (v : Value) (l : List Iv) (k : Int) (w : World) (hv : RowsIn rV w v l) (hn : l.length ≤ 12) (hk : -9223372036854775808 ≤ k ∧ k ≤ 9223372036854775807) : Con Try.prog 14 #[v, .int .i64 k] w (Ret w (ieV (kthF l k))) := by
  obtain ⟨A1, c1, rfl, e1, e2⟩ := hv.form
  obtain ⟨lf, hlf⟩ := len_s (l.length : Int) (by omega) (by omega)
  rw [← u64_in (l.length : Int) (by omega)] at hlf
  refine enter tabOk mixed Try.func14 rfl Try.ntmps14 Try.results14 [.s 0 4 l.length c1, .v (.int .i64 k)] (fun _ => A1) [⟨0, false, 27, 4, c1, .rows Iv rV (l)⟩] 1 rfl rfl (.ro (hp0 _ _ _) _ rfl rfl rfl (ro_rows hv rfl _)) ?_
  ((conv=>whnf);repeat(refine And.intro (by omega) ?_;(conv=>whnf)))
  refine EvIf.split (fun g1 => ?_) (fun g1 => ?_)
  · have g2 : k < 1 ∨ (l.length : Int) < k := by simpa using g1
    ((conv=>whnf);repeat(refine And.intro (by omega) ?_;(conv=>whnf)))
    exact EvRet.ret (fun _ => by rw [kthF_out g2]; rfl)
  have g2 : ¬ (k < 1 ∨ (l.length : Int) < k) := by
    simp only [Bool.or_eq_false_iff, decide_eq_false_iff_not] at g1
    omega
  ((conv=>whnf);repeat(refine And.intro (by omega) ?_;(conv=>whnf)))
  refine EvDraw.meet (.q 0 (.q 1 (.q 3 (.q 4 (.n 2 false (.q 6 (.n 5 false (.q 7 (.z)) (.e))) (.n 5 false (.n 2 false (.q 6 (.q 7 (.z))) (.e)) (.e))))))) (by kernel_rfl) (α := Unit) (fun _ => True) (fun _ => [(0, [], .s 0 4 l.length c1), (1, [], .v (.int .i64 (k))), (4, [], .p 1 0), (6, [], .s 2 2 0 l.length), (7, [], .s 3 2 0 l.length)])
    (fun _ => [⟨2, true, 25, 2, l.length, .rows Fq rF ([])⟩, ⟨3, true, 25, 2, l.length, .rows Fq rF ([])⟩, ⟨1, true, 27, 4, 1, .cs (iS iv0)⟩, ⟨0, false, 27, 4, c1, .rows Iv rV (l)⟩]) 4 ?_ ?_
  · ((conv=>whnf);repeat(refine And.intro (by omega) ?_;(conv=>whnf)))
    refine And.intro ?_ ?_
    · ((conv=>whnf);repeat(refine And.intro (by omega) ?_;(conv=>whnf)))
      refine EvMake.cap (R := rF) tyok49 rfl tyok25 rfl (by decide) fr0 rfl l.length (by show 16 * l.length ≤ _; omega) (by omega) ?_
      ((conv=>whnf);repeat(refine And.intro (by omega) ?_;(conv=>whnf)))
      refine EvMake.cap (R := rF) tyok49 rfl tyok25 rfl (by decide) fr0 rfl l.length (by show 16 * l.length ≤ _; omega) (by omega) ?_
      ((conv=>whnf);repeat(refine And.intro (by omega) ?_;(conv=>whnf)))
      refine Exists.intro () (And.intro trivial (Sub.of [] [] rfl ?_))
      ((repeat' (refine And.intro ?_ ?_)) <;> first | rfl | exact True.intro | omega)
    ((conv=>whnf);repeat(refine And.intro (by omega) ?_;(conv=>whnf)))
    refine EvMake.cap (R := rF) tyok49 rfl tyok25 rfl (by decide) fr0 rfl l.length (by show 16 * l.length ≤ _; omega) (by omega) ?_
    ((conv=>whnf);repeat(refine And.intro (by omega) ?_;(conv=>whnf)))
    refine EvMake.cap (R := rF) tyok49 rfl tyok25 rfl (by decide) fr0 rfl l.length (by show 16 * l.length ≤ _; omega) (by omega) ?_
    ((conv=>whnf);repeat(refine And.intro (by omega) ?_;(conv=>whnf)))
    refine Exists.intro () (And.intro trivial (Sub.of [(2, 3), (3, 2)] [] rfl ?_))
    ((repeat' (refine And.intro ?_ ?_)) <;> first | rfl | exact True.intro | omega)
  intro _ _
  ((conv=>whnf);repeat(refine And.intro (by omega) ?_;(conv=>whnf)))
  refine EvLoop.inv (α := Nat × Nat × Nat) (fun p => p.1 ≤ l.length ∧ (p.1 ≤ p.2.1 ∧ p.2.1 ≤ 9223372036854775807) ∧ (p.1 ≤ p.2.2 ∧ p.2.2 ≤ 9223372036854775807) ∧ ∀ x ∈ l.take p.1, vI x) (fun p => l.length - p.1)
    (fun p => [(27, [], .v (.int .i64 ((p.1 : Int)))), (26, [], .v (.int .i64 ((l.length : Int)))), (25, [], .s 0 4 l.length c1), (0, [], .s 0 4 l.length c1), (1, [], .v (.int .i64 (k))), (4, [], .p 1 0), (6, [], .s 2 2 p.1 p.2.1), (7, [], .s 3 2 p.1 p.2.2)])
    (fun p => [⟨2, true, 25, 2, p.2.1, .rows Fq rF ((l.take p.1).map Iv.lo)⟩, ⟨3, true, 25, 2, p.2.2, .rows Fq rF ((l.take p.1).map Iv.hi)⟩, ⟨1, true, 27, 4, 1, .cs (iS iv0)⟩, ⟨0, false, 27, 4, c1, .rows Iv rV (l)⟩]) 4 (0, l.length, l.length) ⟨by simp, ⟨by simp, by simp; omega⟩, ⟨by simp, by simp; omega⟩, fun x hx => by simp at hx⟩ (Sub.of [] [] rfl ?_) ?_
  · ((repeat' (refine And.intro ?_ ?_)) <;> first | rfl | exact True.intro | omega)
  intro p ⟨hi, ⟨ha1, ha2⟩, ⟨hb1, hb2⟩, hall⟩
  have hll : ((l.take p.1).map Iv.lo).length = p.1 := by simp; omega
  have hlh : ((l.take p.1).map Iv.hi).length = p.1 := by simp; omega
  ((conv=>whnf);repeat(refine And.intro (by omega) ?_;(conv=>whnf)))
  refine EvIf.split (fun g3 => ?_) (fun g3 => ?_)
  · have g4 : p.1 < l.length := by have := of_decide_eq_true g3; omega
    have hmem := getD_memV (l := l) g4
    have hsl := map_take_snoc (l := l) Iv.lo g4
    have hsh := map_take_snoc (l := l) Iv.hi g4
    have htk := take_snoc l p.1 iv0 g4
    obtain ⟨x, hx⟩ : ∃ x, l.getD p.1 iv0 = x := ⟨_, rfl⟩
    rw [hx] at hmem hsl hsh htk
    ((conv=>whnf);(repeat(refine And.intro ?_ ?_;(focus((first|omega|exact⟨rfl,True.intro⟩|exact⟨rfl,rfl,True.intro⟩|rfl|(simp only[List.length_set];first|omega|(refine⟨?_,?_⟩<;>omega)|(refine⟨?_,?_,?_⟩<;>omega))|(intro hg;(try simp only[bB]at hg);first|omega|(refine⟨?_,?_⟩<;>omega)|(refine⟨?_,?_,?_⟩<;>first|omega|(show _<_;(try simp only[List.length_set]);omega)|exact leT rfl))|(refine⟨?_,?_⟩<;>omega)|(refine⟨?_,?_,?_⟩<;>first|omega|(show _<_;(try simp only[List.length_set]);omega)|exact leT rfl)|(simp only[show rI.d=(0:Int)from rfl];omega));done));(conv=>whnf))))
    refine EvCall.plain Try.call27 (.v (.bool (ivB x))) rfl (fun ρ W hp => hx ▸ ivalid_s (l.getD p.1 iv0) W) ?_
    ((conv=>whnf);repeat(refine And.intro (by omega) ?_;(conv=>whnf)))
    refine EvIf.split (fun g5 => ?_) (fun g5 => ?_)
    · have g6 : ¬ vI x := by rw [← ivB_iff]; simpa using g5
      ((conv=>whnf);repeat(refine And.intro (by omega) ?_;(conv=>whnf)))
      exact EvRet.ret (fun _ => by rw [kthF_bad hmem g6]; rfl)
    have g6 : vI x := by rw [← ivB_iff]; simpa using g5
    generalize (l.take p.1).map Iv.lo = los at *
    generalize (l.take p.1).map Iv.hi = his at *
    ((conv=>whnf);repeat(refine And.intro (by omega) ?_;(conv=>whnf)))
    refine EvDraw.meetR (.q 0 (.q 1 (.q 2 (.q 5 (.q 6 (.q 7 (.n 3 false (.n 4 true (.n 8 false (.n 9 true (.q 10 (.q 11 (.z))) (.e)) (.e)) (.n 8 false (.n 4 true (.n 9 true (.q 10 (.q 11 (.z))) (.e)) (.e)) (.e))) (.n 8 false (.n 3 false (.n 4 true (.n 9 true (.q 10 (.q 11 (.z))) (.e)) (.e)) (.e)) (.e))))))))) [2,7] [4] (by kernel_rfl) (α := Nat × Nat) (fun q => (p.1 + 1 ≤ q.1 ∧ q.1 ≤ 9223372036854775807) ∧ (p.1 + 1 ≤ q.2 ∧ q.2 ≤ 9223372036854775807)) (fun q => [(27, [], .v (.int .i64 ((p.1 : Int)))), (26, [], .v (.int .i64 ((l.length : Int)))), (25, [], .s 0 4 l.length c1), (0, [], .s 0 4 l.length c1), (1, [], .v (.int .i64 (k))), (4, [], .p 1 0), (6, [], .s 5 2 (p.1 + 1) q.1), (7, [], .s 6 2 (p.1 + 1) q.2)])
      (fun q => [⟨5, true, 25, 2, q.1, .rows Fq rF (los ++ [x.lo])⟩, ⟨6, true, 25, 2, q.2, .rows Fq rF (his ++ [x.hi])⟩, ⟨1, true, 27, 4, 1, .cs (iS iv0)⟩, ⟨0, false, 27, 4, c1, .rows Iv rV (l)⟩]) 7 ?_ ?_
    · ((conv=>whnf);repeat(refine And.intro (by omega) ?_;(conv=>whnf)))
      refine And.intro ?_ ?_
      · ((conv=>whnf);(repeat(refine And.intro ?_ ?_;(focus((first|omega|exact⟨rfl,True.intro⟩|exact⟨rfl,rfl,True.intro⟩|rfl|(simp only[List.length_set];first|omega|(refine⟨?_,?_⟩<;>omega)|(refine⟨?_,?_,?_⟩<;>omega))|(intro hg;(try simp only[bB]at hg);first|omega|(refine⟨?_,?_⟩<;>omega)|(refine⟨?_,?_,?_⟩<;>first|omega|(show _<_;(try simp only[List.length_set]);omega)|exact leT rfl))|(refine⟨?_,?_⟩<;>omega)|(refine⟨?_,?_,?_⟩<;>first|omega|(show _<_;(try simp only[List.length_set]);omega)|exact leT rfl)|(simp only[show rI.d=(0:Int)from rfl];omega));done));(conv=>whnf))))
        refine And.intro ?_ ?_
        · ((conv=>whnf);repeat(refine And.intro (by omega) ?_;(conv=>whnf)))
          refine EvBi.append (R := rF) (xs := los) tyok49 rfl tyok25 rfl (by decide) rfl rfl (by rw [hll]) (by rw [hll]; exact ha1) [x.lo] (fun ρ W hp => hp.lit (R := rF) (ys := [x.lo]) (n := 5) rfl (by decide) (by simp) (by omega) (by rw [← hx]; rfl)) (by rw [hll]; show (_ + 1) * 16 ≤ _; omega) (by rw [hll]; show _ + 1 ≤ _; omega) (fun cc hq1 hq2 => ?_)
          ((conv=>whnf);(repeat(refine And.intro ?_ ?_;(focus((first|omega|exact⟨rfl,True.intro⟩|exact⟨rfl,rfl,True.intro⟩|rfl|(simp only[List.length_set];first|omega|(refine⟨?_,?_⟩<;>omega)|(refine⟨?_,?_,?_⟩<;>omega))|(intro hg;(try simp only[bB]at hg);first|omega|(refine⟨?_,?_⟩<;>omega)|(refine⟨?_,?_,?_⟩<;>first|omega|(show _<_;(try simp only[List.length_set]);omega)|exact leT rfl))|(refine⟨?_,?_⟩<;>omega)|(refine⟨?_,?_,?_⟩<;>first|omega|(show _<_;(try simp only[List.length_set]);omega)|exact leT rfl)|(simp only[show rI.d=(0:Int)from rfl];omega));done));(conv=>whnf))))
          refine EvBi.append (R := rF) (xs := his) tyok49 rfl tyok25 rfl (by decide) rfl rfl (by rw [hlh]) (by rw [hlh]; exact hb1) [x.hi] (fun ρ W hp => hp.lit (R := rF) (ys := [x.hi]) (n := 7) rfl (by decide) (by simp) (by omega) (by rw [← hx]; rfl)) (by rw [hlh]; show (_ + 1) * 16 ≤ _; omega) (by rw [hlh]; show _ + 1 ≤ _; omega) (fun cd hq3 hq4 => ?_)
          ((conv=>whnf);(repeat(refine And.intro ?_ ?_;(focus((first|omega|exact⟨rfl,True.intro⟩|exact⟨rfl,rfl,True.intro⟩|rfl|(simp only[List.length_set];first|omega|(refine⟨?_,?_⟩<;>omega)|(refine⟨?_,?_,?_⟩<;>omega))|(intro hg;(try simp only[bB]at hg);first|omega|(refine⟨?_,?_⟩<;>omega)|(refine⟨?_,?_,?_⟩<;>first|omega|(show _<_;(try simp only[List.length_set]);omega)|exact leT rfl))|(refine⟨?_,?_⟩<;>omega)|(refine⟨?_,?_,?_⟩<;>first|omega|(show _<_;(try simp only[List.length_set]);omega)|exact leT rfl)|(simp only[show rI.d=(0:Int)from rfl];omega));done));(conv=>whnf))))
          refine Exists.intro (cc, cd) (And.intro ⟨⟨by simpa [hll] using hq1, hq2⟩, by simpa [hlh] using hq3, hq4⟩ (Sub.of [(5, 6), (6, 8)] [] rfl ?_))
          (repeat' (refine And.intro ?_ ?_)) <;> first | rfl | trivial | omega | exact congrArg (· + 1) hlh.symm | exact congrArg (· + 1) hlh | exact congrArg (· + 1) hll.symm | exact congrArg (· + 1) hll
        ((conv=>whnf);(repeat(refine And.intro ?_ ?_;(focus((first|omega|exact⟨rfl,True.intro⟩|exact⟨rfl,rfl,True.intro⟩|rfl|(simp only[List.length_set];first|omega|(refine⟨?_,?_⟩<;>omega)|(refine⟨?_,?_,?_⟩<;>omega))|(intro hg;(try simp only[bB]at hg);first|omega|(refine⟨?_,?_⟩<;>omega)|(refine⟨?_,?_,?_⟩<;>first|omega|(show _<_;(try simp only[List.length_set]);omega)|exact leT rfl))|(refine⟨?_,?_⟩<;>omega)|(refine⟨?_,?_,?_⟩<;>first|omega|(show _<_;(try simp only[List.length_set]);omega)|exact leT rfl)|(simp only[show rI.d=(0:Int)from rfl];omega));done));(conv=>whnf))))
        refine EvBi.append (R := rF) (xs := los) tyok49 rfl tyok25 rfl (by decide) rfl rfl (by rw [hll]) (by rw [hll]; exact ha1) [x.lo] (fun ρ W hp => hp.lit (R := rF) (ys := [x.lo]) (n := 5) rfl (by decide) (by simp) (by omega) (by rw [← hx]; rfl)) (by rw [hll]; show (_ + 1) * 16 ≤ _; omega) (by rw [hll]; show _ + 1 ≤ _; omega) (fun cc hq1 hq2 => ?_)
        ((conv=>whnf);(repeat(refine And.intro ?_ ?_;(focus((first|omega|exact⟨rfl,True.intro⟩|exact⟨rfl,rfl,True.intro⟩|rfl|(simp only[List.length_set];first|omega|(refine⟨?_,?_⟩<;>omega)|(refine⟨?_,?_,?_⟩<;>omega))|(intro hg;(try simp only[bB]at hg);first|omega|(refine⟨?_,?_⟩<;>omega)|(refine⟨?_,?_,?_⟩<;>first|omega|(show _<_;(try simp only[List.length_set]);omega)|exact leT rfl))|(refine⟨?_,?_⟩<;>omega)|(refine⟨?_,?_,?_⟩<;>first|omega|(show _<_;(try simp only[List.length_set]);omega)|exact leT rfl)|(simp only[show rI.d=(0:Int)from rfl];omega));done));(conv=>whnf))))
        refine EvBi.append (R := rF) (xs := his) tyok49 rfl tyok25 rfl (by decide) rfl rfl (by rw [hlh]) (by rw [hlh]; exact hb1) [x.hi] (fun ρ W hp => hp.lit (R := rF) (ys := [x.hi]) (n := 6) rfl (by decide) (by simp) (by omega) (by rw [← hx]; rfl)) (by rw [hlh]; show (_ + 1) * 16 ≤ _; omega) (by rw [hlh]; show _ + 1 ≤ _; omega) (fun cd hq3 hq4 => ?_)
        ((conv=>whnf);(repeat(refine And.intro ?_ ?_;(focus((first|omega|exact⟨rfl,True.intro⟩|exact⟨rfl,rfl,True.intro⟩|rfl|(simp only[List.length_set];first|omega|(refine⟨?_,?_⟩<;>omega)|(refine⟨?_,?_,?_⟩<;>omega))|(intro hg;(try simp only[bB]at hg);first|omega|(refine⟨?_,?_⟩<;>omega)|(refine⟨?_,?_,?_⟩<;>first|omega|(show _<_;(try simp only[List.length_set]);omega)|exact leT rfl))|(refine⟨?_,?_⟩<;>omega)|(refine⟨?_,?_,?_⟩<;>first|omega|(show _<_;(try simp only[List.length_set]);omega)|exact leT rfl)|(simp only[show rI.d=(0:Int)from rfl];omega));done));(conv=>whnf))))
        refine Exists.intro (cc, cd) (And.intro ⟨⟨by simpa [hll] using hq1, hq2⟩, by simpa [hlh] using hq3, hq4⟩ (Sub.of [(5, 7), (6, 8)] [] rfl ?_))
        (repeat' (refine And.intro ?_ ?_)) <;> first | rfl | trivial | omega | exact congrArg (· + 1) hlh.symm | exact congrArg (· + 1) hlh | exact congrArg (· + 1) hll.symm | exact congrArg (· + 1) hll
      ((conv=>whnf);(repeat(refine And.intro ?_ ?_;(focus((first|omega|exact⟨rfl,True.intro⟩|exact⟨rfl,rfl,True.intro⟩|rfl|(simp only[List.length_set];first|omega|(refine⟨?_,?_⟩<;>omega)|(refine⟨?_,?_,?_⟩<;>omega))|(intro hg;(try simp only[bB]at hg);first|omega|(refine⟨?_,?_⟩<;>omega)|(refine⟨?_,?_,?_⟩<;>first|omega|(show _<_;(try simp only[List.length_set]);omega)|exact leT rfl))|(refine⟨?_,?_⟩<;>omega)|(refine⟨?_,?_,?_⟩<;>first|omega|(show _<_;(try simp only[List.length_set]);omega)|exact leT rfl)|(simp only[show rI.d=(0:Int)from rfl];omega));done));(conv=>whnf))))
      refine EvBi.append (R := rF) (xs := los) tyok49 rfl tyok25 rfl (by decide) rfl rfl (by rw [hll]) (by rw [hll]; exact ha1) [x.lo] (fun ρ W hp => hp.lit (R := rF) (ys := [x.lo]) (n := 6) rfl (by decide) (by simp) (by omega) (by rw [← hx]; rfl)) (by rw [hll]; show (_ + 1) * 16 ≤ _; omega) (by rw [hll]; show _ + 1 ≤ _; omega) (fun cc hq1 hq2 => ?_)
      ((conv=>whnf);(repeat(refine And.intro ?_ ?_;(focus((first|omega|exact⟨rfl,True.intro⟩|exact⟨rfl,rfl,True.intro⟩|rfl|(simp only[List.length_set];first|omega|(refine⟨?_,?_⟩<;>omega)|(refine⟨?_,?_,?_⟩<;>omega))|(intro hg;(try simp only[bB]at hg);first|omega|(refine⟨?_,?_⟩<;>omega)|(refine⟨?_,?_,?_⟩<;>first|omega|(show _<_;(try simp only[List.length_set]);omega)|exact leT rfl))|(refine⟨?_,?_⟩<;>omega)|(refine⟨?_,?_,?_⟩<;>first|omega|(show _<_;(try simp only[List.length_set]);omega)|exact leT rfl)|(simp only[show rI.d=(0:Int)from rfl];omega));done));(conv=>whnf))))
      refine EvBi.append (R := rF) (xs := his) tyok49 rfl tyok25 rfl (by decide) rfl rfl (by rw [hlh]) (by rw [hlh]; exact hb1) [x.hi] (fun ρ W hp => hp.lit (R := rF) (ys := [x.hi]) (n := 5) rfl (by decide) (by simp) (by omega) (by rw [← hx]; rfl)) (by rw [hlh]; show (_ + 1) * 16 ≤ _; omega) (by rw [hlh]; show _ + 1 ≤ _; omega) (fun cd hq3 hq4 => ?_)
      ((conv=>whnf);(repeat(refine And.intro ?_ ?_;(focus((first|omega|exact⟨rfl,True.intro⟩|exact⟨rfl,rfl,True.intro⟩|rfl|(simp only[List.length_set];first|omega|(refine⟨?_,?_⟩<;>omega)|(refine⟨?_,?_,?_⟩<;>omega))|(intro hg;(try simp only[bB]at hg);first|omega|(refine⟨?_,?_⟩<;>omega)|(refine⟨?_,?_,?_⟩<;>first|omega|(show _<_;(try simp only[List.length_set]);omega)|exact leT rfl))|(refine⟨?_,?_⟩<;>omega)|(refine⟨?_,?_,?_⟩<;>first|omega|(show _<_;(try simp only[List.length_set]);omega)|exact leT rfl)|(simp only[show rI.d=(0:Int)from rfl];omega));done));(conv=>whnf))))
      refine Exists.intro (cc, cd) (And.intro ⟨⟨by simpa [hll] using hq1, hq2⟩, by simpa [hlh] using hq3, hq4⟩ (Sub.of [(5, 7), (6, 8)] [] rfl ?_))
      (repeat' (refine And.intro ?_ ?_)) <;> first | rfl | trivial | omega | exact congrArg (· + 1) hlh.symm | exact congrArg (· + 1) hlh | exact congrArg (· + 1) hll.symm | exact congrArg (· + 1) hll
    intro ⟨cc, cd⟩ ⟨⟨hc1, hc2⟩, hc3, hc4⟩
    simp only at hc1 hc2 hc3 hc4
    ((conv=>whnf);repeat(refine And.intro (by omega) ?_;(conv=>whnf)))
    refine LoopI.back (p.1 + 1, cc, cd) ⟨by show p.1 + 1 ≤ _; omega, ⟨hc1, hc2⟩, ⟨hc3, hc4⟩, fun y hy => ?_⟩ (by show l.length - (p.1 + 1) < l.length - p.1; omega) (Sub.of [(2, 5), (3, 6)] [] rfl ?_)
    · simp only at hy
      rw [htk, List.mem_append] at hy
      rcases hy with hy | hy
      · exact hall y hy
      · simp at hy; rw [hy]; exact g6
    · (repeat' (refine And.intro ?_ ?_)) <;> first | rfl | trivial | omega | exact congrArg (Ct.rows Fq rF) hsl | exact congrArg (Ct.rows Fq rF) hsh | exact congrArg (Ct.rows Fq rF) hsl.symm | exact congrArg (Ct.rows Fq rF) hsh.symm
  · have g4 : p.1 = l.length := by have := of_decide_eq_false g3; omega
    rw [g4, List.take_length] at hall hll hlh ⊢
    have hF1 : ∀ y ∈ l.map Iv.lo, vF y := fun y hy => by
      obtain ⟨z, hz, rfl⟩ := List.mem_map.1 hy
      exact (hall z hz).1
    have hF2 : ∀ y ∈ l.map Iv.hi, vF y := fun y hy => by
      obtain ⟨z, hz, rfl⟩ := List.mem_map.1 hy
      exact (hall z hz).2.1
    rw [kthF_ok g2 hall]
    obtain ⟨los, hlos⟩ : ∃ s, l.map Iv.lo = s := ⟨_, rfl⟩
    obtain ⟨his, hhis⟩ : ∃ s, l.map Iv.hi = s := ⟨_, rfl⟩
    rw [hlos] at hll hF1 ⊢
    rw [hhis] at hlh hF2 ⊢
    rw [g4] at ha1 hb1
    obtain ⟨ca, hca⟩ : ∃ c, p.2.1 = c := ⟨_, rfl⟩
    obtain ⟨cb, hcb⟩ : ∃ c, p.2.2 = c := ⟨_, rfl⟩
    rw [hca] at ha1 ha2 ⊢
    rw [hcb] at hb1 hb2 ⊢
    clear hi g3 g4 hca hcb p g1 hlos hhis
    have hs1 := sortF_len los
    have hs2 := sortF_len his
    ((conv=>whnf);repeat(refine And.intro (by omega) ?_;(conv=>whnf)))
    refine EvCall.inline tabOk mixed Try.func51 rfl Try.ntmps51 Try.results51 Try.call51 rfl (fun ρ0 => ?_)
    ((conv=>whnf);repeat(refine And.intro (by omega) ?_;(conv=>whnf)))
    refine EvCall.plain Try.call72 (.v (.int .i64 lf)) rfl (fun ρ W hp => hlf W) ?_
    ((conv=>whnf);repeat(refine And.intro (by omega) ?_;(conv=>whnf)))
    refine EvCall.inline tabOk mixed Try.func71 rfl Try.ntmps71 Try.results71 Try.call71 rfl (fun ρ0 => ?_)
    ((conv=>whnf);repeat(refine And.intro (by omega) ?_;(conv=>whnf)))
    refine EvLoop.rounds 1 ?_
    ((conv=>whnf);repeat(refine And.intro (by omega) ?_;(conv=>whnf)))
    refine EvIf.pos (by simp; omega) ?_
    ((conv=>whnf);repeat(refine And.intro (by omega) ?_;(conv=>whnf)))
    refine EvCall.inline tabOk mixed Try.func92 rfl Try.ntmps92 Try.results92 Try.call92 rfl (fun ρ0 => ?_)
    ((conv=>whnf);repeat(refine And.intro (by omega) ?_;(conv=>whnf)))
    refine EvLoop.inv (α := Nat) (fun i => 1 ≤ i ∧ (i ≤ los.length ∨ i = 1)) (fun i => los.length - i) (fun i => [(8, [], .v (.int .i64 ((i : Int)))), (0, [], .s 2 2 los.length ca), (1, [], .v (.int .i64 (0))), (2, [], .v (.int .i64 ((los.length : Int)))), (3, [], .f 22 [])])
      (fun i => ⟨2, true, 25, 2, ca, .rows Fq rF (sortF (los.take i) ++ los.drop i)⟩ :: [⟨3, true, 25, 2, cb, .rows Fq rF his⟩, ⟨1, true, 27, 4, 1, .cs (iS iv0)⟩, ⟨0, false, 27, 4, c1, .rows Iv rV l⟩]) 4 1 ⟨by omega, .inr rfl⟩ (Sub.of [] [] rfl ?_) ?_
    · (repeat' (refine And.intro ?_ ?_)) <;> first | rfl | trivial | omega | exact congrArg (Ct.rows Fq rF) (start1 los)
    intro i ⟨hi1, hi2⟩
    ((conv=>whnf);repeat(refine And.intro (by omega) ?_;(conv=>whnf)))
    refine EvIf.split (fun g1 => ?_) (fun g1 => ?_)
    · simp only [decide_eq_true_eq] at g1
      have hend := midF_end los hF1 i
      obtain ⟨s, hs⟩ : ∃ s, sortF (los.take i) = s := ⟨_, rfl⟩
      obtain ⟨x, hx⟩ : ∃ x, los.getD i fr0 = x := ⟨_, rfl⟩
      have hsl : s.length = i := by rw [← hs, sortF_len]; simp; omega
      rw [hs, hx] at hend
      rw [hs, midF_start los i (by omega) s hsl, hx]
      ((conv=>whnf);repeat(refine And.intro (by omega) ?_;(conv=>whnf)))
      refine EvLoop.inv (α := Nat) (fun j => j ≤ i ∧ ∀ k, j ≤ k → k < i → cmpF x (s.getD k fr0) < 0) (fun j => j) (fun j => [(9, [], .v (.int .i64 ((j : Int)))), (8, [], .v (.int .i64 ((i : Int)))), (0, [], .s 2 2 los.length ca), (1, [], .v (.int .i64 (0))), (2, [], .v (.int .i64 ((los.length : Int)))), (3, [], .f 22 [])])
        (fun j => ⟨2, true, 25, 2, ca, .rows Fq rF (midF s x j (los.drop (i + 1)))⟩ :: [⟨3, true, 25, 2, cb, .rows Fq rF his⟩, ⟨1, true, 27, 4, 1, .cs (iS iv0)⟩, ⟨0, false, 27, 4, c1, .rows Iv rV l⟩]) 4 i ⟨Nat.le_refl _, fun k h1 h2 => by omega⟩ (Sub.of [] [] rfl ?_) ?_
      · ((repeat' (refine And.intro ?_ ?_)) <;> first | rfl | exact True.intro | omega)
      intro j ⟨hj, hj2⟩
      have hml := midF_len s x j (los.drop (i + 1)) (by omega)
      have hdl : (los.drop (i + 1)).length = los.length - (i + 1) := by simp
      have hat := midF_at s x j (los.drop (i + 1)) (by omega)
      ((conv=>whnf);repeat(refine And.intro (by omega) ?_;(conv=>whnf)))
      (refine EvDraw.one (.q 0 (.q 1 (.q 2 (.q 3 (.q 4 (.q 5 (.q 6 (.q 7 (.q 8 (.q 9 (.q 10 (.q 11 (.q 12 (.q 13 (.n 14 true (.q 15 (.q 16 (.z))) (.e)))))))))))))))) (by kernel_rfl) ?_)
      ((conv=>whnf);(repeat(refine And.intro ?_ ?_;(focus((first|omega|exact⟨rfl,True.intro⟩|exact⟨rfl,rfl,True.intro⟩|rfl|(simp only[List.length_set];first|omega|(refine⟨?_,?_⟩<;>omega)|(refine⟨?_,?_,?_⟩<;>omega))|(intro hg;(try simp only[bB]at hg);first|omega|(refine⟨?_,?_⟩<;>omega)|(refine⟨?_,?_,?_⟩<;>first|omega|(show _<_;(try simp only[List.length_set]);omega)|exact leT rfl))|(refine⟨?_,?_⟩<;>omega)|(refine⟨?_,?_,?_⟩<;>first|omega|(show _<_;(try simp only[List.length_set]);omega)|exact leT rfl)|(simp only[show rI.d=(0:Int)from rfl];omega));done));(conv=>whnf))))
      obtain ⟨M, hM⟩ : ∃ M, midF s x j (los.drop (i + 1)) = M := ⟨_, rfl⟩
      have e1 : 0 < j → cmpF (M.getD j fr0) (M.getD (Int.toNat ((j : Int) - 1)) fr0) = cmpF x (s.getD (j - 1) fr0) := fun h0 => by
        rw [show Int.toNat ((j : Int) - 1) = j - 1 by omega, ← hM, hat, midF_below s x j (j - 1) _ (by omega) (by omega)]
      rw [hM] at hml hat ⊢
      refine EvCallC.plain Try.call22 (.v (.int .i64 (cmpF x (s.getD (j - 1) fr0)))) rfl (fun hc ρ W hp => by
        have := compare_s (M.getD j fr0) (M.getD (Int.toNat ((j : Int) - 1)) fr0) W
        rw [e1 (by simpa using hc)] at this
        exact this) ?_
      ((conv=>whnf);repeat(refine And.intro (by omega) ?_;(conv=>whnf)))
      refine EvIf.split (fun g2 => ?_) (fun g2 => ?_)
      · simp only [Bool.and_eq_true, decide_eq_true_eq] at g2
        have hsw : (M.set j (M.getD (Int.toNat ((j : Int) - 1)) fr0)).set (Int.toNat ((j : Int) - 1)) (M.getD j fr0) = midF s x (j - 1) (los.drop (i + 1)) := by
          obtain ⟨j', rfl⟩ : ∃ j', j = j' + 1 := ⟨j - 1, by omega⟩
          rw [show Int.toNat (((j' + 1 : Nat) : Int) - 1) = j' by omega, hat, ← hM, midF_below s x (j' + 1) j' _ (by omega) (by omega), midF_swap s x j' _ (by omega)]
          rfl
        ((conv=>whnf);repeat(refine And.intro (by omega) ?_;(conv=>whnf)))
        (refine EvDraw.one (.q 0 (.q 1 (.q 2 (.q 3 (.q 4 (.q 5 (.q 6 (.q 7 (.q 8 (.q 9 (.q 10 (.q 11 (.q 12 (.q 13 (.q 14 (.n 15 true (.q 16 (.n 17 true (.z) (.e))) (.e))))))))))))))))) (by kernel_rfl) ?_)
        ((conv=>whnf);(repeat(refine And.intro ?_ ?_;(focus((first|omega|exact⟨rfl,True.intro⟩|exact⟨rfl,rfl,True.intro⟩|rfl|(simp only[List.length_set];first|omega|(refine⟨?_,?_⟩<;>omega)|(refine⟨?_,?_,?_⟩<;>omega))|(intro hg;(try simp only[bB]at hg);first|omega|(refine⟨?_,?_⟩<;>omega)|(refine⟨?_,?_,?_⟩<;>first|omega|(show _<_;(try simp only[List.length_set]);omega)|exact leT rfl))|(refine⟨?_,?_⟩<;>omega)|(refine⟨?_,?_,?_⟩<;>first|omega|(show _<_;(try simp only[List.length_set]);omega)|exact leT rfl)|(simp only[show rI.d=(0:Int)from rfl];omega));done));(conv=>whnf))))
        refine LoopI.back (j - 1) ⟨by omega, fun k h1 h2 => ?_⟩ (by omega) (Sub.of [] [] rfl ?_)
        · by_cases hkj : k = j - 1
          · rw [hkj]; exact g2.2
          · exact hj2 k (by omega) h2
        · (repeat' (refine And.intro ?_ ?_)) <;> first | rfl | trivial | omega | exact congrArg (Ct.rows Fq rF) hsw
      · simp only [Bool.and_eq_false_iff, decide_eq_false_iff_not] at g2
        have hfin := hend j (by omega) hj hj2 (fun h0 => by
          rcases g2 with g2 | g2
          · omega
          · exact g2)
        ((conv=>whnf);repeat(refine And.intro (by omega) ?_;(conv=>whnf)))
        refine LoopI.back (i + 1) ⟨by omega, .inl (by omega)⟩ (by omega) (Sub.of [] [] rfl ?_)
        (repeat' (refine And.intro ?_ ?_)) <;> first | rfl | trivial | omega | exact congrArg (Ct.rows Fq rF) (hM.symm.trans hfin)
    simp only [decide_eq_false_iff_not] at g1
    have hfin : sortF (los.take i) ++ los.drop i = sortF los := by
      rw [List.take_of_length_le (by omega), List.drop_of_length_le (by omega), List.append_nil]
    rw [hfin]
    clear hfin g1 hi1 hi2
    ((conv=>whnf);repeat(refine And.intro (by omega) ?_;(conv=>whnf)))
    refine EvRet.back ?_
    ((conv=>whnf);repeat(refine And.intro (by omega) ?_;(conv=>whnf)))
    refine EvRet.back ?_
    ((conv=>whnf);repeat(refine And.intro (by omega) ?_;(conv=>whnf)))
    refine EvRet.back ?_
    ((conv=>whnf);repeat(refine And.intro (by omega) ?_;(conv=>whnf)))
    refine EvCall.inline tabOk mixed Try.func51 rfl Try.ntmps51 Try.results51 Try.call51 rfl (fun ρ0 => ?_)
    ((conv=>whnf);repeat(refine And.intro (by omega) ?_;(conv=>whnf)))
    refine EvCall.plain Try.call72 (.v (.int .i64 lf)) rfl (fun ρ W hp => hlf W) ?_
    ((conv=>whnf);repeat(refine And.intro (by omega) ?_;(conv=>whnf)))
    refine EvCall.inline tabOk mixed Try.func71 rfl Try.ntmps71 Try.results71 Try.call71 rfl (fun ρ0 => ?_)
    ((conv=>whnf);repeat(refine And.intro (by omega) ?_;(conv=>whnf)))
    refine EvLoop.rounds 1 ?_
    ((conv=>whnf);repeat(refine And.intro (by omega) ?_;(conv=>whnf)))
    refine EvIf.pos (by simp; omega) ?_
    ((conv=>whnf);repeat(refine And.intro (by omega) ?_;(conv=>whnf)))
    refine EvCall.inline tabOk mixed Try.func92 rfl Try.ntmps92 Try.results92 Try.call92 rfl (fun ρ0 => ?_)
    ((conv=>whnf);repeat(refine And.intro (by omega) ?_;(conv=>whnf)))
    refine EvLoop.inv (α := Nat) (fun i => 1 ≤ i ∧ (i ≤ his.length ∨ i = 1)) (fun i => his.length - i) (fun i => [(8, [], .v (.int .i64 ((i : Int)))), (0, [], .s 3 2 his.length cb), (1, [], .v (.int .i64 (0))), (2, [], .v (.int .i64 ((his.length : Int)))), (3, [], .f 22 [])])
      (fun i => ⟨3, true, 25, 2, cb, .rows Fq rF (sortF (his.take i) ++ his.drop i)⟩ :: [⟨2, true, 25, 2, ca, .rows Fq rF (sortF los)⟩, ⟨1, true, 27, 4, 1, .cs (iS iv0)⟩, ⟨0, false, 27, 4, c1, .rows Iv rV l⟩]) 4 1 ⟨by omega, .inr rfl⟩ (Sub.of [] [] rfl ?_) ?_
    · (repeat' (refine And.intro ?_ ?_)) <;> first | rfl | trivial | omega | exact congrArg (Ct.rows Fq rF) (start1 his)
    intro i ⟨hi1, hi2⟩
    ((conv=>whnf);repeat(refine And.intro (by omega) ?_;(conv=>whnf)))
    refine EvIf.split (fun g1 => ?_) (fun g1 => ?_)
    · simp only [decide_eq_true_eq] at g1
      have hend := midF_end his hF2 i
      obtain ⟨s, hs⟩ : ∃ s, sortF (his.take i) = s := ⟨_, rfl⟩
      obtain ⟨x, hx⟩ : ∃ x, his.getD i fr0 = x := ⟨_, rfl⟩
      have hsl : s.length = i := by rw [← hs, sortF_len]; simp; omega
      rw [hs, hx] at hend
      rw [hs, midF_start his i (by omega) s hsl, hx]
      ((conv=>whnf);repeat(refine And.intro (by omega) ?_;(conv=>whnf)))
      refine EvLoop.inv (α := Nat) (fun j => j ≤ i ∧ ∀ k, j ≤ k → k < i → cmpF x (s.getD k fr0) < 0) (fun j => j) (fun j => [(9, [], .v (.int .i64 ((j : Int)))), (8, [], .v (.int .i64 ((i : Int)))), (0, [], .s 3 2 his.length cb), (1, [], .v (.int .i64 (0))), (2, [], .v (.int .i64 ((his.length : Int)))), (3, [], .f 22 [])])
        (fun j => ⟨3, true, 25, 2, cb, .rows Fq rF (midF s x j (his.drop (i + 1)))⟩ :: [⟨2, true, 25, 2, ca, .rows Fq rF (sortF los)⟩, ⟨1, true, 27, 4, 1, .cs (iS iv0)⟩, ⟨0, false, 27, 4, c1, .rows Iv rV l⟩]) 4 i ⟨Nat.le_refl _, fun k h1 h2 => by omega⟩ (Sub.of [] [] rfl ?_) ?_
      · ((repeat' (refine And.intro ?_ ?_)) <;> first | rfl | exact True.intro | omega)
      intro j ⟨hj, hj2⟩
      have hml := midF_len s x j (his.drop (i + 1)) (by omega)
      have hdl : (his.drop (i + 1)).length = his.length - (i + 1) := by simp
      have hat := midF_at s x j (his.drop (i + 1)) (by omega)
      ((conv=>whnf);repeat(refine And.intro (by omega) ?_;(conv=>whnf)))
      (refine EvDraw.one (.q 0 (.q 1 (.q 2 (.q 3 (.q 4 (.q 5 (.q 6 (.q 7 (.q 8 (.q 9 (.q 10 (.q 11 (.q 12 (.q 13 (.n 14 true (.q 15 (.q 16 (.z))) (.e)))))))))))))))) (by kernel_rfl) ?_)
      ((conv=>whnf);(repeat(refine And.intro ?_ ?_;(focus((first|omega|exact⟨rfl,True.intro⟩|exact⟨rfl,rfl,True.intro⟩|rfl|(simp only[List.length_set];first|omega|(refine⟨?_,?_⟩<;>omega)|(refine⟨?_,?_,?_⟩<;>omega))|(intro hg;(try simp only[bB]at hg);first|omega|(refine⟨?_,?_⟩<;>omega)|(refine⟨?_,?_,?_⟩<;>first|omega|(show _<_;(try simp only[List.length_set]);omega)|exact leT rfl))|(refine⟨?_,?_⟩<;>omega)|(refine⟨?_,?_,?_⟩<;>first|omega|(show _<_;(try simp only[List.length_set]);omega)|exact leT rfl)|(simp only[show rI.d=(0:Int)from rfl];omega));done));(conv=>whnf))))
      obtain ⟨M, hM⟩ : ∃ M, midF s x j (his.drop (i + 1)) = M := ⟨_, rfl⟩
      have e1 : 0 < j → cmpF (M.getD j fr0) (M.getD (Int.toNat ((j : Int) - 1)) fr0) = cmpF x (s.getD (j - 1) fr0) := fun h0 => by
        rw [show Int.toNat ((j : Int) - 1) = j - 1 by omega, ← hM, hat, midF_below s x j (j - 1) _ (by omega) (by omega)]
      rw [hM] at hml hat ⊢
      refine EvCallC.plain Try.call22 (.v (.int .i64 (cmpF x (s.getD (j - 1) fr0)))) rfl (fun hc ρ W hp => by
        have := compare_s (M.getD j fr0) (M.getD (Int.toNat ((j : Int) - 1)) fr0) W
        rw [e1 (by simpa using hc)] at this
        exact this) ?_
      ((conv=>whnf);repeat(refine And.intro (by omega) ?_;(conv=>whnf)))
      refine EvIf.split (fun g2 => ?_) (fun g2 => ?_)
      · simp only [Bool.and_eq_true, decide_eq_true_eq] at g2
        have hsw : (M.set j (M.getD (Int.toNat ((j : Int) - 1)) fr0)).set (Int.toNat ((j : Int) - 1)) (M.getD j fr0) = midF s x (j - 1) (his.drop (i + 1)) := by
          obtain ⟨j', rfl⟩ : ∃ j', j = j' + 1 := ⟨j - 1, by omega⟩
          rw [show Int.toNat (((j' + 1 : Nat) : Int) - 1) = j' by omega, hat, ← hM, midF_below s x (j' + 1) j' _ (by omega) (by omega), midF_swap s x j' _ (by omega)]
          rfl
        ((conv=>whnf);repeat(refine And.intro (by omega) ?_;(conv=>whnf)))
        (refine EvDraw.one (.q 0 (.q 1 (.q 2 (.q 3 (.q 4 (.q 5 (.q 6 (.q 7 (.q 8 (.q 9 (.q 10 (.q 11 (.q 12 (.q 13 (.q 14 (.n 15 true (.q 16 (.n 17 true (.z) (.e))) (.e))))))))))))))))) (by kernel_rfl) ?_)
        ((conv=>whnf);(repeat(refine And.intro ?_ ?_;(focus((first|omega|exact⟨rfl,True.intro⟩|exact⟨rfl,rfl,True.intro⟩|rfl|(simp only[List.length_set];first|omega|(refine⟨?_,?_⟩<;>omega)|(refine⟨?_,?_,?_⟩<;>omega))|(intro hg;(try simp only[bB]at hg);first|omega|(refine⟨?_,?_⟩<;>omega)|(refine⟨?_,?_,?_⟩<;>first|omega|(show _<_;(try simp only[List.length_set]);omega)|exact leT rfl))|(refine⟨?_,?_⟩<;>omega)|(refine⟨?_,?_,?_⟩<;>first|omega|(show _<_;(try simp only[List.length_set]);omega)|exact leT rfl)|(simp only[show rI.d=(0:Int)from rfl];omega));done));(conv=>whnf))))
        refine LoopI.back (j - 1) ⟨by omega, fun k h1 h2 => ?_⟩ (by omega) (Sub.of [] [] rfl ?_)
        · by_cases hkj : k = j - 1
          · rw [hkj]; exact g2.2
          · exact hj2 k (by omega) h2
        · (repeat' (refine And.intro ?_ ?_)) <;> first | rfl | trivial | omega | exact congrArg (Ct.rows Fq rF) hsw
      · simp only [Bool.and_eq_false_iff, decide_eq_false_iff_not] at g2
        have hfin := hend j (by omega) hj hj2 (fun h0 => by
          rcases g2 with g2 | g2
          · omega
          · exact g2)
        ((conv=>whnf);repeat(refine And.intro (by omega) ?_;(conv=>whnf)))
        refine LoopI.back (i + 1) ⟨by omega, .inl (by omega)⟩ (by omega) (Sub.of [] [] rfl ?_)
        (repeat' (refine And.intro ?_ ?_)) <;> first | rfl | trivial | omega | exact congrArg (Ct.rows Fq rF) (hM.symm.trans hfin)
    simp only [decide_eq_false_iff_not] at g1
    have hfin : sortF (his.take i) ++ his.drop i = sortF his := by
      rw [List.take_of_length_le (by omega), List.drop_of_length_le (by omega), List.append_nil]
    rw [hfin]
    clear hfin g1 hi1 hi2
    ((conv=>whnf);repeat(refine And.intro (by omega) ?_;(conv=>whnf)))
    refine EvRet.back ?_
    ((conv=>whnf);repeat(refine And.intro (by omega) ?_;(conv=>whnf)))
    refine EvRet.back ?_
    ((conv=>whnf);repeat(refine And.intro (by omega) ?_;(conv=>whnf)))
    refine EvRet.back ?_
    ((conv=>whnf);repeat(refine And.intro (by omega) ?_;(conv=>whnf)))
    (refine EvDraw.one (.q 0 (.q 1 (.q 2 (.q 3 (.q 4 (.q 5 (.q 6 (.q 7 (.q 8 (.q 9 (.q 10 (.n 11 true (.q 12 (.z)) (.e))))))))))))) (by kernel_rfl) ?_)
    ((conv=>whnf);(repeat(refine And.intro ?_ ?_;(focus((first|omega|exact⟨rfl,True.intro⟩|exact⟨rfl,rfl,True.intro⟩|rfl|(simp only[List.length_set];first|omega|(refine⟨?_,?_⟩<;>omega)|(refine⟨?_,?_,?_⟩<;>omega))|(intro hg;(try simp only[bB]at hg);first|omega|(refine⟨?_,?_⟩<;>omega)|(refine⟨?_,?_,?_⟩<;>first|omega|(show _<_;(try simp only[List.length_set]);omega)|exact leT rfl))|(refine⟨?_,?_⟩<;>omega)|(refine⟨?_,?_,?_⟩<;>first|omega|(show _<_;(try simp only[List.length_set]);omega)|exact leT rfl)|(simp only[show rI.d=(0:Int)from rfl];omega));done));(conv=>whnf))))
    exact EvRet.ret (fun _ => rfl)
end Go.Proofs.Ythknflclfmnciaa
