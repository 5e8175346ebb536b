
/- The law BudgetForms: what it calls, walked. -/
import Derived.Test.YtebfhljamoapjaaYf
import Derived.OpenShut
namespace Go.Proofs.Ytebfhljamoapjaa
open Go.RowKit
set_option linter.unusedVariables false
set_option linter.unusedSimpArgs false

/-- A slice of bytes that came in. -/
def Octs (w : World) (v : Value) (zs : List Int) : Prop := RowsIn rU w v zs ∧ BOk zs
theorem Octs.of_row {w : World} {x : Addr} {len cap : Nat} {zs : List Int} (hl : len ≤ cap) (hm : cap ≤ maxLen) (hz : zs.length = cap)
    (hcell : ∀ i, i < zs.length → w.cell? (x.add i) = some (.int .u8 (zs.getD i 0))) (hwz : ∀ n ∈ zs, (Lit.int .u8 n).wf = true) :
    Octs w (.slice (some x) len cap) (zs.take len) := by
  have hlen : (zs.take len).length = len := by simp; omega
  refine ⟨?_, fun z hz => by
    have h := hwz z (List.mem_of_mem_take hz)
    simp [Lit.wf, IntKind.min, IntKind.max, IntKind.signed, IntKind.bits] at h
    omega⟩
  refine ⟨some x, cap, by rw [hlen], by omega, hm, by rw [rowC_U]; simp [rU], fun hn => ?_⟩
  obtain ⟨b, off, rfl, hb, hc⟩ := add_form (w := w) (x := x) (n := zs.length) (by omega) (fun i => .int .u8 (zs.getD i 0)) hcell
  refine ⟨b, off, rfl, hb, fun j u hu => ?_⟩
  rw [rowC_U] at hu
  simp only [List.getElem?_map, List.getElem?_take] at hu
  split at hu
  · rename_i hj
    have hjl : j < zs.length := by omega
    rw [List.getElem?_eq_getElem hjl] at hu
    simp at hu
    rw [hc j hjl, ← hu]
    simp [List.getD, List.getElem?_eq_getElem hjl]
  · simp at hu
theorem Octs.nil_ (w : World) : Octs w (.slice none 0 0) [] := ⟨⟨none, 0, rfl, Nat.le_refl _, by simp [maxLen], by simp [rowC], fun h => absurd h (by simp)⟩, fun z hz => by cases hz⟩
theorem few_s (v : Value) (bs : List Int) (m : Nat) (w : World) (h : RowsIn rU w v bs) (hm : m ≤ 100000) : Con Try.prog 28 #[v, .int .i64 (m : Int)] w (RetRows rU 5 w (bs.take m)) := by
  obtain ⟨A1, c1, rfl, e1, e2⟩ := h.form
  have hn : min (bs.length : Int) (m : Int) = ((min bs.length m : Nat) : Int) := by omega
  have htl : (bs.take m).length = min bs.length m := by simp; omega
  refine enter tabOk mixed Try.func28 rfl Try.ntmps28 Try.results28 [.s 0 1 bs.length c1, .v (.int .i64 (m : Int))] (fun _ => A1) [⟨0, false, 5, 1, c1, .rows Int rU (bs)⟩] 1 rfl rfl (.ro (hp0 _ _ _) _ rfl rfl rfl (ro_rows h rfl _)) ?_
  ((conv=>whnf);(repeat(refine And.intro ?_ ?_;(focus((first|omega|exact⟨rfl,True.intro⟩|exact⟨rfl,rfl,True.intro⟩|rfl|(simp only[List.length_set];first|omega|(refine⟨?_,?_⟩<;>omega)|(refine⟨?_,?_,?_⟩<;>omega))|(intro hg;(try simp only[bB]at hg);first|omega|(refine⟨?_,?_⟩<;>omega)|(refine⟨?_,?_,?_⟩<;>first|omega|(show _<_;(try simp only[List.length_set]);omega)|exact leT rfl))|(refine⟨?_,?_⟩<;>omega)|(refine⟨?_,?_,?_⟩<;>first|omega|(show _<_;(try simp only[List.length_set]);omega)|exact leT rfl)|(simp only[show rI.d=(0:Int)from rfl];omega));done));(conv=>whnf))))
  refine EvBi.append_nil (R := rU) tyok29 rfl tyok5 rfl (by decide) rfl (bs.take m) (fun ρ W hp => by
    have := hp.cut (R := rU) (n := 0) (c := c1) (xs := bs) rfl (by decide) e1 e2 (min bs.length m) (by omega) 1
    rw [hn, Int.toNat_natCast]
    rwa [show bs.take (min bs.length m) = bs.take m by rw [Nat.min_comm, ← List.take_take, List.take_length]] at this) (by rw [htl]; show _ * 1 ≤ _; omega) (by omega) (fun ca hq1 hq2 => ?_)
  ((conv=>whnf);(repeat(refine And.intro ?_ ?_;(focus((first|omega|exact⟨rfl,True.intro⟩|exact⟨rfl,rfl,True.intro⟩|rfl|(simp only[List.length_set];first|omega|(refine⟨?_,?_⟩<;>omega)|(refine⟨?_,?_,?_⟩<;>omega))|(intro hg;(try simp only[bB]at hg);first|omega|(refine⟨?_,?_⟩<;>omega)|(refine⟨?_,?_,?_⟩<;>first|omega|(show _<_;(try simp only[List.length_set]);omega)|exact leT rfl))|(refine⟨?_,?_⟩<;>omega)|(refine⟨?_,?_,?_⟩<;>first|omega|(show _<_;(try simp only[List.length_set]);omega)|exact leT rfl)|(simp only[show rI.d=(0:Int)from rfl];omega));done));(conv=>whnf))))
  exact EvRet.rows (R := rU) rfl hq1 rfl rfl
set_option maxRecDepth 10000 in
theorem possible_s (V v : Value) (b : Int) (es : List En) (w : World) (h : PtrIn w V [.int .i64 b, .int .i64 (sumE es), v]) (hv : RowsIn rE w v es) (hl : es.length ≤ 1000000) (hc : canB b es) (hb : 0 ≤ b) (hb2 : b ≤ 2147483648) :
    Con Try.prog 29 #[V] w (Ret w (.bool true)) := by
  have hsum := canB_sum hb hc
  obtain ⟨B1, off, rfl, _⟩ := id h
  obtain ⟨A1, c1, rfl, e1, e2⟩ := hv.form
  have h' : PtrIn w (.pointer (some ⟨B1, off, none⟩)) (denL (fun n => if n = 0 then A1 else some ⟨B1, off, none⟩) [.v (.int .i64 b), .v (.int .i64 (sumE es)), .s 0 2 es.length c1]) := h
  refine enter tabOk mixed Try.func29 rfl Try.ntmps29 Try.results29 [.p 1 0] (fun n => if n = 0 then A1 else some ⟨B1, off, none⟩) [⟨1, false, 91, 3, 1, .cs [.v (.int .i64 b), .v (.int .i64 (sumE es)), .s 0 2 es.length c1]⟩, ⟨0, false, 92, 2, c1, .rows (ByteArray × Int) rE es⟩] 2 rfl rfl (.ro (.ro (hp0 _ _ _) _ rfl rfl rfl (ro_rows hv rfl _)) _ rfl rfl rfl (ro_ptr h' rfl)) ?_
  ((conv=>whnf);(repeat(refine And.intro ?_ ?_;(focus((first|omega|exact⟨rfl,True.intro⟩|exact⟨rfl,rfl,True.intro⟩|rfl|(simp only[List.length_set];first|omega|(refine⟨?_,?_⟩<;>omega)|(refine⟨?_,?_,?_⟩<;>omega))|(intro hg;(try simp only[bB]at hg);first|omega|(refine⟨?_,?_⟩<;>omega)|(refine⟨?_,?_,?_⟩<;>first|omega|(show _<_;(try simp only[List.length_set]);omega)|exact leT rfl))|(refine⟨?_,?_⟩<;>omega)|(refine⟨?_,?_,?_⟩<;>first|omega|(show _<_;(try simp only[List.length_set]);omega)|exact leT rfl)|(simp only[show rI.d=(0:Int)from rfl];omega));done));(conv=>whnf))))
  refine EvCall.plain Try.call22 (.v (.int .i64 (b - sumE es))) rfl (fun ρ W hp => left_s _ _ b (sumE es) W (hp.ptr (n := 1) rfl (by simp)) (by omega) (by omega) (by omega)) ?_
  ((conv=>whnf);(repeat(refine And.intro ?_ ?_;(focus((first|omega|exact⟨rfl,True.intro⟩|exact⟨rfl,rfl,True.intro⟩|rfl|(simp only[List.length_set];first|omega|(refine⟨?_,?_⟩<;>omega)|(refine⟨?_,?_,?_⟩<;>omega))|(intro hg;(try simp only[bB]at hg);first|omega|(refine⟨?_,?_⟩<;>omega)|(refine⟨?_,?_,?_⟩<;>first|omega|(show _<_;(try simp only[List.length_set]);omega)|exact leT rfl))|(refine⟨?_,?_⟩<;>omega)|(refine⟨?_,?_,?_⟩<;>first|omega|(show _<_;(try simp only[List.length_set]);omega)|exact leT rfl)|(simp only[show rI.d=(0:Int)from rfl];omega));done));(conv=>whnf))))
  refine EvCall.plain Try.call26 (.v (.int .i64 (sumE es))) rfl (fun ρ W hp => spent_s _ _ b (sumE es) W (hp.ptr (n := 1) rfl (by simp))) ?_
  ((conv=>whnf);(repeat(refine And.intro ?_ ?_;(focus((first|omega|exact⟨rfl,True.intro⟩|exact⟨rfl,rfl,True.intro⟩|rfl|(simp only[List.length_set];first|omega|(refine⟨?_,?_⟩<;>omega)|(refine⟨?_,?_,?_⟩<;>omega))|(intro hg;(try simp only[bB]at hg);first|omega|(refine⟨?_,?_⟩<;>omega)|(refine⟨?_,?_,?_⟩<;>first|omega|(show _<_;(try simp only[List.length_set]);omega)|exact leT rfl))|(refine⟨?_,?_⟩<;>omega)|(refine⟨?_,?_,?_⟩<;>first|omega|(show _<_;(try simp only[List.length_set]);omega)|exact leT rfl)|(simp only[show rI.d=(0:Int)from rfl];omega));done));(conv=>whnf))))
  rw [show b - sumE es + sumE es = b by omega]
  refine EvCall.inline tabOk mixed Try.func65 rfl Try.ntmps65 Try.results65 Try.call65 rfl (fun ρ0 => ?_)
  ((conv=>whnf);(repeat(refine And.intro ?_ ?_;(focus((first|omega|exact⟨rfl,True.intro⟩|exact⟨rfl,rfl,True.intro⟩|rfl|(simp only[List.length_set];first|omega|(refine⟨?_,?_⟩<;>omega)|(refine⟨?_,?_,?_⟩<;>omega))|(intro hg;(try simp only[bB]at hg);first|omega|(refine⟨?_,?_⟩<;>omega)|(refine⟨?_,?_,?_⟩<;>first|omega|(show _<_;(try simp only[List.length_set]);omega)|exact leT rfl))|(refine⟨?_,?_⟩<;>omega)|(refine⟨?_,?_,?_⟩<;>first|omega|(show _<_;(try simp only[List.length_set]);omega)|exact leT rfl)|(simp only[show rI.d=(0:Int)from rfl];omega));done));(conv=>whnf))))
  refine EvRet.back ?_
  ((conv=>whnf);(repeat(refine And.intro ?_ ?_;(focus((first|omega|exact⟨rfl,True.intro⟩|exact⟨rfl,rfl,True.intro⟩|rfl|(simp only[List.length_set];first|omega|(refine⟨?_,?_⟩<;>omega)|(refine⟨?_,?_,?_⟩<;>omega))|(intro hg;(try simp only[bB]at hg);first|omega|(refine⟨?_,?_⟩<;>omega)|(refine⟨?_,?_,?_⟩<;>first|omega|(show _<_;(try simp only[List.length_set]);omega)|exact leT rfl))|(refine⟨?_,?_⟩<;>omega)|(refine⟨?_,?_,?_⟩<;>first|omega|(show _<_;(try simp only[List.length_set]);omega)|exact leT rfl)|(simp only[show rI.d=(0:Int)from rfl];omega));done));(conv=>whnf))))
  refine EvIf.neg (by simp; omega) ?_
  ((conv=>whnf);(repeat(refine And.intro ?_ ?_;(focus((first|omega|exact⟨rfl,True.intro⟩|exact⟨rfl,rfl,True.intro⟩|rfl|(simp only[List.length_set];first|omega|(refine⟨?_,?_⟩<;>omega)|(refine⟨?_,?_,?_⟩<;>omega))|(intro hg;(try simp only[bB]at hg);first|omega|(refine⟨?_,?_⟩<;>omega)|(refine⟨?_,?_,?_⟩<;>first|omega|(show _<_;(try simp only[List.length_set]);omega)|exact leT rfl))|(refine⟨?_,?_⟩<;>omega)|(refine⟨?_,?_,?_⟩<;>first|omega|(show _<_;(try simp only[List.length_set]);omega)|exact leT rfl)|(simp only[show rI.d=(0:Int)from rfl];omega));done));(conv=>whnf))))
  refine EvCall.rows (R := rE) (ty := 92) (xs := es) Try.call21 (fun ρ W hp => entries_s _ _ b (sumE es) es W (hp.ptr (n := 1) rfl (by simp)) (hp.rowsIn (R := rE) (n := 0) (c := c1) rfl (by decide) e1 e2 2) (by omega)) (fun ce f1 f2 => ?_)
  ((conv=>whnf);(repeat(refine And.intro ?_ ?_;(focus((first|omega|exact⟨rfl,True.intro⟩|exact⟨rfl,rfl,True.intro⟩|rfl|(simp only[List.length_set];first|omega|(refine⟨?_,?_⟩<;>omega)|(refine⟨?_,?_,?_⟩<;>omega))|(intro hg;(try simp only[bB]at hg);first|omega|(refine⟨?_,?_⟩<;>omega)|(refine⟨?_,?_,?_⟩<;>first|omega|(show _<_;(try simp only[List.length_set]);omega)|exact leT rfl))|(refine⟨?_,?_⟩<;>omega)|(refine⟨?_,?_,?_⟩<;>first|omega|(show _<_;(try simp only[List.length_set]);omega)|exact leT rfl)|(simp only[show rI.d=(0:Int)from rfl];omega));done));(conv=>whnf))))
  refine EvLoop.inv (α := Nat × Nat) (fun p => p.1 ≤ es.length ∧ p.1 ≤ p.2 ∧ p.2 ≤ 9223372036854775807) (fun p => es.length - p.1) (fun p => [(5, [], .v (.int .i64 ((p.1 : Int)))), (4, [], .s 3 2 es.length ce), (3, [], .p 2 0), (0, [], .p 1 0)])
    (fun p => [⟨4, true, 35, 2, p.2, .rows (ByteArray × Int) rE (es.take p.1)⟩, ⟨2, true, 25, 2, 1, .cs [.v (.int .i64 b), .s 4 2 p.1 p.2]⟩, ⟨3, true, 92, 2, ce, .rows (ByteArray × Int) rE es⟩, ⟨1, false, 91, 3, 1, .cs [.v (.int .i64 b), .v (.int .i64 (sumE es)), .s 0 2 es.length c1]⟩, ⟨0, false, 92, 2, c1, .rows (ByteArray × Int) rE es⟩]) 5 (0, 0) ⟨Nat.zero_le _, by show 0 ≤ 0; omega, by show 0 ≤ _; omega⟩ (Sub.of [] [4] rfl ?_) ?_
  · ((repeat' (refine And.intro ?_ ?_)) <;> first | rfl | exact True.intro | omega)
  intro p ⟨hp1, hp2, hp3⟩
  have htl : (es.take p.1).length = p.1 := by simp; omega
  ((conv=>whnf);(repeat(refine And.intro ?_ ?_;(focus((first|omega|exact⟨rfl,True.intro⟩|exact⟨rfl,rfl,True.intro⟩|rfl|(simp only[List.length_set];first|omega|(refine⟨?_,?_⟩<;>omega)|(refine⟨?_,?_,?_⟩<;>omega))|(intro hg;(try simp only[bB]at hg);first|omega|(refine⟨?_,?_⟩<;>omega)|(refine⟨?_,?_,?_⟩<;>first|omega|(show _<_;(try simp only[List.length_set]);omega)|exact leT rfl))|(refine⟨?_,?_⟩<;>omega)|(refine⟨?_,?_,?_⟩<;>first|omega|(show _<_;(try simp only[List.length_set]);omega)|exact leT rfl)|(simp only[show rI.d=(0:Int)from rfl];omega));done));(conv=>whnf))))
  refine EvIf.split (fun g1 => ?_) (fun g1 => ?_)
  · have hlt : p.1 < es.length := by have := of_decide_eq_true g1; omega
    obtain ⟨a1, a2, a3, a4, a5⟩ := canB_at hc hlt
    have hts := take_succE hlt
    have hct := canB_take hc p.1
    have htl2 : (es.take (p.1 + 1)).length = p.1 + 1 := by simp; omega
    obtain ⟨e, hE⟩ : ∃ e, es.getD p.1 rE.d = e := ⟨_, rfl⟩
    have hE2 : es.getD (p.1 : Int).toNat rE.d = e := hE
    rw [hE] at a1 a2 a3 a4 a5 hts
    have hsp : (spendL b (es.take p.1) e.1 e.2).2 = 0 := by
      unfold spendL
      rw [if_neg (by omega), if_neg (by omega)]
    have hrs : ∀ v W, RowsIn rE W v (es.take p.1) → Con Try.prog 57 #[.agg #[.int .i64 b, v], .string e.1, .int .i64 e.2] W (fun e' w' => ∃ k : Nat, (p.1 + 1 ≤ k ∧ k ≤ 9223372036854775807) ∧ RetObs W (rlV b 0 (es.take (p.1 + 1)) k) (rlO (es.take (p.1 + 1)) k) 1 e' w') := fun v W h => by
      have := refspend_ok b v (es.take p.1) e.1 e.2 W h hct hb hb2 (by rw [htl]; omega) hsp
      rw [htl] at this
      rw [hts]
      exact this
    ((conv=>whnf);(repeat(refine And.intro ?_ ?_;(focus((first|omega|exact⟨rfl,True.intro⟩|exact⟨rfl,rfl,True.intro⟩|rfl|(simp only[List.length_set];first|omega|(refine⟨?_,?_⟩<;>omega)|(refine⟨?_,?_,?_⟩<;>omega))|(intro hg;(try simp only[bB]at hg);first|omega|(refine⟨?_,?_⟩<;>omega)|(refine⟨?_,?_,?_⟩<;>first|omega|(show _<_;(try simp only[List.length_set]);omega)|exact leT rfl))|(refine⟨?_,?_⟩<;>omega)|(refine⟨?_,?_,?_⟩<;>first|omega|(show _<_;(try simp only[List.length_set]);omega)|exact leT rfl)|(simp only[show rI.d=(0:Int)from rfl];omega));done));(conv=>whnf))))
    refine EvDraw.meet (.q 0 (.q 1 (.q 2 (.q 3 (.q 4 (.q 5 (.q 6 (.q 7 (.q 8 (.q 9 (.q 10 (.n 11 true (.q 12 (.q 13 (.q 14 (.n 15 false (.n 16 true (.q 17 (.z)) (.e)) (.e))))) (.n 15 false (.n 11 true (.q 12 (.q 13 (.q 14 (.n 16 true (.q 17 (.z)) (.e))))) (.e)) (.e)))))))))))))) (by kernel_rfl) (α := Nat) (fun k => p.1 + 1 ≤ k ∧ k ≤ 9223372036854775807) (fun k => [(7, [], .v (.int .i64 (0))), (6, [], .p 6 0), (5, [], .v (.int .i64 ((p.1 : Int)))), (4, [], .s 3 2 es.length ce), (3, [], .p 2 0), (0, [], .p 1 0)])
      (fun k => [⟨6, true, 25, 2, 1, .cs [.v (.int .i64 b), .s 5 2 (p.1 + 1) k]⟩, ⟨5, true, 35, 2, k, .rows (ByteArray × Int) rE (es.take (p.1 + 1))⟩, ⟨2, true, 25, 2, 1, .cs [.v (.int .i64 b), .s 4 2 p.1 p.2]⟩, ⟨3, true, 92, 2, ce, .rows (ByteArray × Int) rE es⟩, ⟨1, false, 91, 3, 1, .cs [.v (.int .i64 b), .v (.int .i64 (sumE es)), .s 0 2 es.length c1]⟩, ⟨0, false, 92, 2, c1, .rows (ByteArray × Int) rE es⟩]) 7 ?_ ?_
    · ((conv=>whnf);(repeat(refine And.intro ?_ ?_;(focus((first|omega|exact⟨rfl,True.intro⟩|exact⟨rfl,rfl,True.intro⟩|rfl|(simp only[List.length_set];first|omega|(refine⟨?_,?_⟩<;>omega)|(refine⟨?_,?_,?_⟩<;>omega))|(intro hg;(try simp only[bB]at hg);first|omega|(refine⟨?_,?_⟩<;>omega)|(refine⟨?_,?_,?_⟩<;>first|omega|(show _<_;(try simp only[List.length_set]);omega)|exact leT rfl))|(refine⟨?_,?_⟩<;>omega)|(refine⟨?_,?_,?_⟩<;>first|omega|(show _<_;(try simp only[List.length_set]);omega)|exact leT rfl)|(simp only[show rI.d=(0:Int)from rfl];omega));done));(conv=>whnf))))
      refine And.intro ?_ ?_
      · ((conv=>whnf);(repeat(refine And.intro ?_ ?_;(focus((first|omega|exact⟨rfl,True.intro⟩|exact⟨rfl,rfl,True.intro⟩|rfl|(simp only[List.length_set];first|omega|(refine⟨?_,?_⟩<;>omega)|(refine⟨?_,?_,?_⟩<;>omega))|(intro hg;(try simp only[bB]at hg);first|omega|(refine⟨?_,?_⟩<;>omega)|(refine⟨?_,?_,?_⟩<;>first|omega|(show _<_;(try simp only[List.length_set]);omega)|exact leT rfl))|(refine⟨?_,?_⟩<;>omega)|(refine⟨?_,?_,?_⟩<;>first|omega|(show _<_;(try simp only[List.length_set]);omega)|exact leT rfl)|(simp only[show rI.d=(0:Int)from rfl];omega));done));(conv=>whnf))))
        rw [hE2]
        refine EvCall.obs (α := Nat) (fun k : Nat => p.1 + 1 ≤ k ∧ k ≤ 9223372036854775807) (fun k => rlV b 0 (es.take (p.1 + 1)) k) (fun k => rlO (es.take (p.1 + 1)) k) 1 (fun k => .t [.a [.v (.int .i64 b), .s 5 2 (es.take (p.1 + 1)).length k], .v (.int .i64 0)]) (fun k => [⟨5, true, 35, 2, k, .rows (ByteArray × Int) rE (es.take (p.1 + 1))⟩]) (fun k => rfl) (fun k => rfl) (fun k o ho => by simp [rlO] at ho; subst ho; rfl) Try.call57 (fun ρ W hp => hrs _ W (by
          have := hp.rowsIn (R := rE) (n := 4) (c := p.2) (xs := es.take p.1) rfl (by decide) (by rw [htl]; exact hp2) hp3 2
          rw [htl] at this
          exact this)) (fun k ⟨k1, k2⟩ => ?_)
        ((conv=>whnf);(repeat(refine And.intro ?_ ?_;(focus((first|omega|exact⟨rfl,True.intro⟩|exact⟨rfl,rfl,True.intro⟩|rfl|(simp only[List.length_set];first|omega|(refine⟨?_,?_⟩<;>omega)|(refine⟨?_,?_,?_⟩<;>omega))|(intro hg;(try simp only[bB]at hg);first|omega|(refine⟨?_,?_⟩<;>omega)|(refine⟨?_,?_,?_⟩<;>first|omega|(show _<_;(try simp only[List.length_set]);omega)|exact leT rfl))|(refine⟨?_,?_⟩<;>omega)|(refine⟨?_,?_,?_⟩<;>first|omega|(show _<_;(try simp only[List.length_set]);omega)|exact leT rfl)|(simp only[show rI.d=(0:Int)from rfl];omega));done));(conv=>whnf))))
        refine Exists.intro k (And.intro ⟨k1, k2⟩ (Sub.of [] [] rfl ?_))
        (repeat' (refine And.intro ?_ ?_)) <;> first | rfl | exact True.intro | exact htl2 | exact htl2.symm | omega
      ((conv=>whnf);(repeat(refine And.intro ?_ ?_;(focus((first|omega|exact⟨rfl,True.intro⟩|exact⟨rfl,rfl,True.intro⟩|rfl|(simp only[List.length_set];first|omega|(refine⟨?_,?_⟩<;>omega)|(refine⟨?_,?_,?_⟩<;>omega))|(intro hg;(try simp only[bB]at hg);first|omega|(refine⟨?_,?_⟩<;>omega)|(refine⟨?_,?_,?_⟩<;>first|omega|(show _<_;(try simp only[List.length_set]);omega)|exact leT rfl))|(refine⟨?_,?_⟩<;>omega)|(refine⟨?_,?_,?_⟩<;>first|omega|(show _<_;(try simp only[List.length_set]);omega)|exact leT rfl)|(simp only[show rI.d=(0:Int)from rfl];omega));done));(conv=>whnf))))
      rw [hE2]
      refine EvCall.obs (α := Nat) (fun k : Nat => p.1 + 1 ≤ k ∧ k ≤ 9223372036854775807) (fun k => rlV b 0 (es.take (p.1 + 1)) k) (fun k => rlO (es.take (p.1 + 1)) k) 1 (fun k => .t [.a [.v (.int .i64 b), .s 6 2 (es.take (p.1 + 1)).length k], .v (.int .i64 0)]) (fun k => [⟨6, true, 35, 2, k, .rows (ByteArray × Int) rE (es.take (p.1 + 1))⟩]) (fun k => rfl) (fun k => rfl) (fun k o ho => by simp [rlO] at ho; subst ho; rfl) Try.call57 (fun ρ W hp => hrs _ W (by
        have := hp.rowsIn (R := rE) (n := 4) (c := p.2) (xs := es.take p.1) rfl (by decide) (by rw [htl]; exact hp2) hp3 2
        rw [htl] at this
        exact this)) (fun k ⟨k1, k2⟩ => ?_)
      ((conv=>whnf);(repeat(refine And.intro ?_ ?_;(focus((first|omega|exact⟨rfl,True.intro⟩|exact⟨rfl,rfl,True.intro⟩|rfl|(simp only[List.length_set];first|omega|(refine⟨?_,?_⟩<;>omega)|(refine⟨?_,?_,?_⟩<;>omega))|(intro hg;(try simp only[bB]at hg);first|omega|(refine⟨?_,?_⟩<;>omega)|(refine⟨?_,?_,?_⟩<;>first|omega|(show _<_;(try simp only[List.length_set]);omega)|exact leT rfl))|(refine⟨?_,?_⟩<;>omega)|(refine⟨?_,?_,?_⟩<;>first|omega|(show _<_;(try simp only[List.length_set]);omega)|exact leT rfl)|(simp only[show rI.d=(0:Int)from rfl];omega));done));(conv=>whnf))))
      refine Exists.intro k (And.intro ⟨k1, k2⟩ (Sub.of [(5, 6), (6, 5)] [] rfl ?_))
      (repeat' (refine And.intro ?_ ?_)) <;> first | rfl | exact True.intro | exact htl2 | exact htl2.symm | omega
    intro k ⟨k1, k2⟩
    ((conv=>whnf);(repeat(refine And.intro ?_ ?_;(focus((first|omega|exact⟨rfl,True.intro⟩|exact⟨rfl,rfl,True.intro⟩|rfl|(simp only[List.length_set];first|omega|(refine⟨?_,?_⟩<;>omega)|(refine⟨?_,?_,?_⟩<;>omega))|(intro hg;(try simp only[bB]at hg);first|omega|(refine⟨?_,?_⟩<;>omega)|(refine⟨?_,?_,?_⟩<;>first|omega|(show _<_;(try simp only[List.length_set]);omega)|exact leT rfl))|(refine⟨?_,?_⟩<;>omega)|(refine⟨?_,?_,?_⟩<;>first|omega|(show _<_;(try simp only[List.length_set]);omega)|exact leT rfl)|(simp only[show rI.d=(0:Int)from rfl];omega));done));(conv=>whnf))))
    refine EvIf.neg rfl ?_
    ((conv=>whnf);(repeat(refine And.intro ?_ ?_;(focus((first|omega|exact⟨rfl,True.intro⟩|exact⟨rfl,rfl,True.intro⟩|rfl|(simp only[List.length_set];first|omega|(refine⟨?_,?_⟩<;>omega)|(refine⟨?_,?_,?_⟩<;>omega))|(intro hg;(try simp only[bB]at hg);first|omega|(refine⟨?_,?_⟩<;>omega)|(refine⟨?_,?_,?_⟩<;>first|omega|(show _<_;(try simp only[List.length_set]);omega)|exact leT rfl))|(refine⟨?_,?_⟩<;>omega)|(refine⟨?_,?_,?_⟩<;>first|omega|(show _<_;(try simp only[List.length_set]);omega)|exact leT rfl)|(simp only[show rI.d=(0:Int)from rfl];omega));done));(conv=>whnf))))
    refine LoopI.back (p.1 + 1, k) ⟨hlt, k1, k2⟩ (by show es.length - (p.1 + 1) < es.length - p.1; omega) (Sub.of [(4, 5)] [] rfl ?_)
    ((repeat' (refine And.intro ?_ ?_)) <;> first | rfl | exact True.intro | omega)
  · have hpe : p.1 = es.length := by have := of_decide_eq_false g1; omega
    obtain ⟨i, c⟩ := p
    dsimp only at hp1 hp2 hp3 hpe htl ⊢
    subst hpe
    rw [List.take_length]
    ((conv=>whnf);(repeat(refine And.intro ?_ ?_;(focus((first|omega|exact⟨rfl,True.intro⟩|exact⟨rfl,rfl,True.intro⟩|rfl|(simp only[List.length_set];first|omega|(refine⟨?_,?_⟩<;>omega)|(refine⟨?_,?_,?_⟩<;>omega))|(intro hg;(try simp only[bB]at hg);first|omega|(refine⟨?_,?_⟩<;>omega)|(refine⟨?_,?_,?_⟩<;>first|omega|(show _<_;(try simp only[List.length_set]);omega)|exact leT rfl))|(refine⟨?_,?_⟩<;>omega)|(refine⟨?_,?_,?_⟩<;>first|omega|(show _<_;(try simp only[List.length_set]);omega)|exact leT rfl)|(simp only[show rI.d=(0:Int)from rfl];omega));done));(conv=>whnf))))
    refine EvCall.plain Try.call66 (.v (.int .i64 (sumE es))) rfl (fun ρ W hp => refspent_s b _ es W (hp.rowsIn (R := rE) (n := 4) (c := c) rfl (by decide) hp2 hp3 2) hc hb hb2) ?_
    ((conv=>whnf);(repeat(refine And.intro ?_ ?_;(focus((first|omega|exact⟨rfl,True.intro⟩|exact⟨rfl,rfl,True.intro⟩|rfl|(simp only[List.length_set];first|omega|(refine⟨?_,?_⟩<;>omega)|(refine⟨?_,?_,?_⟩<;>omega))|(intro hg;(try simp only[bB]at hg);first|omega|(refine⟨?_,?_⟩<;>omega)|(refine⟨?_,?_,?_⟩<;>first|omega|(show _<_;(try simp only[List.length_set]);omega)|exact leT rfl))|(refine⟨?_,?_⟩<;>omega)|(refine⟨?_,?_,?_⟩<;>first|omega|(show _<_;(try simp only[List.length_set]);omega)|exact leT rfl)|(simp only[show rI.d=(0:Int)from rfl];omega));done));(conv=>whnf))))
    refine EvCall.plain Try.call26 (.v (.int .i64 (sumE es))) rfl (fun ρ W hp => spent_s _ _ b (sumE es) W (hp.ptr (n := 1) rfl (by simp))) ?_
    ((conv=>whnf);(repeat(refine And.intro ?_ ?_;(focus((first|omega|exact⟨rfl,True.intro⟩|exact⟨rfl,rfl,True.intro⟩|rfl|(simp only[List.length_set];first|omega|(refine⟨?_,?_⟩<;>omega)|(refine⟨?_,?_,?_⟩<;>omega))|(intro hg;(try simp only[bB]at hg);first|omega|(refine⟨?_,?_⟩<;>omega)|(refine⟨?_,?_,?_⟩<;>first|omega|(show _<_;(try simp only[List.length_set]);omega)|exact leT rfl))|(refine⟨?_,?_⟩<;>omega)|(refine⟨?_,?_,?_⟩<;>first|omega|(show _<_;(try simp only[List.length_set]);omega)|exact leT rfl)|(simp only[show rI.d=(0:Int)from rfl];omega));done));(conv=>whnf))))
    exact EvRet.ret (fun ρ => by simp [den])
end Go.Proofs.Ytebfhljamoapjaa
