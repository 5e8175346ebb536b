
/- Envelopes: Spread, Change; the reference's Change. -/
import Derived.Test.YtnoenmacakbhdaaEf
namespace Go.Proofs.Ytnoenmacakbhdaa
open Go.RowKit
set_option linter.unusedVariables false
set_option linter.unusedSimpArgs false

set_option maxRecDepth 10000 in
theorem spread_s (nm : ByteArray) (A : Option Addr) (ln c : Nat) (d : Dc) (s t x y : Int) (w : World) (hd : DcS d) (hs : 0 ≤ s ∧ s ≤ 1048576) (ht : 0 ≤ t ∧ t ≤ 1048576) (hx : -4611686018427387904 ≤ x ∧ x ≤ 4611686018427387904) (hy : -4611686018427387904 ≤ y ∧ y ≤ 4611686018427387904) :
    Con Try.prog 65 #[.agg (dcCells nm (.slice A ln c) d), .int .i64 s, .int .i64 t, .int .i64 x, .int .i64 y] w (Ret w (.tuple #[.int .i64 (lowV d s t x), .int .i64 (highV d s t y)])) := by
  obtain ⟨q1, q2, q3, q4⟩ := hd
  refine enter tabOk mixed Try.func65 rfl Try.ntmps65 Try.results65 [.a (dcS nm (.v (.slice A ln c)) d), .v (.int .i64 s), .v (.int .i64 t), .v (.int .i64 x), .v (.int .i64 y)] (fun _ => none) [] 0 rfl rfl (hp0 _ _ _) ?_
  ((conv=>whnf);repeat(refine And.intro (by omega) ?_;(conv=>whnf)))
  refine EvIf.split (fun h1 => ?_) (fun h1 => ?_)
  · simp only [decide_eq_true_eq] at h1
    have h2 : s ≤ t := by omega
    have m1 := mul_bd (a := d.down) (n := t - s) (A := 1048576) (N := 1048576) (by omega) (by omega) (by omega) (by omega) (by omega)
    have m2 := mul_bd (a := d.up) (n := t - s) (A := 1048576) (N := 1048576) (by omega) (by omega) (by omega) (by omega) (by omega)
    ((conv=>whnf);repeat(refine And.intro (by omega) ?_;(conv=>whnf)))
    (refine EvDraw.one (.q 0 (.q 1 (.q 2 (.q 3 (.q 4 (.q 5 (.q 6 (.q 7 (.q 8 (.q 9 (.q 10 (.q 11 (.q 12 (.q 13 (.q 14 (.q 15 (.q 16 (.q 17 (.z))))))))))))))))))) (by kernel_rfl) ?_)
    ((conv=>whnf);repeat(refine And.intro (by omega) ?_;(conv=>whnf)))
    refine EvRet.ret (fun _ => ?_)
    rw [lowV, highV, if_pos h2, if_pos h2]
    rfl
  · simp only [decide_eq_false_iff_not] at h1
    have h2 : ¬ s ≤ t := by omega
    have m1 := mul_bd (a := d.up) (n := s - t) (A := 1048576) (N := 1048576) (by omega) (by omega) (by omega) (by omega) (by omega)
    have m2 := mul_bd (a := d.down) (n := s - t) (A := 1048576) (N := 1048576) (by omega) (by omega) (by omega) (by omega) (by omega)
    ((conv=>whnf);repeat(refine And.intro (by omega) ?_;(conv=>whnf)))
    (refine EvDraw.one (.q 0 (.q 1 (.q 2 (.q 3 (.q 4 (.q 5 (.q 6 (.q 7 (.q 8 (.q 9 (.q 10 (.q 11 (.q 12 (.q 13 (.q 14 (.q 15 (.q 16 (.q 17 (.z))))))))))))))))))) (by kernel_rfl) ?_)
    ((conv=>whnf);repeat(refine And.intro (by omega) ?_;(conv=>whnf)))
    refine EvRet.ret (fun _ => ?_)
    rw [lowV, highV, if_neg h2, if_neg h2]
    rfl
/-- What Change returns when both ticks are in the life. -/
def chLo (d : Dc) (e : Env12) (s t : Int) : Int := max (lowV d s t 0) (e.lo.getD (t - e.f).toNat 0 - e.hi.getD (s - e.f).toNat 0)
def chHi (d : Dc) (e : Env12) (s t : Int) : Int := min (highV d s t 0) (e.hi.getD (t - e.f).toNat 0 - e.lo.getD (s - e.f).toNat 0)
def inE (e : Env12) (t : Int) : Prop := 0 ≤ t - e.f ∧ t - e.f < min (e.lo.length : Int) (e.hi.length : Int)
instance (e : Env12) (t : Int) : Decidable (inE e t) := by unfold inE; exact inferInstance
def chR (d : Dc) (e : Env12) (s t : Int) : Int × Int × Int := if inE e s ∧ inE e t then (chLo d e s t, chHi d e s t, 0) else (0, 0, 9)
set_option maxRecDepth 10000 in
theorem change_s (V : Value) (d : Dc) (e : Env12) (A1 A2 : Option Addr) (n1 n2 c1 c2 : Nat) (s t : Int) (w : World) (h : DeclIs w V d) (hI : DcI d) (hvc : validCode d = 0) (h1 : RowsIn rI w (.slice A1 n1 c1) e.lo) (h2 : RowsIn rI w (.slice A2 n2 c2) e.hi)
    (hs : -1000000000 ≤ s ∧ s ≤ 1000000000) (ht : -1000000000 ≤ t ∧ t ≤ 1000000000) (hf : 0 ≤ e.f ∧ e.f ≤ 1000000) (hl : e.lo.length ≤ 4096) (hb : ∀ i, (-1099511627776 ≤ e.lo.getD i 0 ∧ e.lo.getD i 0 ≤ 1099511627776) ∧ -1099511627776 ≤ e.hi.getD i 0 ∧ e.hi.getD i 0 ≤ 1099511627776) :
    Con Try.prog 20 #[V, envV e.f (.slice A1 n1 c1) (.slice A2 n2 c2), .int .i64 s, .int .i64 t] w (Ret w (.tuple #[.int .i64 (chR d e s t).1, .int .i64 (chR d e s t).2.1, .int .i64 (chR d e s t).2.2])) := by
  have hD := h
  obtain ⟨nm, A, c, lb, rfl, hnm, hlab, hS⟩ := h
  obtain ⟨_, _, ee, e1, e2⟩ := h1.form
  simp at ee
  obtain ⟨rfl, rfl, rfl⟩ := ee
  obtain ⟨_, _, ee, e3, e4⟩ := h2.form
  simp at ee
  obtain ⟨rfl, rfl, rfl⟩ := ee
  have b1 := hb (s - e.f).toNat
  have b2 := hb (t - e.f).toNat
  refine enter tabOk mixed Try.func20 rfl Try.ntmps20 Try.results20 [.a (dcS nm (.v (.slice A lb.length c)) d), .a [.v (.int .i64 e.f), .s 0 1 e.lo.length c1, .s 1 1 e.hi.length c2], .v (.int .i64 s), .v (.int .i64 t)] (fun n => if n = 0 then A1 else A2) [⟨1, false, 3, 1, c2, .rows Int rI (e.hi)⟩, ⟨0, false, 3, 1, c1, .rows Int rI (e.lo)⟩] 2 rfl rfl (.ro (.ro (hp0 _ _ _) _ rfl rfl rfl (ro_rows h1 rfl _)) _ rfl rfl rfl (ro_rows h2 rfl _)) ?_
  ((conv=>whnf);repeat(refine And.intro (by omega) ?_;(conv=>whnf)))
  refine EvCall.plain Try.call36 (.v (.int .i64 0)) rfl (fun ρ W hp => by
    have := decl_valid_s _ d W (hD.below hp.bel) hI
    rw [hvc] at this
    exact this) ?_
  ((conv=>whnf);repeat(refine And.intro (by omega) ?_;(conv=>whnf)))
  refine EvIf.neg rfl ?_
  ((conv=>whnf);repeat(refine And.intro (by omega) ?_;(conv=>whnf)))
  refine EvCall.plain Try.call27 (.t [.v (.int .i64 (atR e s).1), .v (.int .i64 (atR e s).2.1), .v (.int .i64 (atR e s).2.2)]) rfl (fun ρ W hp => at_s e _ _ _ _ _ _ s W (hp.rowsIn (R := rI) (n := 0) rfl (by decide) e1 e2 1) (hp.rowsIn (R := rI) (n := 1) rfl (by decide) e3 e4 1) hs (by omega)) ?_
  by_cases hes : inE e s
  · have ha : atR e s = (e.lo.getD (s - e.f).toNat 0, e.hi.getD (s - e.f).toNat 0, 0) := if_pos hes
    rw [ha]
    ((conv=>whnf);repeat(refine And.intro (by omega) ?_;(conv=>whnf)))
    refine EvIf.neg rfl ?_
    ((conv=>whnf);repeat(refine And.intro (by omega) ?_;(conv=>whnf)))
    refine EvCall.plain Try.call27 (.t [.v (.int .i64 (atR e t).1), .v (.int .i64 (atR e t).2.1), .v (.int .i64 (atR e t).2.2)]) rfl (fun ρ W hp => at_s e _ _ _ _ _ _ t W (hp.rowsIn (R := rI) (n := 0) rfl (by decide) e1 e2 1) (hp.rowsIn (R := rI) (n := 1) rfl (by decide) e3 e4 1) ht (by omega)) ?_
    by_cases het : inE e t
    · have hc : atR e t = (e.lo.getD (t - e.f).toNat 0, e.hi.getD (t - e.f).toNat 0, 0) := if_pos het
      have hr : chR d e s t = (chLo d e s t, chHi d e s t, 0) := if_pos ⟨hes, het⟩
      rw [hc, hr]
      unfold inE at hes het
      have hd := dcS_of hvc
      ((conv=>whnf);repeat(refine And.intro (by omega) ?_;(conv=>whnf)))
      refine EvIf.neg rfl ?_
      ((conv=>whnf);repeat(refine And.intro (by omega) ?_;(conv=>whnf)))
      refine EvCall.plain Try.call65 (.t [.v (.int .i64 (lowV d s t 0)), .v (.int .i64 (highV d s t 0))]) rfl (fun ρ W hp => spread_s nm A lb.length c d s t 0 0 W hd (by omega) (by omega) (by omega) (by omega)) ?_
      ((conv=>whnf);(repeat(refine And.intro ?_ ?_;(focus((first|omega|exact⟨rfl,True.intro⟩|exact⟨rfl,rfl,True.intro⟩|rfl|(simp only[List.length_set];first|omega|(refine⟨?_,?_⟩<;>omega)|(refine⟨?_,?_,?_⟩<;>omega))|(intro hg;(try simp only[bB]at hg);first|omega|(refine⟨?_,?_⟩<;>omega)|(refine⟨?_,?_,?_⟩<;>first|omega|(show _<_;(try simp only[List.length_set]);omega)|exact leT rfl))|(refine⟨?_,?_⟩<;>omega)|(refine⟨?_,?_,?_⟩<;>first|omega|(show _<_;(try simp only[List.length_set]);omega)|exact leT rfl)|(simp only[show rI.d=(0:Int)from rfl];omega));done));(conv=>whnf))))
      exact EvRet.ret (fun _ => rfl)
    · have hc : atR e t = (0, 0, 9) := if_neg het
      have hr : chR d e s t = (0, 0, 9) := if_neg (fun h => het h.2)
      rw [hc, hr]
      ((conv=>whnf);repeat(refine And.intro (by omega) ?_;(conv=>whnf)))
      refine EvIf.pos rfl ?_
      ((conv=>whnf);repeat(refine And.intro (by omega) ?_;(conv=>whnf)))
      exact EvRet.ret (fun _ => rfl)
  · have ha : atR e s = (0, 0, 9) := if_neg hes
    have hr : chR d e s t = (0, 0, 9) := if_neg (fun h => hes h.1)
    rw [ha, hr]
    ((conv=>whnf);repeat(refine And.intro (by omega) ?_;(conv=>whnf)))
    refine EvIf.pos rfl ?_
    ((conv=>whnf);repeat(refine And.intro (by omega) ?_;(conv=>whnf)))
    exact EvRet.ret (fun _ => rfl)
end Go.Proofs.Ytnoenmacakbhdaa
