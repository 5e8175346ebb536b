
/- Envelopes: Why of both, walked; what it means. -/
import Derived.Test.YtnoenmacakbhdaaFd
namespace Go.Proofs.Ytnoenmacakbhdaa
open Go.RowKit
set_option linter.unusedVariables false
set_option linter.unusedSimpArgs false

def whyP (d : Dc) (l : List Cl) (t : Int) (up : Bool) (k : Nat) : Prop := if up then greatV d ((srcL d l).getD k cl0) t = rHi d l t else leastV d ((srcL d l).getD k cl0) t = rLo d l t
def IsWhy (d : Dc) (l : List Cl) (t : Int) (up : Bool) (k : Nat) : Prop := k < l.length + 1 ∧ whyP d l t up k ∧ ∀ j, j < k → ¬ whyP d l t up j
theorem why_unique {d : Dc} {l : List Cl} {t : Int} {up : Bool} {i k : Nat} (h : IsWhy d l t up i) (h' : IsWhy d l t up k) : i = k := by
  rcases Nat.lt_trichotomy i k with h1 | h1 | h1
  · exact absurd h.2.1 (h'.2.2 i h1)
  · exact h1
  · exact absurd h'.2.1 (h.2.2 k h1)
theorem why_ex (d : Dc) (l : List Cl) (t : Int) (up : Bool) : ∃ k, IsWhy d l t up k := by
  have key : ∃ k, k < l.length + 1 ∧ whyP d l t up k := by
    cases up with
    | true =>
      obtain ⟨c, hc, h⟩ := rHi_att d l t
      obtain ⟨i, hi, rfl⟩ := mem_src.1 hc
      exact ⟨i, hi, by simpa [whyP] using h⟩
    | false =>
      obtain ⟨c, hc, h⟩ := rLo_att d l t
      obtain ⟨i, hi, rfl⟩ := mem_src.1 hc
      exact ⟨i, hi, by simpa [whyP] using h⟩
  obtain ⟨k, hk, h⟩ := key
  obtain ⟨m, ⟨hm1, hm2⟩, hm3⟩ := exists_least (fun k => k < l.length + 1 ∧ whyP d l t up k) k ⟨hk, h⟩
  exact ⟨m, hm1, hm2, fun j hj hh => hm3 j hj ⟨by omega, hh⟩⟩
noncomputable def whyI (d : Dc) (l : List Cl) (t : Int) (up : Bool) : Nat := (why_ex d l t up).choose
theorem whyI_is (d : Dc) (l : List Cl) (t : Int) (up : Bool) : IsWhy d l t up (whyI d l t up) := (why_ex d l t up).choose_spec
theorem whyI_eq {d : Dc} {l : List Cl} {t : Int} {up : Bool} {k : Nat} (h : IsWhy d l t up k) : whyI d l t up = k := why_unique (whyI_is d l t up) h
def implB (d : Dc) (t : Int) (up : Bool) (gr le : Int) (c : Cl) (s : Int) : Bool := if up then decide (highV d s t c.hi = gr) else decide (lowV d s t c.lo = le)
theorem impl_three {d : Dc} {l : List Cl} {t : Int} {up : Bool} {k : Nat} (hv : validCode d = 0) (hl : ∀ c ∈ l, validB d c = true) (hk : k < l.length + 1) :
    (implB d t up (rHi d l t) (rLo d l t) ((srcL d l).getD k cl0) ((srcL d l).getD k cl0).f || implB d t up (rHi d l t) (rLo d l t) ((srcL d l).getD k cl0) ((srcL d l).getD k cl0).t || implB d t up (rHi d l t) (rLo d l t) ((srcL d l).getD k cl0) (min (max t ((srcL d l).getD k cl0).f) ((srcL d l).getD k cl0).t)) = true ↔ whyP d l t up k := by
  have hm : (srcL d l).getD k cl0 ∈ srcL d l := mem_src.2 ⟨k, hk, rfl⟩
  have hs := src_ok hv hl _ hm
  unfold SrcOk at hs
  unfold whyP
  have g1 : rHi d l t ≤ greatV d ((srcL d l).getD k cl0) t := rHi_ge.1 (Int.le_refl _) _ hm
  have g2 : leastV d ((srcL d l).getD k cl0) t ≤ rLo d l t := rLo_le.1 (Int.le_refl _) _ hm
  generalize (srcL d l).getD k cl0 = c at *
  cases up with
  | true =>
    simp only [implB, if_true, Bool.or_eq_true, decide_eq_true_eq]
    rw [great_three (by omega) g1, or_assoc]
    rfl
  | false =>
    simp only [implB, Bool.false_eq_true, if_false, Bool.or_eq_true, decide_eq_true_eq]
    rw [least_three (by omega) g2, or_assoc]
    rfl
set_option maxRecDepth 10000 in
theorem impl_s (nm : ByteArray) (A : Option Addr) (ln cc : Nat) (B1 B2 B3 B4 B5 : Addr) (d : Dc) (c : Cl) (s t gr le : Int) (up : Bool) (w : World) (hd : DcS d) (hs : 0 ≤ s ∧ s ≤ 1048576) (ht : 0 ≤ t ∧ t ≤ 1048576) (hx : -4611686018427387904 ≤ c.lo ∧ c.lo ≤ 4611686018427387904) (hy : -4611686018427387904 ≤ c.hi ∧ c.hi ≤ 4611686018427387904)
    (h1 : PtrIn w (.pointer (some B1)) (denL (fun _ => none) (dcS nm (.v (.slice A ln cc)) d))) (h2 : PtrIn w (.pointer (some B2)) [.int .i64 t]) (h3 : PtrIn w (.pointer (some B3)) [.bool up]) (h4 : PtrIn w (.pointer (some B4)) [.int .i64 gr]) (h5 : PtrIn w (.pointer (some B5)) [.int .i64 le]) :
    Con Try.prog 73 #[.agg (clA c), .int .i64 s, .pointer (some B1), .pointer (some B2), .pointer (some B3), .pointer (some B4), .pointer (some B5)] w (Ret w (.bool (implB d t up gr le c s))) := by
  have h1' : PtrIn w (.pointer (some B1)) (denL (fun n => if n = 0 then some B1 else if n = 1 then some B2 else if n = 2 then some B3 else if n = 3 then some B4 else some B5) (dcS nm (.v (.slice A ln cc)) d)) := h1
  have h2' : PtrIn w (.pointer (some B2)) (denL (fun n => if n = 0 then some B1 else if n = 1 then some B2 else if n = 2 then some B3 else if n = 3 then some B4 else some B5) [.v (.int .i64 t)]) := h2
  have h3' : PtrIn w (.pointer (some B3)) (denL (fun n => if n = 0 then some B1 else if n = 1 then some B2 else if n = 2 then some B3 else if n = 3 then some B4 else some B5) [.v (.bool up)]) := h3
  have h4' : PtrIn w (.pointer (some B4)) (denL (fun n => if n = 0 then some B1 else if n = 1 then some B2 else if n = 2 then some B3 else if n = 3 then some B4 else some B5) [.v (.int .i64 gr)]) := h4
  have h5' : PtrIn w (.pointer (some B5)) (denL (fun n => if n = 0 then some B1 else if n = 1 then some B2 else if n = 2 then some B3 else if n = 3 then some B4 else some B5) [.v (.int .i64 le)]) := h5
  refine enter tabOk mixed Try.func73 rfl Try.ntmps73 Try.results73 [.a (clS c), .v (.int .i64 s), .p 0 0, .p 1 0, .p 2 0, .p 3 0, .p 4 0] (fun n => if n = 0 then some B1 else if n = 1 then some B2 else if n = 2 then some B3 else if n = 3 then some B4 else some B5) [⟨4, false, 3, 1, 1, .cs [.v (.int .i64 le)]⟩, ⟨3, false, 3, 1, 1, .cs [.v (.int .i64 gr)]⟩, ⟨2, false, 4, 1, 1, .cs [.v (.bool up)]⟩, ⟨1, false, 3, 1, 1, .cs [.v (.int .i64 t)]⟩, ⟨0, false, 27, 12, 1, .cs (dcS nm (.v (.slice A ln cc)) d)⟩] 5 rfl rfl (.ro (.ro (.ro (.ro (.ro (hp0 _ _ _) _ rfl rfl rfl (ro_ptr h1' rfl)) _ rfl rfl rfl (ro_ptr h2' rfl)) _ rfl rfl rfl (ro_ptr h3' rfl)) _ rfl rfl rfl (ro_ptr h4' rfl)) _ rfl rfl rfl (ro_ptr h5' rfl)) ?_
  ((conv=>whnf);repeat(refine And.intro (by omega) ?_;(conv=>whnf)))
  refine EvCall.plain Try.call65 (.t [.v (.int .i64 (lowV d s t c.lo)), .v (.int .i64 (highV d s t c.hi))]) rfl (fun ρ W hp => spread_s nm A ln cc d s t c.lo c.hi W hd hs ht hx hy) ?_
  ((conv=>whnf);repeat(refine And.intro (by omega) ?_;(conv=>whnf)))
  cases up with
  | true =>
    refine EvIf.pos rfl ?_
    ((conv=>whnf);repeat(refine And.intro (by omega) ?_;(conv=>whnf)))
    exact EvRet.ret (fun _ => rfl)
  | false =>
    refine EvIf.neg rfl ?_
    ((conv=>whnf);repeat(refine And.intro (by omega) ?_;(conv=>whnf)))
    exact EvRet.ret (fun _ => rfl)
noncomputable def whyR (d : Dc) (l : List Cl) (t : Int) (up : Bool) : Int × Int :=
  if (newR d l).2 ≠ 0 then (0, (newR d l).2) else if t < d.first ∨ d.last < t then (0, 9) else ((whyI d l t up : Int) - 1, 0)
set_option maxRecDepth 20000 in
theorem why_s (V v : Value) (d : Dc) (l : List Cl) (t : Int) (up : Bool) (w : World) (h : DeclIs w V d) (hI : DcI d) (hvc : validCode d = 0) (hll : l.length ≤ 4096) (hlv : ∀ c ∈ l, validB d c = true) (hv : RowsIn rC w v l) (ht0 : -1000000000 ≤ t ∧ t ≤ 1000000000) :
    Con Try.prog 25 #[V, v, .int .i64 t, .bool up] w (Ret w (.tuple #[.int .i64 (whyR d l t up).1, .int .i64 (whyR d l t up).2])) := by
  have hD := h
  obtain ⟨nm, A, c, lb, rfl, hnm, hl, hS⟩ := h
  obtain ⟨A1, c1, rfl, e1, e2⟩ := hv.form
  have hbd := valid_bounds hvc
  obtain ⟨sp, hsp⟩ : ∃ sp : Nat, (sp : Int) = d.last - d.first + 1 := ⟨(d.last - d.first + 1).toNat, by omega⟩
  have hl1 := rLoL_len d l sp
  have hl2 := rHiL_len d l sp
  refine enter tabOk mixed Try.func25 rfl Try.ntmps25 Try.results25 [.a (dcS nm (.v (.slice A lb.length c)) d), .s 0 4 l.length c1, .v (.int .i64 t), .v (.bool up)] (fun _ => A1) [⟨0, false, 52, 4, c1, .rows Cl rC (l)⟩] 1 rfl rfl (.ro (hp0 _ _ _) _ rfl rfl rfl (ro_rows hv rfl _)) ?_
  ((conv=>whnf);repeat(refine And.intro (by omega) ?_;(conv=>whnf)))
  rcases newR_cases hvc hll hlv hsp with ⟨hok, hN⟩ | ⟨hno, hN⟩
  · refine EvCall.two (ty := 3) (xs := rLoL d l sp) (ys := rHiL d l sp) (envES d.first 0) (envES_den _ _) (envES_lt _ _) Try.call17 (fun ρ W hp => by
      have := new_s _ _ d l W (hD.below hp.bel) hI (hp.rowsIn (R := rC) (n := 0) (c := c1) rfl (by decide) e1 e2 4)
      rw [hN] at this
      exact this) (fun p1 p2 q1 q2 q3 q4 => ?_)
    ((conv=>whnf);repeat(refine And.intro (by omega) ?_;(conv=>whnf)))
    refine EvIf.neg rfl ?_
    ((conv=>whnf);repeat(refine And.intro (by omega) ?_;(conv=>whnf)))
    refine EvCall.plain Try.call27 (.t [.v (.int .i64 (atR ⟨d.first, rLoL d l sp, rHiL d l sp⟩ t).1), .v (.int .i64 (atR ⟨d.first, rLoL d l sp, rHiL d l sp⟩ t).2.1), .v (.int .i64 (atR ⟨d.first, rLoL d l sp, rHiL d l sp⟩ t).2.2)]) rfl (fun ρ W hp => at_s ⟨d.first, rLoL d l sp, rHiL d l sp⟩ _ _ _ _ _ _ t W (hp.rowsIn (R := rI) (n := 5) (c := p1) rfl (by decide) q1 q2 1) (hp.rowsIn (R := rI) (n := 6) (c := p2) rfl (by decide) q3 q4 1) ht0 (by show -1000000000 ≤ d.first ∧ d.first ≤ 1000000000; omega)) ?_
    by_cases hin : t < d.first ∨ d.last < t
    · have hat : atR ⟨d.first, rLoL d l sp, rHiL d l sp⟩ t = (0, 0, 9) := if_neg (by simp only; omega)
      have hr : whyR d l t up = (0, 9) := by rw [whyR, hN, if_neg (by simp), if_pos hin]
      rw [hat, hr]
      ((conv=>whnf);repeat(refine And.intro (by omega) ?_;(conv=>whnf)))
      refine EvIf.pos rfl ?_
      ((conv=>whnf);repeat(refine And.intro (by omega) ?_;(conv=>whnf)))
      exact EvRet.ret (fun _ => rfl)
    have hat : atR ⟨d.first, rLoL d l sp, rHiL d l sp⟩ t = (rLo d l t, rHi d l t, 0) := by
      rw [atR, if_pos (by simp only; omega)]
      simp only
      rw [(rL_get d l sp (t - d.first).toNat (by omega)).1, (rL_get d l sp (t - d.first).toNat (by omega)).2, show d.first + ((t - d.first).toNat : Int) = t by omega]
    have hr : whyR d l t up = ((whyI d l t up : Int) - 1, 0) := by rw [whyR, hN, if_neg (by simp), if_neg hin]
    rw [hat, hr]
    ((conv=>whnf);repeat(refine And.intro (by omega) ?_;(conv=>whnf)))
    refine EvIf.neg rfl ?_
    ((conv=>whnf);repeat(refine And.intro (by omega) ?_;(conv=>whnf)))
    refine EvCall.inline tabOk mixed Try.func71 rfl Try.ntmps71 Try.results71 Try.call71 rfl (fun ρ0 => ?_)
    ((conv=>whnf);repeat(refine And.intro (by omega) ?_;(conv=>whnf)))
    refine EvLoop.inv (α := Nat) (fun k => k ≤ l.length + 1 ∧ ∀ i, i < k → ¬ whyP d l t up i) (fun k => l.length + 1 - k) (fun k => [(7, [], .v (.int .i64 ((k : Int) - 1))), (0, [], .f 73 [.p 1 0, .p 3 0, .p 4 0, .p 9 0, .p 8 0]), (1, [], .p 2 0), (2, [], .p 1 0), (3, [], .p 3 0)])
      (fun k => [⟨9, true, 3, 1, 1, .cs [.v (.int .i64 (rHi d l t))]⟩, ⟨8, true, 3, 1, 1, .cs [.v (.int .i64 (rLo d l t))]⟩, ⟨4, true, 4, 1, 1, .cs [.v (.bool up)]⟩, ⟨3, true, 3, 1, 1, .cs [.v (.int .i64 t)]⟩, ⟨2, true, 29, 1, 1, .cs [.s 0 4 l.length c1]⟩, ⟨1, true, 27, 12, 1, .cs (dcS nm (.v (.slice A lb.length c)) d)⟩, ⟨0, false, 52, 4, c1, .rows Cl rC l⟩]) 10 0 ⟨by omega, fun i hi => by omega⟩ (Sub.of [] [] rfl ?_) ?_
    · ((repeat' (refine And.intro ?_ ?_)) <;> first | rfl | exact True.intro | omega)
    intro k ⟨hk, hk2⟩
    ((conv=>whnf);repeat(refine And.intro (by omega) ?_;(conv=>whnf)))
    refine EvIf.split (fun g3 => ?_) (fun g3 => ?_)
    · simp only [decide_eq_true_eq] at g3
      have hso := src_ok hvc hlv _ (mem_src.2 ⟨k, by omega, rfl⟩)
      unfold SrcOk at hso
      have h3 := impl_three (t := t) (up := up) (k := k) hvc hlv (by omega)
      ((conv=>whnf);repeat(refine And.intro (by omega) ?_;(conv=>whnf)))
      refine EvCall.plain Try.call72 (.a (clS ((srcL d l).getD k cl0))) rfl (fun ρ W hp => by
        have := source_s nm A lb.length c _ d l ((k : Int) - 1) W (hp.rowsIn (R := rC) (n := 0) (c := c1) rfl (by decide) e1 e2 4) (by omega) (by omega)
        rw [show ((k : Int) - 1 + 1).toNat = k by omega] at this
        exact this) ?_
      ((conv=>whnf);repeat(refine And.intro (by omega) ?_;(conv=>whnf)))
      refine
        EvCall.plain Try.call73 (.v (.bool (implB d t up (rHi d l t) (rLo d l t) ((srcL d l).getD k cl0) (((srcL d l).getD k cl0).f)))) rfl (fun  ρ W hp => impl_s nm A lb.length c _ _ _ _ _ d ((srcL d l).getD k cl0) (((srcL d l).getD k cl0).f) t (rHi d l t) (rLo d l t) up W (dcS_of hvc) (by omega) (by omega) (by omega) (by omega) (hp.ptr (n := 1) rfl (by simp [dcS])) (hp.ptr (n := 3) rfl (by simp)) (hp.ptr (n := 4) rfl (by simp)) (hp.ptr (n := 9) rfl (by simp)) (hp.ptr (n := 8) rfl (by simp))) ?_
      ((conv=>whnf);repeat(refine And.intro (by omega) ?_;(conv=>whnf)))
      refine
        EvCallC.plain Try.call73 (.v (.bool (implB d t up (rHi d l t) (rLo d l t) ((srcL d l).getD k cl0) (((srcL d l).getD k cl0).t)))) rfl (fun _ ρ W hp => impl_s nm A lb.length c _ _ _ _ _ d ((srcL d l).getD k cl0) (((srcL d l).getD k cl0).t) t (rHi d l t) (rLo d l t) up W (dcS_of hvc) (by omega) (by omega) (by omega) (by omega) (hp.ptr (n := 1) rfl (by simp [dcS])) (hp.ptr (n := 3) rfl (by simp)) (hp.ptr (n := 4) rfl (by simp)) (hp.ptr (n := 9) rfl (by simp)) (hp.ptr (n := 8) rfl (by simp))) ?_
      ((conv=>whnf);repeat(refine And.intro (by omega) ?_;(conv=>whnf)))
      refine
        EvCallC.plain Try.call73 (.v (.bool (implB d t up (rHi d l t) (rLo d l t) ((srcL d l).getD k cl0) (min (max t ((srcL d l).getD k cl0).f) ((srcL d l).getD k cl0).t)))) rfl (fun _ ρ W hp => impl_s nm A lb.length c _ _ _ _ _ d ((srcL d l).getD k cl0) (min (max t ((srcL d l).getD k cl0).f) ((srcL d l).getD k cl0).t) t (rHi d l t) (rLo d l t) up W (dcS_of hvc) (by omega) (by omega) (by omega) (by omega) (hp.ptr (n := 1) rfl (by simp [dcS])) (hp.ptr (n := 3) rfl (by simp)) (hp.ptr (n := 4) rfl (by simp)) (hp.ptr (n := 9) rfl (by simp)) (hp.ptr (n := 8) rfl (by simp))) ?_
      ((conv=>whnf);repeat(refine And.intro (by omega) ?_;(conv=>whnf)))
      refine EvIf.split (fun g4 => ?_) (fun g4 => ?_)
      · have hw := whyI_eq (d := d) (l := l) (t := t) (up := up) (k := k) ⟨by omega, h3.1 g4, hk2⟩
        ((conv=>whnf);repeat(refine And.intro (by omega) ?_;(conv=>whnf)))
        refine EvRet.back ?_
        ((conv=>whnf);repeat(refine And.intro (by omega) ?_;(conv=>whnf)))
        refine EvRet.ret (fun _ => ?_)
        rw [hw]
        rfl
      · ((conv=>whnf);repeat(refine And.intro (by omega) ?_;(conv=>whnf)))
        refine LoopI.back (k + 1) ⟨by omega, fun i hi => ?_⟩ (by omega) (Sub.of [] [] rfl ?_)
        · by_cases hik : i = k
          · rw [hik]; exact fun hh => by have := h3.2 hh; rw [g4] at this; cases this
          · exact hk2 i (by omega)
        · ((repeat' (refine And.intro ?_ ?_)) <;> first | rfl | exact True.intro | omega)
    · simp only [decide_eq_false_iff_not] at g3
      exfalso
      obtain ⟨i, hi, h4, _⟩ := why_ex d l t up
      exact hk2 i (by omega) h4
  · have hr : whyR d l t up = (0, 13) := by rw [whyR, hN, if_pos (by simp)]
    rw [hr]
    refine EvCall.two (ty := 3) (xs := []) (ys := []) (envES 0 13) (envES_den _ _) (envES_lt _ _) Try.call17 (fun ρ W hp => by
      have := new_s _ _ d l W (hD.below hp.bel) hI (hp.rowsIn (R := rC) (n := 0) (c := c1) rfl (by decide) e1 e2 4)
      rw [hN] at this
      exact this) (fun p1 p2 q1 q2 q3 q4 => ?_)
    ((conv=>whnf);repeat(refine And.intro (by omega) ?_;(conv=>whnf)))
    refine EvIf.pos rfl ?_
    ((conv=>whnf);repeat(refine And.intro (by omega) ?_;(conv=>whnf)))
    exact EvRet.ret (fun _ => rfl)
set_option maxRecDepth 20000 in
theorem ref_why_s (nm : ByteArray) (A : Option Addr) (ln c : Nat) (v : Value) (d : Dc) (l : List Cl) (t : Int) (up : Bool) (w : World) (hvc : validCode d = 0) (hlv : ∀ c ∈ l, validB d c = true) (hv : RowsIn rC w v l) (ht : 0 ≤ t ∧ t ≤ 1048576) :
    Con Try.prog 26 #[.agg (dcCells nm (.slice A ln c) d), v, .int .i64 t, .bool up] w (Ret w (.int .i64 ((whyI d l t up : Int) - 1))) := by
  obtain ⟨A1, c1, rfl, e1, e2⟩ := hv.form
  have hbd := valid_bounds hvc
  refine enter tabOk mixed Try.func26 rfl Try.ntmps26 Try.results26 [.a (dcS nm (.v (.slice A ln c)) d), .s 0 4 l.length c1, .v (.int .i64 t), .v (.bool up)] (fun _ => A1) [⟨0, false, 52, 4, c1, .rows Cl rC (l)⟩] 1 rfl rfl (.ro (hp0 _ _ _) _ rfl rfl rfl (ro_rows hv rfl _)) ?_
  ((conv=>whnf);repeat(refine And.intro (by omega) ?_;(conv=>whnf)))
  refine EvCall.plain Try.call67 (.t [.v (.int .i64 (rLo d l t)), .v (.int .i64 (rHi d l t))]) rfl (fun ρ W hp => bounds_s nm A ln c _ d l t W hvc (hp.rowsIn (R := rC) (n := 0) (c := c1) rfl (by decide) e1 e2 4) hlv ht) ?_
  ((conv=>whnf);repeat(refine And.intro (by omega) ?_;(conv=>whnf)))
  refine EvLoop.inv (α := Nat) (fun k => k ≤ l.length + 1 ∧ ∀ i, i < k → ¬ whyP d l t up i) (fun k => l.length + 1 - k) (fun k => [(11, [], .v (.int .i64 ((k : Int) - 1))), (1, [], .s 0 4 l.length c1), (2, [], .v (.int .i64 (t))), (3, [], .v (.bool (up))), (4, [], .p 1 0), (9, [], .v (.int .i64 (rLo d l t))), (10, [], .v (.int .i64 (rHi d l t)))])
    (fun k => [⟨1, true, 27, 12, 1, .cs (dcS nm (.v (.slice A ln c)) d)⟩, ⟨0, false, 52, 4, c1, .rows Cl rC l⟩]) 2 0 ⟨by omega, fun i hi => by omega⟩ (Sub.of [] [] rfl ?_) ?_
  · ((repeat' (refine And.intro ?_ ?_)) <;> first | rfl | exact True.intro | omega)
  intro k ⟨hk, hk2⟩
  ((conv=>whnf);repeat(refine And.intro (by omega) ?_;(conv=>whnf)))
  refine EvIf.split (fun g3 => ?_) (fun g3 => ?_)
  · simp only [decide_eq_true_eq] at g3
    have hso := srcT hvc (src_ok hvc hlv _ (mem_src.2 ⟨k, by omega, rfl⟩))
    ((conv=>whnf);repeat(refine And.intro (by omega) ?_;(conv=>whnf)))
    refine EvCall.plain Try.call74 (.a (clS ((srcL d l).getD k cl0))) rfl (fun ρ W hp => by
      have := ref_source_s nm A ln c _ d l ((k : Int) - 1) W (hp.rowsIn (R := rC) (n := 0) (c := c1) rfl (by decide) e1 e2 4) (by omega) (by omega)
      rw [show ((k : Int) - 1 + 1).toNat = k by omega] at this
      exact this) ?_
    ((conv=>whnf);repeat(refine And.intro (by omega) ?_;(conv=>whnf)))
    refine EvCallC.plain Try.call75 (.v (.int .i64 (greatV d ((srcL d l).getD k cl0) t))) rfl (fun _ ρ W hp => greatV_s nm A ln c d _ t W (dcS_of hvc) hso ht) ?_
    ((conv=>whnf);repeat(refine And.intro (by omega) ?_;(conv=>whnf)))
    refine EvCallC.plain Try.call76 (.v (.int .i64 (leastV d ((srcL d l).getD k cl0) t))) rfl (fun _ ρ W hp => leastV_s nm A ln c d _ t W (dcS_of hvc) hso ht) ?_
    ((conv=>whnf);repeat(refine And.intro (by omega) ?_;(conv=>whnf)))
    refine EvIf.split (fun g4 => ?_) (fun g4 => ?_)
    · have hw := whyI_eq (d := d) (l := l) (t := t) (up := up) (k := k) ⟨by omega, by cases up <;> simpa [whyP] using g4, hk2⟩
      ((conv=>whnf);repeat(refine And.intro (by omega) ?_;(conv=>whnf)))
      refine EvRet.ret (fun _ => ?_)
      rw [hw]
      rfl
    · ((conv=>whnf);repeat(refine And.intro (by omega) ?_;(conv=>whnf)))
      refine LoopI.back (k + 1) ⟨by omega, fun i hi => ?_⟩ (by omega) (Sub.of [] [] rfl ?_)
      · by_cases hik : i = k
        · rw [hik]
          cases up <;> simpa [whyP] using g4
        · exact hk2 i (by omega)
      · ((repeat' (refine And.intro ?_ ?_)) <;> first | rfl | exact True.intro | omega)
  · simp only [decide_eq_false_iff_not] at g3
    exfalso
    obtain ⟨i, hi, h4, _⟩ := why_ex d l t up
    exact hk2 i (by omega) h4
/-- The source alone implies the bound. -/
def oneL (d : Dc) (l : List Cl) (k : Nat) : List Cl := if k = 0 then [] else [l.getD (k - 1) cl0]
theorem one_sub {d : Dc} {l : List Cl} {k : Nat} (hk : k < l.length + 1) : ∀ c ∈ oneL d l k, c ∈ l := by
  intro c hc
  unfold oneL at hc
  split at hc
  · cases hc
  · rw [List.mem_singleton.1 hc, List.getD_eq_getElem?_getD, List.getElem?_eq_getElem (by omega)]
    exact List.getElem_mem _
theorem one_law {d : Dc} {l : List Cl} {t : Int} {up : Bool} {n : Nat} (hv : validCode d = 0) (hl : ∀ c ∈ l, validB d c = true) (hn : (n : Int) = d.last - d.first + 1) (hok : ∀ i : Nat, i < n → rLo d l (d.first + i) ≤ rHi d l (d.first + i)) :
    newR d (oneL d l (whyI d l t up)) = (⟨d.first, rLoL d (oneL d l (whyI d l t up)) n, rHiL d (oneL d l (whyI d l t up)) n⟩, 0) ∧
    (up = true → rHi d (oneL d l (whyI d l t up)) t = rHi d l t) ∧ (up = false → rLo d (oneL d l (whyI d l t up)) t = rLo d l t) := by
  obtain ⟨hk, hw, _⟩ := whyI_is d l t up
  generalize whyI d l t up = k at hk hw
  have hsub := one_sub (d := d) hk
  have hlen : (oneL d l k).length ≤ 4096 := by unfold oneL; split <;> simp
  have hsrc : (srcL d l).getD k cl0 ∈ srcL d (oneL d l k) := by
    unfold oneL srcL
    by_cases h0 : k = 0
    · subst h0; simp
    · obtain ⟨j, rfl⟩ : ∃ j, k = j + 1 := ⟨k - 1, by omega⟩
      rw [if_neg h0]
      simp
  refine ⟨?_, fun hu => ?_, fun hu => ?_⟩
  · rcases newR_cases hv hlen (fun c hc => hl c (hsub c hc)) hn with ⟨_, h⟩ | ⟨h, _⟩
    · exact h
    · exact absurd (fun i hi => by
        have a1 := rLo_mono hsub (d := d) (d.first + (i : Int))
        have a2 := rHi_mono hsub (d := d) (d.first + (i : Int))
        have := hok i hi
        omega) h
  · subst hu
    simp only [whyP, if_true] at hw
    have a1 := rHi_mono hsub (d := d) t
    have a2 := rHi_ge.1 (Int.le_refl (rHi d (oneL d l k) t)) _ hsrc
    omega
  · subst hu
    simp only [whyP, Bool.false_eq_true, if_false] at hw
    have a1 := rLo_mono hsub (d := d) t
    have a2 := rLo_le.1 (Int.le_refl (rLo d (oneL d l k) t)) _ hsrc
    omega
end Go.Proofs.Ytnoenmacakbhdaa
