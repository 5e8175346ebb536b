
/- Envelopes: Clash, walked. -/
import Derived.Test.YtnoenmacakbhdaaEg
namespace Go.Proofs.Ytnoenmacakbhdaa
open Go.RowKit
set_option linter.unusedVariables false
set_option linter.unusedSimpArgs false

set_option maxRecDepth 10000 in
theorem alone_s (nm : ByteArray) (A : Option Addr) (ln c : Nat) (B1 B2 : Addr) (A1 : Option Addr) (c1 : Nat) (d : Dc) (l : List Cl) (k sp : Nat) (w : World) (hvc : validCode d = 0) (hl : ∀ c ∈ l, validB d c = true) (hll0 : l.length ≤ 4096) (hsp : d.last - d.first + 1 = (sp : Int)) (hk : k < l.length + 1)
    (h1 : PtrIn w (.pointer (some B1)) (denL (fun _ => none) (dcS nm (.v (.slice A ln c)) d))) (h2 : PtrIn w (.pointer (some B2)) [.slice A1 l.length c1]) (hv : RowsIn rC w (.slice A1 l.length c1) l) :
    Con Try.prog 98 #[.int .i64 ((k : Int) - 1), .pointer (some B1), .pointer (some B2)] w (Ret2 3 w (bLoL d (partS d l k (k + 1)) sp) (bHiL d (partS d l k (k + 1)) sp) (envV d.first)) := by
  have h1' : PtrIn w (.pointer (some B1)) (denL (fun n => if n = 0 then some B1 else some B2) (dcS nm (.v (.slice A ln c)) d)) := h1
  have h2' : PtrIn w (.pointer (some B2)) (denL (fun n => if n = 0 then some B1 else some B2) [.v (.slice A1 l.length c1)]) := h2
  refine enter tabOk mixed Try.func98 rfl Try.ntmps98 Try.results98 [.v (.int .i64 ((k : Int) - 1)), .p 0 0, .p 1 0] (fun n => if n = 0 then some B1 else some B2) [⟨1, false, 29, 1, 1, .cs [.v (.slice A1 l.length c1)]⟩, ⟨0, false, 27, 12, 1, .cs (dcS nm (.v (.slice A ln c)) d)⟩] 2 rfl rfl (.ro (.ro (hp0 _ _ _) _ rfl rfl rfl (ro_ptr h1' rfl)) _ rfl rfl rfl (ro_ptr h2' rfl)) ?_
  ((conv=>whnf);repeat(refine And.intro (by omega) ?_;(conv=>whnf)))
  refine EvCall.two (ty := 3) (xs := bLoL d (partS d l k (k + 1)) sp) (ys := bHiL d (partS d l k (k + 1)) sp) (envS d.first) (envS_den d.first) (envS_lt d.first) Try.call62 (fun ρ W hp => by
    have := ebound_s nm A ln c (.slice A1 l.length c1) d l k (k + 1) sp W hvc (hv.below hp.bel) hl (by omega) (by omega) hll0 hsp
    rw [show (((k + 1 : Nat) : Int) - 2) = (k : Int) - 1 by omega] at this
    exact this) (fun p1 p2 q1 q2 q3 q4 => ?_)
  ((conv=>whnf);repeat(refine And.intro (by omega) ?_;(conv=>whnf)))
  exact EvRet.two (n := 3) (m := 4) (fun ρ => by simp [den, denL, envV]) rfl rfl q1 q3 rfl rfl (by decide)
set_option maxRecDepth 20000 in
theorem clash_s (V v : Value) (d : Dc) (l : List Cl) (w : World) (h : DeclIs w V d) (hI : DcI d) (hv : RowsIn rC w v l) :
    Con Try.prog 64 #[V, v] w (Ret w (.tuple #[.int .i64 (clashV d l).1, .int .i64 (clashV d l).2.1, .bool (clashV d l).2.2])) := by
  have hD := h
  obtain ⟨nm, A, c, lb, rfl, hnm, hl, hS⟩ := h
  obtain ⟨A1, c1, rfl, e1, e2⟩ := hv.form
  refine enter tabOk mixed Try.func64 rfl Try.ntmps64 Try.results64 [.a (dcS nm (.v (.slice A lb.length c)) d), .s 0 4 l.length c1] (fun _ => A1) [⟨0, false, 52, 4, c1, .rows Cl rC (l)⟩] 1 rfl rfl (.ro (hp0 _ _ _) _ rfl rfl rfl (ro_rows hv rfl _)) ?_
  ((conv=>whnf);repeat(refine And.intro (by omega) ?_;(conv=>whnf)))
  refine EvCall.rowsE (R := rC) (ty := 52) (xs := (bandsR d l).1) (z := (bandsR d l).2) Try.call61 (fun ρ W hp => bands_s _ _ d l W (hD.below hp.bel) hI (hp.rowsIn (R := rC) (n := 0) rfl (by decide) e1 e2 4)) (fun cap hc1 hc2 => ?_)
  ((conv=>whnf);repeat(refine And.intro (by omega) ?_;(conv=>whnf)))
  refine EvIf.split (fun g1 => ?_) (fun g1 => ?_)
  · simp only [Bool.and_eq_true, Bool.not_eq_true', decide_eq_false_iff_not] at g1
    have hck := bands_err.1 g1
    ((conv=>whnf);repeat(refine And.intro (by omega) ?_;(conv=>whnf)))
    refine EvRet.ret (fun _ => ?_)
    rw [clashV, if_pos hck]
    rfl
  have hck : checkR d l = 0 := Classical.byContradiction fun hh => by
    have := bands_err.2 hh
    simp [this.1, this.2] at g1
  have hV : clashV d l = clashR d l := by rw [clashV, if_neg (by simpa using hck)]
  rw [hV]
  obtain ⟨hvc, hll, hlv⟩ := check_ok hck
  have hbd := valid_bounds hvc
  have hok := src_ok hvc hlv
  obtain ⟨sp, hsp⟩ : ∃ sp : Nat, d.last - d.first + 1 = (sp : Int) := ⟨(d.last - d.first + 1).toNat, by omega⟩
  have hct := fun p q hp hq => cross_two (p := p) (q := q) hvc hp hq hsp.symm
  have hcr := cross_iff (p := srcL d l) (q := srcL d l) hvc hok hok hsp.symm
  have hl1 : ∀ p, (bLoL d p sp).length = sp := fun p => bLoL_len d p sp
  have hl2 : ∀ p, (bHiL d p sp).length = sp := fun p => bHiL_len d p sp
  have hone : ∀ k, k < l.length + 1 → ∀ c ∈ partS d l k (k + 1), SrcOk d c := fun k hk c hc => partS_ok hok c hc
  have hA : ∀ k, k < l.length + 1 → ((crossB (bLoL d (srcL d l) sp) (bHiL d (partS d l k (k + 1)) sp) || crossB (bLoL d (partS d l k (k + 1)) sp) (bHiL d (srcL d l) sp)) = true ↔ ∃ j, j < l.length + 1 ∧ CtrI d l k j) := by
    intro k hk
    rw [hct _ _ hok (hone k hk), partS_one d l k hk]
    constructor
    · rintro ⟨a, ha, b, hb, h⟩
      obtain ⟨j, hj, rfl⟩ := mem_src.1 ha
      simp at hb
      subst hb
      exact ⟨j, hj, ctr_symm h⟩
    · rintro ⟨j, hj, h⟩
      exact ⟨_, mem_src.2 ⟨j, hj, rfl⟩, _, List.mem_singleton_self _, ctr_symm h⟩
  have hB : ∀ i k, i < l.length + 1 → k < l.length + 1 → ((crossB (bLoL d (partS d l i (i + 1)) sp) (bHiL d (partS d l k (k + 1)) sp) || crossB (bLoL d (partS d l k (k + 1)) sp) (bHiL d (partS d l i (i + 1)) sp)) = true ↔ CtrI d l i k) := by
    intro i k hi hk
    rw [hct _ _ (hone i hi) (hone k hk), partS_one d l k hk, partS_one d l i hi]
    simp [CtrI]
  ((conv=>whnf);repeat(refine And.intro (by omega) ?_;(conv=>whnf)))
  refine EvCall.two (ty := 3) (xs := bLoL d (srcL d l) sp) (ys := bHiL d (srcL d l) sp) (envS d.first) (envS_den d.first) (envS_lt d.first) Try.call62 (fun ρ W hp => by
    have := ebound_s nm A lb.length c (den ρ (.s 0 4 l.length c1)) d l 0 (l.length + 1) sp W hvc (hp.rowsIn (R := rC) (n := 0) rfl (by decide) e1 e2 4) hlv (by omega) (by omega) hll hsp
    rw [partS_all, show (((l.length + 1 : Nat) : Int) - 2) = (l.length : Int) - 1 by omega] at this
    exact this) (fun p1 p2 q1 q2 q3 q4 => ?_)
  ((conv=>whnf);repeat(refine And.intro (by omega) ?_;(conv=>whnf)))
  refine EvCall.plain Try.call63 (.v (.bool (crossB (bLoL d (srcL d l) sp) (bHiL d (srcL d l) sp)))) rfl (fun ρ W hp => crossed_s d.first d.first _ _ _ _ _ _ _ _ _ _ _ _ _ _ W (hp.rowsIn (R := rI) (n := 4) rfl (by decide) q1 q2 1) (hp.rowsIn (R := rI) (n := 5) rfl (by decide) q3 q4 1) (by rw [hl1, hl2]; omega)) ?_
  ((conv=>whnf);repeat(refine And.intro (by omega) ?_;(conv=>whnf)))
  refine EvIf.split (fun g2 => ?_) (fun g2 => ?_)
  · simp only [Bool.not_eq_true'] at g2
    have hno : ∀ i, i < l.length + 1 → ∀ j, j < l.length + 1 → ¬ CtrI d l i j := by
      rintro i hi j hj ⟨t, h1, h2, h3 | h3⟩
      · have := hcr.2 ⟨(t - d.first).toNat, by omega, _, mem_src.2 ⟨i, hi, rfl⟩, _, mem_src.2 ⟨j, hj, rfl⟩, by rw [show d.first + ((t - d.first).toNat : Int) = t by omega]; exact h3⟩
        rw [g2] at this
        cases this
      · have := hcr.2 ⟨(t - d.first).toNat, by omega, _, mem_src.2 ⟨j, hj, rfl⟩, _, mem_src.2 ⟨i, hi, rfl⟩, by rw [show d.first + ((t - d.first).toNat : Int) = t by omega]; exact h3⟩
        rw [g2] at this
        cases this
    ((conv=>whnf);repeat(refine And.intro (by omega) ?_;(conv=>whnf)))
    refine EvRet.ret (fun _ => ?_)
    rw [clashR_none hno]
    rfl
  simp only [Bool.not_eq_false'] at g2
  have hyes : ∃ i, i < l.length + 1 ∧ ∃ j, j < l.length + 1 ∧ CtrI d l i j := by
    obtain ⟨i, hi, a, ha, b, hb, h⟩ := hcr.1 g2
    obtain ⟨x, hx, rfl⟩ := mem_src.1 ha
    obtain ⟨y, hy, rfl⟩ := mem_src.1 hb
    exact ⟨x, hx, y, hy, d.first + i, by omega, by omega, .inl h⟩
  ((conv=>whnf);repeat(refine And.intro (by omega) ?_;(conv=>whnf)))
  (refine EvDraw.one (.q 0 (.q 1 (.q 2 (.q 3 (.n 4 true (.q 5 (.q 6 (.q 7 (.q 8 (.q 9 (.q 11 (.q 12 (.n 10 false (.n 13 true (.q 14 (.q 15 (.z))) (.e)) (.e))))))))) (.e)))))) (by kernel_rfl) ?_)
  ((conv=>whnf);repeat(refine And.intro (by omega) ?_;(conv=>whnf)))
  refine EvCall.inline tabOk mixed Try.func97 rfl Try.ntmps97 Try.results97 Try.call97 rfl (fun ρ0 => ?_)
  ((conv=>whnf);repeat(refine And.intro (by omega) ?_;(conv=>whnf)))
  refine EvLoop.inv (α := Nat) (fun k => k ≤ l.length + 1 ∧ ∀ i, i < k → ∀ j, j < l.length + 1 → ¬ CtrI d l i j) (fun k => l.length + 1 - k) (fun k => [(10, [], .v (.int .i64 ((k : Int) - 1))), (6, [], .p 9 0), (4, [], .p 2 0), (2, [], .f 98 [.p 1 0, .p 2 0]), (3, [], .f 99 [.p 7 0])])
    (fun k => [⟨9, true, 32, 3, 1, .cs [.v (.int .i64 d.first), .s 4 1 (bLoL d (srcL d l) sp).length p1, .s 5 1 (bHiL d (srcL d l) sp).length p2]⟩, ⟨8, true, 3, 1, 1, .cs [.v (.int .i64 0)]⟩, ⟨7, true, 3, 1, 1, .cs [.v (.int .i64 0)]⟩, ⟨5, true, 3, 1, p2, .rows Int rI (bHiL d (srcL d l) sp)⟩, ⟨4, true, 3, 1, p1, .rows Int rI (bLoL d (srcL d l) sp)⟩, ⟨2, true, 29, 1, 1, .cs [.s 0 4 l.length c1]⟩, ⟨1, true, 27, 12, 1, .cs (dcS nm (.v (.slice A lb.length c)) d)⟩, ⟨0, false, 52, 4, c1, .rows Cl rC l⟩]) 10 0 ⟨by omega, fun i hi => by omega⟩ (Sub.of [] [] rfl ?_) ?_
  · ((repeat' (refine And.intro ?_ ?_)) <;> first | rfl | exact True.intro | omega)
  intro k ⟨hk, hk2⟩
  ((conv=>whnf);repeat(refine And.intro (by omega) ?_;(conv=>whnf)))
  refine EvIf.split (fun g3 => ?_) (fun g3 => ?_)
  · simp only [decide_eq_true_eq] at g3
    ((conv=>whnf);repeat(refine And.intro (by omega) ?_;(conv=>whnf)))
    refine
      (EvCall.two (ty := 3) (xs := bLoL d (partS d l k (k + 1)) sp) (ys := bHiL d (partS d l k (k + 1)) sp) (envS d.first) (envS_den d.first) (envS_lt d.first) Try.call98 (fun ρ W hp => alone_s nm A lb.length c _ _ (ρ 0) c1 d l k sp W hvc hlv hll hsp (by omega) (hp.ptr (n := 1) rfl (by simp [dcS])) (hp.ptr (n := 2) rfl (by simp)) (hp.rowsIn (R := rC) (n := 0) rfl (by decide) e1 e2 4)) (fun s1 s2 r1 r2 r3 r4 => ?_))
    ((conv=>whnf);repeat(refine And.intro (by omega) ?_;(conv=>whnf)))
    refine EvCall.plain Try.call63 (.v (.bool (crossB (bLoL d (srcL d l) sp) (bHiL d (partS d l k (k + 1)) sp)))) rfl (fun ρ W hp => crossed_s d.first d.first _ _ _ _ _ _ _ _ _ _ _ _ _ _ W (hp.rowsIn (R := rI) (n := 4) rfl (by decide) q1 q2 1) (hp.rowsIn (R := rI) (n := 11) rfl (by decide) r3 r4 1) (by rw [hl1, hl2]; omega)) ?_
    ((conv=>whnf);repeat(refine And.intro (by omega) ?_;(conv=>whnf)))
    refine EvCallC.plain Try.call63 (.v (.bool (crossB (bLoL d (partS d l k (k + 1)) sp) (bHiL d (srcL d l) sp)))) rfl (fun _ ρ W hp => crossed_s d.first d.first _ _ _ _ _ _ _ _ _ _ _ _ _ _ W (hp.rowsIn (R := rI) (n := 10) rfl (by decide) r1 r2 1) (hp.rowsIn (R := rI) (n := 5) rfl (by decide) q3 q4 1) (by rw [hl1, hl2]; omega)) ?_
    ((conv=>whnf);repeat(refine And.intro (by omega) ?_;(conv=>whnf)))
    by_cases hcc : (crossB (bLoL d (srcL d l) sp) (bHiL d (partS d l k (k + 1)) sp) || crossB (bLoL d (partS d l k (k + 1)) sp) (bHiL d (srcL d l) sp)) = true
    · obtain ⟨j0, hj0, hj1⟩ := (hA k (by omega)).1 hcc
      refine EvCallC.on hcc ?_
      refine EvCall.inline tabOk mixed Try.func99 rfl Try.ntmps99 Try.results99 Try.call99 rfl (fun ρ0 => ?_)
      ((conv=>whnf);repeat(refine And.intro (by omega) ?_;(conv=>whnf)))
      refine EvRet.back ?_
      ((conv=>whnf);repeat(refine And.intro (by omega) ?_;(conv=>whnf)))
      refine EvIf.pos (by rw [hcc]; rfl) ?_
      ((conv=>whnf);repeat(refine And.intro (by omega) ?_;(conv=>whnf)))
      refine EvRet.back ?_
      ((conv=>whnf);repeat(refine And.intro (by omega) ?_;(conv=>whnf)))
      refine EvCallC.on rfl
        (EvCall.two (ty := 3) (xs := bLoL d (partS d l k (k + 1)) sp) (ys := bHiL d (partS d l k (k + 1)) sp) (envS d.first) (envS_den d.first) (envS_lt d.first) Try.call98 (fun ρ W hp => alone_s nm A lb.length c _ _ (ρ 0) c1 d l k sp W hvc hlv hll hsp (by omega) (hp.ptr (n := 1) rfl (by simp [dcS])) (hp.ptr (n := 2) rfl (by simp)) (hp.rowsIn (R := rC) (n := 0) rfl (by decide) e1 e2 4)) (fun u1 u2 r1 r2 r3 r4 => ?_))
      ((conv=>whnf);repeat(refine And.intro (by omega) ?_;(conv=>whnf)))
      refine EvCallC.on rfl ?_
      refine EvCall.inline tabOk mixed Try.func97 rfl Try.ntmps97 Try.results97 Try.call97 rfl (fun ρ0 => ?_)
      ((conv=>whnf);repeat(refine And.intro (by omega) ?_;(conv=>whnf)))
      refine EvLoop.inv (α := Nat) (fun m => k ≤ m ∧ m ≤ l.length + 1 ∧ ∀ k', k ≤ k' → k' < m → ¬ CtrI d l k k') (fun m => l.length + 1 - m) (fun m => [(10, [], .v (.int .i64 ((m : Int) - 1))), (6, [], .p 15 0), (4, [], .p 2 0), (2, [], .f 98 [.p 1 0, .p 2 0]), (3, [], .f 100 [.p 8 0])])
        (fun m => [⟨15, true, 32, 3, 1, .cs [.v (.int .i64 d.first), .s 13 1 (bLoL d (partS d l k (k + 1)) sp).length u1, .s 14 1 (bHiL d (partS d l k (k + 1)) sp).length u2]⟩, ⟨14, true, 3, 1, u2, .rows Int rI (bHiL d (partS d l k (k + 1)) sp)⟩, ⟨13, true, 3, 1, u1, .rows Int rI (bLoL d (partS d l k (k + 1)) sp)⟩, ⟨8, true, 3, 1, 1, .cs [.v (.int .i64 0)]⟩, ⟨7, true, 3, 1, 1, .cs [.v (.int .i64 ((k : Int) - 1))]⟩, ⟨2, true, 29, 1, 1, .cs [.s 0 4 l.length c1]⟩, ⟨1, true, 27, 12, 1, .cs (dcS nm (.v (.slice A lb.length c)) d)⟩, ⟨0, false, 52, 4, c1, .rows Cl rC l⟩]) 16 k ⟨Nat.le_refl _, by omega, fun k' h1 h2 => by omega⟩ (Sub.of [] [] rfl ?_) ?_
      · ((repeat' (refine And.intro ?_ ?_)) <;> first | rfl | exact True.intro | omega)
      have t1 := r1
      have t2 := r2
      have t3 := r3
      have t4 := r4
      clear r1 r2 r3 r4
      intro m ⟨hm1, hm2, hm3⟩
      ((conv=>whnf);repeat(refine And.intro (by omega) ?_;(conv=>whnf)))
      refine EvIf.split (fun g4 => ?_) (fun g4 => ?_)
      · simp only [decide_eq_true_eq] at g4
        ((conv=>whnf);repeat(refine And.intro (by omega) ?_;(conv=>whnf)))
        refine
          (EvCall.two (ty := 3) (xs := bLoL d (partS d l m (m + 1)) sp) (ys := bHiL d (partS d l m (m + 1)) sp) (envS d.first) (envS_den d.first) (envS_lt d.first) Try.call98 (fun ρ W hp => alone_s nm A lb.length c _ _ (ρ 0) c1 d l m sp W hvc hlv hll hsp (by omega) (hp.ptr (n := 1) rfl (by simp [dcS])) (hp.ptr (n := 2) rfl (by simp)) (hp.rowsIn (R := rC) (n := 0) rfl (by decide) e1 e2 4)) (fun z1 z2 r1 r2 r3 r4 => ?_))
        ((conv=>whnf);repeat(refine And.intro (by omega) ?_;(conv=>whnf)))
        refine EvCall.plain Try.call63 (.v (.bool (crossB (bLoL d (partS d l k (k + 1)) sp) (bHiL d (partS d l m (m + 1)) sp)))) rfl (fun ρ W hp => crossed_s d.first d.first _ _ _ _ _ _ _ _ _ _ _ _ _ _ W (hp.rowsIn (R := rI) (n := 13) rfl (by decide) t1 t2 1) (hp.rowsIn (R := rI) (n := 17) rfl (by decide) r3 r4 1) (by rw [hl1, hl2]; omega)) ?_
        ((conv=>whnf);repeat(refine And.intro (by omega) ?_;(conv=>whnf)))
        refine EvCallC.plain Try.call63 (.v (.bool (crossB (bLoL d (partS d l m (m + 1)) sp) (bHiL d (partS d l k (k + 1)) sp)))) rfl (fun _ ρ W hp => crossed_s d.first d.first _ _ _ _ _ _ _ _ _ _ _ _ _ _ W (hp.rowsIn (R := rI) (n := 16) rfl (by decide) r1 r2 1) (hp.rowsIn (R := rI) (n := 14) rfl (by decide) t3 t4 1) (by rw [hl1, hl2]; omega)) ?_
        ((conv=>whnf);repeat(refine And.intro (by omega) ?_;(conv=>whnf)))
        by_cases hcd : (crossB (bLoL d (partS d l k (k + 1)) sp) (bHiL d (partS d l m (m + 1)) sp) || crossB (bLoL d (partS d l m (m + 1)) sp) (bHiL d (partS d l k (k + 1)) sp)) = true
        · have hres := clashR_some (d := d) (l := l) (i := k) (k := m) ⟨hm1, by omega, (hB k m (by omega) (by omega)).1 hcd, hm3, hk2⟩
          refine EvCallC.on hcd ?_
          refine EvCall.inline tabOk mixed Try.func100 rfl Try.ntmps100 Try.results100 Try.call100 rfl (fun ρ0 => ?_)
          ((conv=>whnf);repeat(refine And.intro (by omega) ?_;(conv=>whnf)))
          refine EvRet.back ?_
          ((conv=>whnf);repeat(refine And.intro (by omega) ?_;(conv=>whnf)))
          refine EvIf.pos (by rw [hcd]; rfl) ?_
          ((conv=>whnf);repeat(refine And.intro (by omega) ?_;(conv=>whnf)))
          refine EvRet.back ?_
          ((conv=>whnf);repeat(refine And.intro (by omega) ?_;(conv=>whnf)))
          refine EvIf.neg rfl ?_
          ((conv=>whnf);repeat(refine And.intro (by omega) ?_;(conv=>whnf)))
          (refine EvDraw.one (.q 0 (.q 1 (.q 2 (.q 3 (.q 4 (.z)))))) (by kernel_rfl) ?_)
          ((conv=>whnf);repeat(refine And.intro (by omega) ?_;(conv=>whnf)))
          refine EvRet.ret (fun _ => ?_)
          rw [hres]
          rfl
        · refine EvCallC.off Try.call100 hcd (.v (.bool false)) rfl ?_
          ((conv=>whnf);repeat(refine And.intro (by omega) ?_;(conv=>whnf)))
          refine EvIf.neg (by simp) ?_
          ((conv=>whnf);repeat(refine And.intro (by omega) ?_;(conv=>whnf)))
          refine LoopI.back (m + 1) ⟨by omega, by omega, fun k' h1 h2 => ?_⟩ (by omega) (Sub.of [] [] rfl ?_)
          · by_cases hkm : k' = m
            · rw [hkm]; exact fun hh => hcd ((hB k m (by omega) (by omega)).2 hh)
            · exact hm3 k' h1 (by omega)
          · ((repeat' (refine And.intro ?_ ?_)) <;> first | rfl | exact True.intro | omega)
      · simp only [decide_eq_false_iff_not] at g4
        exfalso
        rcases Nat.lt_or_ge j0 k with h | h
        · exact hk2 j0 h k (by omega) (ctr_symm hj1)
        · exact hm3 j0 h (by omega) hj1
    · refine EvCallC.off Try.call99 hcc (.v (.bool false)) rfl ?_
      ((conv=>whnf);repeat(refine And.intro (by omega) ?_;(conv=>whnf)))
      refine EvIf.neg (by simp) ?_
      ((conv=>whnf);repeat(refine And.intro (by omega) ?_;(conv=>whnf)))
      refine LoopI.back (k + 1) ⟨by omega, fun i hi j hj => ?_⟩ (by omega) (Sub.of [] [] rfl ?_)
      · by_cases hik : i = k
        · rw [hik]; exact fun hh => hcc ((hA k (by omega)).2 ⟨j, hj, hh⟩)
        · exact hk2 i (by omega) j hj
      · ((repeat' (refine And.intro ?_ ?_)) <;> first | rfl | exact True.intro | omega)
  · simp only [decide_eq_false_iff_not] at g3
    exfalso
    obtain ⟨i, hi, j, hj, hij⟩ := hyes
    exact hk2 i (by omega) j hj hij
end Go.Proofs.Ytnoenmacakbhdaa
