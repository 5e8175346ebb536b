
/- The reference's Change; Change with the zero declaration; the law EnvelopeChange, walked. -/
import Derived.Test.YtnoenmacakbhdaaGp
import Derived.Test.YtnoenmacakbhdaaEm
namespace Go.Proofs.Ytnoenmacakbhdaa
open Go.RowKit
set_option linter.unusedVariables false
set_option linter.unusedSimpArgs false

set_option maxRecDepth 10000 in
theorem ref_change_s (nm : ByteArray) (A : Option Addr) (ln c : Nat) (d : Dc) (e : Env12) (A1 A2 : Option Addr) (n1 n2 c1 c2 : Nat) (s t : Int) (w : World) (hd : DcS d) (h1 : RowsIn rI w (.slice A1 n1 c1) e.lo) (h2 : RowsIn rI w (.slice A2 n2 c2) e.hi) (hs : 0 ≤ s ∧ s ≤ 1048576) (ht : 0 ≤ t ∧ t ≤ 1048576) (hf : 0 ≤ e.f ∧ e.f ≤ 1048576) (his : inE e s) (hit : inE e t)
    (hb : ∀ i, (-1099511627776 ≤ e.lo.getD i 0 ∧ e.lo.getD i 0 ≤ 1099511627776) ∧ -1099511627776 ≤ e.hi.getD i 0 ∧ e.hi.getD i 0 ≤ 1099511627776) :
    Con Try.prog 22 #[.agg (dcCells nm (.slice A ln c) d), envV e.f (.slice A1 n1 c1) (.slice A2 n2 c2), .int .i64 s, .int .i64 t] w (Ret w (.tuple #[.int .i64 (chLo d e s t), .int .i64 (chHi d e s t)])) := by
  obtain ⟨_, _, ee, e1, e2⟩ := h1.form
  simp at ee
  obtain ⟨rfl, rfl, rfl⟩ := ee
  obtain ⟨_, _, ee, e3, e4⟩ := h2.form
  simp at ee
  obtain ⟨rfl, rfl, rfl⟩ := ee
  unfold inE at his hit
  have b1 := hb (s - e.f).toNat
  have b2 := hb (t - e.f).toNat
  refine enter tabOk mixed Try.func22 rfl Try.ntmps22 Try.results22 [.a (dcS nm (.v (.slice A ln c)) d), .a [.v (.int .i64 e.f), .s 0 1 e.lo.length c1, .s 1 1 e.hi.length c2], .v (.int .i64 s), .v (.int .i64 t)] (fun n => if n = 0 then A1 else A2) [⟨1, false, 3, 1, c2, .rows Int rI (e.hi)⟩, ⟨0, false, 3, 1, c1, .rows Int rI (e.lo)⟩] 2 rfl rfl (.ro (.ro (hp0 _ _ _) _ rfl rfl rfl (ro_rows h1 rfl _)) _ rfl rfl rfl (ro_rows h2 rfl _)) ?_
  ((conv=>whnf);repeat(refine And.intro (by omega) ?_;(conv=>whnf)))
  (refine EvDraw.one (.q 0 (.q 1 (.q 2 (.q 4 (.q 5 (.q 6 (.q 7 (.q 8 (.q 9 (.q 10 (.q 11 (.q 12 (.q 13 (.q 14 (.q 16 (.q 17 (.q 18 (.q 20 (.q 21 (.q 22 (.q 23 (.q 24 (.q 25 (.q 26 (.q 27 (.q 28 (.q 29 (.q 30 (.n 3 false (.q 15 (.n 19 false (.q 31 (.q 32 (.q 33 (.z)))) (.e))) (.e)))))))))))))))))))))))))))))) (by kernel_rfl) ?_)
  ((conv=>whnf);(repeat(refine And.intro ?_ ?_;(focus((first|omega|exact⟨rfl,True.intro⟩|exact⟨rfl,rfl,True.intro⟩|rfl|(simp only[List.length_set];first|omega|(refine⟨?_,?_⟩<;>omega)|(refine⟨?_,?_,?_⟩<;>omega))|(intro hg;(try simp only[bB]at hg);first|omega|(refine⟨?_,?_⟩<;>omega)|(refine⟨?_,?_,?_⟩<;>first|omega|(show _<_;(try simp only[List.length_set]);omega)|exact leT rfl))|(refine⟨?_,?_⟩<;>omega)|(refine⟨?_,?_,?_⟩<;>first|omega|(show _<_;(try simp only[List.length_set]);omega)|exact leT rfl)|(simp only[show rI.d=(0:Int)from rfl];omega));done));(conv=>whnf))))
  refine EvCall.plain Try.call68 (.v (.int .i64 (lowV d s t 0))) rfl (fun ρ W hp => low_s nm A ln c d s t 0 W hd hs ht (by omega)) ?_
  ((conv=>whnf);repeat(refine And.intro (by omega) ?_;(conv=>whnf)))
  refine EvCall.plain Try.call69 (.v (.int .i64 (highV d s t 0))) rfl (fun ρ W hp => high_s nm A ln c d s t 0 W hd hs ht (by omega)) ?_
  ((conv=>whnf);repeat(refine And.intro (by omega) ?_;(conv=>whnf)))
  exact EvRet.ret (fun _ => rfl)
def dZ : Dc := ⟨0, 0, 0, 0, 0, 0, 0, 0, 0, 0⟩
set_option maxRecDepth 10000 in
theorem decl_valid0_s (w : World) : Con Try.prog 36 #[.agg (dcCells ByteArray.empty (.slice none 0 0) dZ)] w (Ret w (.int .i64 8)) := by
  refine enter tabOk mixed Try.func36 rfl Try.ntmps36 Try.results36 [.a (dcS ByteArray.empty (.v (.slice none 0 0)) dZ)] (fun _ => none) [] 0 rfl rfl (hp0 _ _ _) ?_
  ((conv=>whnf);repeat(refine And.intro (by omega) ?_;(conv=>whnf)))
  refine EvCall.plain Try.call81 (.v (.bool false)) rfl (fun ρ W hp => ⟨by have := name_any ByteArray.empty W (by decide); rw [show nameB ByteArray.empty = false by decide +kernel] at this; exact this⟩) ?_
  ((conv=>whnf);repeat(refine And.intro (by omega) ?_;(conv=>whnf)))
  refine EvCallC.off Try.call82 (by simp) (.v (.bool false)) rfl ?_
  ((conv=>whnf);repeat(refine And.intro (by omega) ?_;(conv=>whnf)))
  refine EvIf.pos rfl ?_
  ((conv=>whnf);repeat(refine And.intro (by omega) ?_;(conv=>whnf)))
  exact EvRet.ret (fun _ => rfl)
set_option maxRecDepth 10000 in
theorem change0_s (f : Int) (A1 A2 : Option Addr) (n1 n2 c1 c2 : Nat) (s t : Int) (w : World) :
    Con Try.prog 20 #[.agg (dcCells ByteArray.empty (.slice none 0 0) dZ), envV f (.slice A1 n1 c1) (.slice A2 n2 c2), .int .i64 s, .int .i64 t] w (Ret w (.tuple #[.int .i64 0, .int .i64 0, .int .i64 8])) := by
  refine enter tabOk mixed Try.func20 rfl Try.ntmps20 Try.results20 [.a (dcS ByteArray.empty (.v (.slice none 0 0)) dZ), .a [.v (.int .i64 f), .v (.slice A1 n1 c1), .v (.slice A2 n2 c2)], .v (.int .i64 s), .v (.int .i64 t)] (fun _ => none) [] 0 rfl rfl (hp0 _ _ _) ?_
  ((conv=>whnf);repeat(refine And.intro (by omega) ?_;(conv=>whnf)))
  refine EvCall.plain Try.call36 (.v (.int .i64 8)) rfl (fun ρ W hp => decl_valid0_s W) ?_
  ((conv=>whnf);repeat(refine And.intro (by omega) ?_;(conv=>whnf)))
  refine EvIf.pos rfl ?_
  ((conv=>whnf);repeat(refine And.intro (by omega) ?_;(conv=>whnf)))
  exact EvRet.ret (fun _ => rfl)
theorem someL_len5 (d : Dc) (zs ms : List Int) (b : Bool) : (someL d zs ms b).length ≤ 5 := by
  unfold someL
  split
  · rw [wildL_len]; unfold wildN; omega
  · rw [arL_len]; unfold arN; omega
theorem check5 {d : Dc} {l : List Cl} (hv : validCode d = 0) (hn : l.length ≤ 4096) (hl : ∀ c ∈ l, validB d c = true) : checkR d l = 0 := by
  unfold checkR
  rw [if_neg (by simp [hv]), if_neg (by omega), if_neg (fun h => h hl)]
theorem hist_bd5 {d : Dc} {l : List Cl} {vs : List Int} (hv : validCode d = 0) (h : HistP d l vs) : ∀ i, -1099511627776 ≤ vs.getD i 0 ∧ vs.getD i 0 ≤ 1099511627776 := by
  intro i
  have hb := valid_bounds hv
  by_cases hi : i < vs.length
  · have := (h.2.1 i hi).1
    omega
  · rw [getD_out (by omega)]
    omega
theorem small_bd5 {vs : List Int} (h : Small vs) : ∀ i, -1099511627776 ≤ vs.getD i 0 ∧ vs.getD i 0 ≤ 1099511627776 := fun i => by have := h i; omega
set_option maxRecDepth 20000 in
theorem envelopechange_s (v1 v2 v3 : Value) (zs ms ks : List Int) (b : Bool) (s t : Int) (w : World) (h1 : Ints w v1 zs) (h2 : Ints w v2 ms) (h3 : Ints w v3 ks) (hs : I64 s) (ht : I64 t) :
    Con Try.prog 3 #[v1, v2, v3, .bool b, .int .i64 s, .int .i64 t] w (Ret w (.bool true)) := by
  obtain ⟨A1, c1, rfl, e1, e2⟩ := h1.form
  obtain ⟨A2, c2, rfl, e3, e4⟩ := h2.form
  obtain ⟨A3, c3, rfl, e5, e6⟩ := h3.form
  have hT := declOf_T zs
  have hI := declOf_I' zs
  have hvc := declOf_vc zs
  refine enter tabOk mixed Try.func3 rfl Try.ntmps3 Try.results3 [.s 0 1 zs.length c1, .s 1 1 ms.length c2, .s 2 1 ks.length c3, .v (.bool b), .v (.int .i64 s), .v (.int .i64 t)] (fun n => if n = 0 then A1 else if n = 1 then A2 else A3) [⟨2, false, 3, 1, c3, .rows Int rI (ks)⟩, ⟨1, false, 3, 1, c2, .rows Int rI (ms)⟩, ⟨0, false, 3, 1, c1, .rows Int rI (zs)⟩] 3 rfl rfl (.ro (.ro (.ro (hp0 _ _ _) _ rfl rfl rfl (ro_ints h1 rfl _)) _ rfl rfl rfl (ro_ints h2 rfl _)) _ rfl rfl rfl (ro_ints h3 rfl _)) ?_
  ((conv=>whnf);repeat(refine And.intro (by omega) ?_;(conv=>whnf)))
  refine EvCall.decl Try.call15 (fun ρ W hp => decl_s _ zs W (hp.ints (n := 0) rfl e1 e2 h1.2)) (fun nm l c5 hnm hl hc1 hc2 => ?_)
  generalize declOf zs = d at hT hI hvc ⊢
  have hbd := valid_bounds hvc
  have hTT := hT
  obtain ⟨t1, t2, t3⟩ := hTT
  have hlv := some_valid d ms ks b hT
  have hsl := someL_len5 d ms ks b
  ((conv=>whnf);repeat(refine And.intro (by omega) ?_;(conv=>whnf)))
  refine EvCall.rows (R := rC) (ty := 52) (xs := someL d ms ks b) Try.call16 (fun ρ W hp => some_s nm _ _ _ d _ _ ms ks b W hT (hp.ints (n := 1) rfl e3 e4 h2.2) (hp.ints (n := 2) rfl e5 e6 h3.2)) (fun cap hc3 hc4 => ?_)
  generalize someL d ms ks b = sm at hc3 hlv hsl ⊢
  have hck := check5 hvc (by omega) hlv
  obtain ⟨sp, hsp⟩ : ∃ sp : Nat, (sp : Int) = d.last - d.first + 1 := ⟨(d.last - d.first + 1).toNat, by omega⟩
  rcases newR_cases hvc (by omega) hlv hsp with ⟨hok, hN⟩ | ⟨hno, hN⟩
  · obtain ⟨hL, hH⟩ := rL_hist hvc hlv hsp hok
    have hbL := hist_bd5 hvc hL
    have hbH := hist_bd5 hvc hH
    have hl1 := rLoL_len d sm sp
    have hl2 := rHiL_len d sm sp
    have a1 := arnd_nn s (d.last - d.first + 3) (by omega)
    have a2 := arnd_lt s (d.last - d.first + 3) (by omega)
    have a3 := arnd_nn t (d.last - d.first + 1) (by omega)
    have a4 := arnd_lt t (d.last - d.first + 1) (by omega)
    ((conv=>whnf);repeat(refine And.intro (by omega) ?_;(conv=>whnf)))
    refine EvCall.two (ty := 3) (xs := rLoL d sm sp) (ys := rHiL d sm sp) (envES d.first 0) (envES_den _ _) (envES_lt _ _) Try.call17 (fun ρ W hp => by
      have := new_s _ _ d sm W (hp.decl (n := 3) (d := d) hnm hl hc1 hc2 rfl) hI (hp.rowsIn (R := rC) (n := 5) (c := cap) rfl (by decide) hc3 hc4 4)
      rw [hN] at this
      exact this) (fun p1 p2 q1 q2 q3 q4 => ?_)
    ((conv=>whnf);repeat(refine And.intro (by omega) ?_;(conv=>whnf)))
    refine EvIf.neg rfl ?_
    ((conv=>whnf);repeat(refine And.intro (by omega) ?_;(conv=>whnf)))
    (refine EvDraw.one (.q 0 (.q 1 (.q 2 (.q 3 (.q 4 (.q 5 (.q 6 (.q 7 (.q 8 (.n 9 false (.q 10 (.q 11 (.q 12 (.z)))) (.e))))))))))) (by kernel_rfl) ?_)
    ((conv=>whnf);repeat(refine And.intro (by omega) ?_;(conv=>whnf)))
    refine EvCall.plain Try.call19 (.v (.int .i64 (arnd s (d.last - d.first + 3)))) rfl (fun ρ W hp => around_s _ _ W hs (by omega) (by omega)) ?_
    generalize arnd s (d.last - d.first + 3) = x0 at a1 a2 ⊢
    ((conv=>whnf);repeat(refine And.intro (by omega) ?_;(conv=>whnf)))
    (refine EvDraw.one (.q 0 (.q 1 (.q 2 (.q 3 (.q 4 (.q 5 (.q 6 (.q 7 (.q 8 (.n 9 false (.q 10 (.q 11 (.z))) (.e))))))))))) (by kernel_rfl) ?_)
    ((conv=>whnf);repeat(refine And.intro (by omega) ?_;(conv=>whnf)))
    refine EvCall.plain Try.call19 (.v (.int .i64 (arnd t (d.last - d.first + 1)))) rfl (fun ρ W hp => around_s _ _ W ht (by omega) (by omega)) ?_
    generalize arnd t (d.last - d.first + 1) = y0 at a3 a4 ⊢
    obtain ⟨x, hx⟩ : ∃ x, x = d.first + x0 - 1 := ⟨_, rfl⟩
    obtain ⟨y, hy⟩ : ∃ y, y = d.first + y0 := ⟨_, rfl⟩
    ((conv=>whnf);repeat(refine And.intro (by omega) ?_;(conv=>whnf)))
    rw [← hx, ← hy]
    have hcb : ∀ i, (-1099511627776 ≤ (rLoL d sm sp).getD i 0 ∧ (rLoL d sm sp).getD i 0 ≤ 1099511627776) ∧ -1099511627776 ≤ (rHiL d sm sp).getD i 0 ∧ (rHiL d sm sp).getD i 0 ≤ 1099511627776 := fun i => ⟨hbL i, hbH i⟩
    refine EvCall.plain Try.call20 (.t [.v (.int .i64 (chR d ⟨d.first, rLoL d sm sp, rHiL d sm sp⟩ x y).1), .v (.int .i64 (chR d ⟨d.first, rLoL d sm sp, rHiL d sm sp⟩ x y).2.1), .v (.int .i64 (chR d ⟨d.first, rLoL d sm sp, rHiL d sm sp⟩ x y).2.2)]) rfl (fun ρ W hp => change_s _ d ⟨d.first, rLoL d sm sp, rHiL d sm sp⟩ _ _ _ _ _ _ x y W (hp.decl (n := 3) (d := d) hnm hl hc1 hc2 rfl) hI hvc (hp.rowsIn (R := rI) (n := 6) (c := p1) rfl (by decide) q1 q2 1) (hp.rowsIn (R := rI) (n := 7) (c := p2) rfl (by decide) q3 q4 1) (by omega) (by omega) (by show 0 ≤ d.first ∧ d.first ≤ 1000000; omega) (by show (rLoL d sm sp).length ≤ 4096; omega) hcb) ?_
    have hiy : inE ⟨d.first, rLoL d sm sp, rHiL d sm sp⟩ y := by unfold inE; simp only; omega
    by_cases hxl : x < d.first ∨ d.last < x
    · have hnx : ¬ inE ⟨d.first, rLoL d sm sp, rHiL d sm sp⟩ x := by unfold inE; simp only; omega
      have hr1 : chR d ⟨d.first, rLoL d sm sp, rHiL d sm sp⟩ x y = (0, 0, 9) := if_neg (fun h => hnx h.1)
      have hr2 : chR d ⟨d.first, rLoL d sm sp, rHiL d sm sp⟩ y x = (0, 0, 9) := if_neg (fun h => hnx h.2)
      rw [hr1]
      ((conv=>whnf);repeat(refine And.intro (by omega) ?_;(conv=>whnf)))
      refine EvIf.pos (by simp only [Bool.or_eq_true, decide_eq_true_eq]; omega) ?_
      ((conv=>whnf);repeat(refine And.intro (by omega) ?_;(conv=>whnf)))
      refine EvCall.plain Try.call20 (.t [.v (.int .i64 0), .v (.int .i64 0), .v (.int .i64 9)]) rfl (fun ρ W hp => by
        have := change_s _ d ⟨d.first, rLoL d sm sp, rHiL d sm sp⟩ _ _ _ _ _ _ y x W (hp.decl (n := 3) (d := d) hnm hl hc1 hc2 rfl) hI hvc (hp.rowsIn (R := rI) (n := 6) (c := p1) rfl (by decide) q1 q2 1) (hp.rowsIn (R := rI) (n := 7) (c := p2) rfl (by decide) q3 q4 1) (by omega) (by omega) (by show 0 ≤ d.first ∧ d.first ≤ 1000000; omega) (by show (rLoL d sm sp).length ≤ 4096; omega) hcb
        rw [hr2] at this
        exact this) ?_
      ((conv=>whnf);repeat(refine And.intro (by omega) ?_;(conv=>whnf)))
      refine EvCallC.plain Try.call18 (.v (.bool true)) rfl (fun _ ρ W hp => lives12_s W) ?_
      ((conv=>whnf);repeat(refine And.intro (by omega) ?_;(conv=>whnf)))
      exact EvRet.ret (fun ρ => rfl)
    · have hix : inE ⟨d.first, rLoL d sm sp, rHiL d sm sp⟩ x := by unfold inE; simp only; omega
      have hr1 : chR d ⟨d.first, rLoL d sm sp, rHiL d sm sp⟩ x y = (chLo d ⟨d.first, rLoL d sm sp, rHiL d sm sp⟩ x y, chHi d ⟨d.first, rLoL d sm sp, rHiL d sm sp⟩ x y, 0) := if_pos ⟨hix, hiy⟩
      rw [hr1]
      have hi1 := insL_span d ms hT
      have hb1 := small_bd5 (insL_small d ms hT)
      have c1' := hb1 (y - d.first).toNat
      have c2' := hb1 (x - d.first).toNat
      ((conv=>whnf);repeat(refine And.intro (by omega) ?_;(conv=>whnf)))
      refine EvIf.neg (by simp only [Bool.or_eq_false_iff, decide_eq_false_iff_not]; omega) ?_
      ((conv=>whnf);repeat(refine And.intro (by omega) ?_;(conv=>whnf)))
      refine EvCall.two (ty := 3) (xs := rLoL d sm sp) (ys := rHiL d sm sp) (envES d.first 0) (envES_den _ _) (envES_lt _ _) Try.call21 (fun ρ W hp => by
        have := ref_new_s _ _ d sm W (hp.decl (n := 3) (d := d) hnm hl hc1 hc2 rfl) hI (hp.rowsIn (R := rC) (n := 5) (c := cap) rfl (by decide) hc3 hc4 4)
        rw [hN] at this
        exact this) (fun p3 p4 q5 q6 q7 q8 => ?_)
      ((conv=>whnf);repeat(refine And.intro (by omega) ?_;(conv=>whnf)))
      refine EvCall.plain Try.call22 (.t [.v (.int .i64 (chLo d ⟨d.first, rLoL d sm sp, rHiL d sm sp⟩ x y)), .v (.int .i64 (chHi d ⟨d.first, rLoL d sm sp, rHiL d sm sp⟩ x y))]) rfl (fun ρ W hp => ref_change_s nm _ _ _ d ⟨d.first, rLoL d sm sp, rHiL d sm sp⟩ _ _ _ _ _ _ x y W (dcS_of hvc) (hp.rowsIn (R := rI) (n := 9) (c := p3) rfl (by decide) q5 q6 1) (hp.rowsIn (R := rI) (n := 10) (c := p4) rfl (by decide) q7 q8 1) (by omega) (by omega) (by show 0 ≤ d.first ∧ d.first ≤ 1048576; omega) hix hiy hcb) ?_
      ((conv=>whnf);repeat(refine And.intro (by omega) ?_;(conv=>whnf)))
      refine EvCall.plain Try.call20 (.t [.v (.int .i64 0), .v (.int .i64 0), .v (.int .i64 8)]) rfl (fun ρ W hp => change0_s _ _ _ _ _ _ _ _ _ W) ?_
      ((conv=>whnf);repeat(refine And.intro (by omega) ?_;(conv=>whnf)))
      refine EvCall.rows (R := rI) (ty := 3) (xs := insL d ms (spanN d)) Try.call23 (fun ρ W hp => inside_s nm _ _ _ d _ ms W hT (hp.ints (n := 1) rfl e3 e4 h2.2)) (fun ca ha1 ha2 => ?_)
      generalize insL d ms (spanN d) = vs at *
      ((conv=>whnf);repeat(refine And.intro (by omega) ?_;(conv=>whnf)))
      (refine EvDraw.one (.q 0 (.q 1 (.q 2 (.q 3 (.q 4 (.q 5 (.q 6 (.q 7 (.q 8 (.q 9 (.q 10 (.q 11 (.q 12 (.q 13 (.q 14 (.q 15 (.z))))))))))))))))) (by kernel_rfl) ?_)
      ((conv=>whnf);(repeat(refine And.intro ?_ ?_;(focus((first|omega|exact⟨rfl,True.intro⟩|exact⟨rfl,rfl,True.intro⟩|rfl|(simp only[List.length_set];first|omega|(refine⟨?_,?_⟩<;>omega)|(refine⟨?_,?_,?_⟩<;>omega))|(intro hg;(try simp only[bB]at hg);first|omega|(refine⟨?_,?_⟩<;>omega)|(refine⟨?_,?_,?_⟩<;>first|omega|(show _<_;(try simp only[List.length_set]);omega)|exact leT rfl))|(refine⟨?_,?_⟩<;>omega)|(refine⟨?_,?_,?_⟩<;>first|omega|(show _<_;(try simp only[List.length_set]);omega)|exact leT rfl)|(simp only[show rI.d=(0:Int)from rfl];omega));done));(conv=>whnf))))
      have hin : histB d sm vs = true → chLo d ⟨d.first, rLoL d sm sp, rHiL d sm sp⟩ x y ≤ vs.getD (y - d.first).toNat 0 - vs.getD (x - d.first).toNat 0 ∧ vs.getD (y - d.first).toNat 0 - vs.getD (x - d.first).toNat 0 ≤ chHi d ⟨d.first, rLoL d sm sp, rHiL d sm sp⟩ x y := by
        intro hh
        have q := ch_eq (d := d) (l := sm) (n := sp) (i := (x - d.first).toNat) (k := (y - d.first).toNat) (by omega) (by omega)
        rw [show d.first + ((x - d.first).toNat : Int) = x by omega, show d.first + ((y - d.first).toNat : Int) = y by omega] at q
        have r := hist_change hvc hlv (histB_t.1 hh) (i := (x - d.first).toNat) (k := (y - d.first).toNat) (by omega) (by omega)
        rw [show d.first + ((x - d.first).toNat : Int) = x by omega, show d.first + ((y - d.first).toNat : Int) = y by omega] at r
        rw [q.1, q.2]
        exact r
      refine EvCall.plain Try.call24 (.v (.bool (histB d sm vs))) rfl (fun ρ W hp => agrees_s nm _ _ _ _ _ d sm vs W (hp.decl (n := 3) (d := d) hnm hl hc1 hc2 rfl) hI hT hck (hp.rowsIn (R := rC) (n := 5) (c := cap) rfl (by decide) hc3 hc4 4) (hp.rowsIn (R := rI) (n := 12) (c := ca) rfl (by decide) ha1 ha2 1) hb1) ?_
      cases hh : histB d sm vs with
      | false =>
        ((conv=>whnf);repeat(refine And.intro (by omega) ?_;(conv=>whnf)))
        refine EvCallC.plain Try.call18 (.v (.bool true)) rfl (fun _ ρ W hp => lives12_s W) ?_
        ((conv=>whnf);repeat(refine And.intro (by omega) ?_;(conv=>whnf)))
        refine EvRet.ret (fun ρ => ?_)
        simp [den]
      | true =>
        obtain ⟨g1, g2⟩ := hin hh
        ((conv=>whnf);repeat(refine And.intro (by omega) ?_;(conv=>whnf)))
        refine EvCallC.plain Try.call18 (.v (.bool true)) rfl (fun _ ρ W hp => lives12_s W) ?_
        ((conv=>whnf);repeat(refine And.intro (by omega) ?_;(conv=>whnf)))
        refine EvRet.ret (fun ρ => ?_)
        have g3 : chLo d ⟨d.first, rLoL d sm sp, rHiL d sm sp⟩ x y ≤ vs.getD (y - d.first).toNat rI.d - vs.getD (x - d.first).toNat rI.d := g1
        have g4 : vs.getD (y - d.first).toNat rI.d - vs.getD (x - d.first).toNat rI.d ≤ chHi d ⟨d.first, rLoL d sm sp, rHiL d sm sp⟩ x y := g2
        simp only [den, decide_eq_true g3, decide_eq_true g4]
        simp
  · ((conv=>whnf);repeat(refine And.intro (by omega) ?_;(conv=>whnf)))
    refine EvCall.two (ty := 3) (xs := []) (ys := []) (envES 0 13) (envES_den _ _) (envES_lt _ _) Try.call17 (fun ρ W hp => by
      have := new_s _ _ d sm W (hp.decl (n := 3) (d := d) hnm hl hc1 hc2 rfl) hI (hp.rowsIn (R := rC) (n := 5) (c := cap) rfl (by decide) hc3 hc4 4)
      rw [hN] at this
      exact this) (fun p1 p2 q1 q2 q3 q4 => ?_)
    ((conv=>whnf);repeat(refine And.intro (by omega) ?_;(conv=>whnf)))
    refine EvIf.pos rfl ?_
    ((conv=>whnf);repeat(refine And.intro (by omega) ?_;(conv=>whnf)))
    refine EvCall.plain Try.call18 (.v (.bool true)) rfl (fun ρ W hp => lives12_s W) ?_
    ((conv=>whnf);repeat(refine And.intro (by omega) ?_;(conv=>whnf)))
    exact EvRet.ret (fun ρ => rfl)
theorem walk_EnvelopeChange (w : World) (V0 : Value) (zs : List Int) (h : Ints w V0 zs) (V1 : Value) (ms : List Int) (h2 : Ints w V1 ms) (V2 : Value) (ks : List Int) (h3 : Ints w V2 ks) (b : Bool) (s : Int) (hs : I64 s) (t : Int) (ht : I64 t) :
    Calls Try.prog 3 #[V0, V1, V2, .bool b, .int .i64 s, .int .i64 t] w fun e w' => e = .returned (.bool true) ∧ Below w.heap.size w w' :=
  (envelopechange_s V0 V1 V2 zs ms ks b s t w h h2 h3 hs ht).out
end Go.Proofs.Ytnoenmacakbhdaa
