
/- The laws IntervalTight, IntervalSound, IntervalMonotone, walked. -/
import Derived.Test.YthknflclfmnciaaWp
import Derived.Test.YthknflclfmnciaaWq
namespace Go.Proofs.Ythknflclfmnciaa
open Go.RowKit
set_option linter.unusedVariables false
set_option linter.unusedSimpArgs false

theorem tight_plain {op : Nat} {x y : Iv} (hop : op < 4) (hx : vI x) (hy : vI y) (s1 : smF x.lo ∧ smF x.hi) (s2 : smF y.lo ∧ smF y.hi) :
    ((iopF op x y).2 ≠ 0 → op = 3 ∧ (iopF op x y).2 = 6) ∧ ((iopF op x y).2 = 0 →
      ((opF op x.lo y.lo).1 = (iopF op x y).1.lo ∨ (opF op x.hi y.lo).1 = (iopF op x y).1.lo ∨ (opF op x.lo y.hi).1 = (iopF op x y).1.lo ∨ (opF op x.hi y.hi).1 = (iopF op x y).1.lo) ∧
      ((opF op x.lo y.lo).1 = (iopF op x y).1.hi ∨ (opF op x.hi y.lo).1 = (iopF op x y).1.hi ∨ (opF op x.lo y.hi).1 = (iopF op x y).1.hi ∨ (opF op x.hi y.hi).1 = (iopF op x y).1.hi)) := by
  rcases iop_small hop hx hy s1.1 s1.2 s2.1 s2.2 with ⟨z, hz, hk, h0⟩ | ⟨h3, hz, he⟩
  · rw [hz]
    refine ⟨fun h => absurd rfl h, fun _ => ⟨?_, ?_⟩⟩
    · obtain ⟨a, b, ha, hb, he⟩ := hk.lo
      have he := congrArg Prod.fst he
      rcases ha with rfl | rfl <;> rcases hb with rfl | rfl
      · exact .inl he
      · exact .inr (.inr (.inl he))
      · exact .inr (.inl he)
      · exact .inr (.inr (.inr he))
    · obtain ⟨a, b, ha, hb, he⟩ := hk.hi
      have he := congrArg Prod.fst he
      rcases ha with rfl | rfl <;> rcases hb with rfl | rfl
      · exact .inl he
      · exact .inr (.inr (.inl he))
      · exact .inr (.inl he)
      · exact .inr (.inr (.inr he))
  · rw [he]
    exact ⟨fun _ => ⟨h3, rfl⟩, fun h => absurd h (by decide)⟩
set_option maxRecDepth 10000 in
theorem intervaltight_s (l0 l1 l2 l3 : Int) (w : World) (i0 : I64 l0) (i1 : I64 l1) (i2 : I64 l2) (i3 : I64 l3) : Con Try.prog 10 #[.agg #[.int .i64 l0, .int .i64 l1, .int .i64 l2, .int .i64 l3]] w (Ret w (.bool true)) := by
  unfold I64 at i0 i1 i2 i3
  obtain ⟨D, hD, hL⟩ := ismF_lv l0 l1
  obtain ⟨E, hE, hM⟩ := ismF_lv l2 l3
  have hx := hL.v
  have hy := hM.v
  have s1 := hL.sm (by omega)
  have s2 := hM.sm (by omega)
  have cx := small4_s l0 l1
  have cy := small4_s l2 l3
  clear hL hM
  generalize ismF l0 l1 = x at *
  generalize ismF l2 l3 = y at *
  refine enter tabOk mixed Try.func10 rfl Try.ntmps10 Try.results10 [.a [.v (.int .i64 l0), .v (.int .i64 l1), .v (.int .i64 l2), .v (.int .i64 l3)]] (fun _ => none) [] 0 rfl rfl (hp0 _ _ _) ?_
  ((conv=>whnf);repeat(refine And.intro (by omega) ?_;(conv=>whnf)))
  refine EvCall.plain Try.call17 (.a (iS x)) rfl (fun ρ W hp => by rw [iS_den]; exact cx W i0 i1) ?_
  ((conv=>whnf);repeat(refine And.intro (by omega) ?_;(conv=>whnf)))
  refine EvCall.plain Try.call17 (.a (iS y)) rfl (fun ρ W hp => by rw [iS_den]; exact cy W i2 i3) ?_
  ((conv=>whnf);repeat(refine And.intro (by omega) ?_;(conv=>whnf)))
  refine EvLoop.inv (α := Nat) (fun i => i ≤ 4) (fun i => 4 - i) (fun i => [(2, [], .v (.bool (false))), (3, [], .p 1 0), (4, [], .p 2 0), (5, [], .v (.int .i64 ((i : Int))))])
    (fun i => [⟨1, true, 27, 4, 1, .cs (iS x)⟩, ⟨2, true, 27, 4, 1, .cs (iS y)⟩]) 3 0 (by omega) (Sub.of [] [] rfl ?_) ?_
  · ((repeat' (refine And.intro ?_ ?_)) <;> first | rfl | exact True.intro | omega)
  intro i hi
  ((conv=>whnf);repeat(refine And.intro (by omega) ?_;(conv=>whnf)))
  refine EvIf.split (fun g1 => ?_) (fun g1 => ?_)
  · have g2 : i < 4 := by have := of_decide_eq_true g1; omega
    have h1 := fun W => do_s i x y W g2
    obtain ⟨hn, hz⟩ := tight_plain g2 hx hy s1 s2
    have a0 := fun W => apply_s i x.lo y.lo W g2 hx.1.inF hy.1.inF
    have a1 := fun W => apply_s i x.hi y.lo W g2 hx.2.1.inF hy.1.inF
    have a2 := fun W => apply_s i x.lo y.hi W g2 hx.1.inF hy.2.1.inF
    have a3 := fun W => apply_s i x.hi y.hi W g2 hx.2.1.inF hy.2.1.inF
    generalize iopF i x y = r at *
    generalize opF i x.lo y.lo = c0 at *
    generalize opF i x.hi y.lo = c1 at *
    generalize opF i x.lo y.hi = c2 at *
    generalize opF i x.hi y.hi = c3 at *
    ((conv=>whnf);repeat(refine And.intro (by omega) ?_;(conv=>whnf)))
    refine EvCall.plain Try.call48 (ieS r) rfl (fun ρ W hp => by rw [ieS_den]; exact h1 W) ?_
    ((conv=>whnf);repeat(refine And.intro (by omega) ?_;(conv=>whnf)))
    refine EvIf.split (fun g3 => ?_) (fun g3 => ?_)
    · have g4 := hn (by simpa using g3)
      ((conv=>whnf);repeat(refine And.intro (by omega) ?_;(conv=>whnf)))
      refine EvIf.neg (by simp; omega) ?_
      ((conv=>whnf);repeat(refine And.intro (by omega) ?_;(conv=>whnf)))
      refine LoopI.back (i + 1) (by show i + 1 ≤ 4; omega) (by show 4 - (i + 1) < 4 - i; omega) (Sub.of [] [] rfl ?_)
      ((repeat' (refine And.intro ?_ ?_)) <;> first | rfl | exact True.intro | omega)
    have g4 := hz (by simpa using g3)
    obtain ⟨e1, e2⟩ := g4
    ((conv=>whnf);repeat(refine And.intro (by omega) ?_;(conv=>whnf)))
    refine EvLoop.rounds 5 ?_
    ((conv=>whnf);repeat(refine And.intro (by omega) ?_;(conv=>whnf)))
    refine EvIf.pos rfl ?_
    ((conv=>whnf);repeat(refine And.intro (by omega) ?_;(conv=>whnf)))
    rw [show Int.tmod 0 2 = 0 from rfl]
    ((conv=>whnf);(repeat(refine And.intro ?_ ?_;(focus((first|omega|exact⟨rfl,True.intro⟩|exact⟨rfl,rfl,True.intro⟩|rfl|(simp only[List.length_set];first|omega|(refine⟨?_,?_⟩<;>omega)|(refine⟨?_,?_,?_⟩<;>omega))|(intro hg;(try simp only[bB]at hg);first|omega|(refine⟨?_,?_⟩<;>omega)|(refine⟨?_,?_,?_⟩<;>first|omega|(show _<_;(try simp only[List.length_set]);omega)|exact leT rfl))|(refine⟨?_,?_⟩<;>omega)|(refine⟨?_,?_,?_⟩<;>first|omega|(show _<_;(try simp only[List.length_set]);omega)|exact leT rfl)|(simp only[show rI.d=(0:Int)from rfl];omega));done));(conv=>whnf))))
    rw [show Int.tdiv 0 2 = 0 from rfl]
    ((conv=>whnf);(repeat(refine And.intro ?_ ?_;(focus((first|omega|exact⟨rfl,True.intro⟩|exact⟨rfl,rfl,True.intro⟩|rfl|(simp only[List.length_set];first|omega|(refine⟨?_,?_⟩<;>omega)|(refine⟨?_,?_,?_⟩<;>omega))|(intro hg;(try simp only[bB]at hg);first|omega|(refine⟨?_,?_⟩<;>omega)|(refine⟨?_,?_,?_⟩<;>first|omega|(show _<_;(try simp only[List.length_set]);omega)|exact leT rfl))|(refine⟨?_,?_⟩<;>omega)|(refine⟨?_,?_,?_⟩<;>first|omega|(show _<_;(try simp only[List.length_set]);omega)|exact leT rfl)|(simp only[show rI.d=(0:Int)from rfl];omega));done));(conv=>whnf))))
    refine EvCall.plain Try.call50 (feS c0) rfl (fun ρ W hp => by rw [feS_den]; exact a0 W) ?_
    ((conv=>whnf);repeat(refine And.intro (by omega) ?_;(conv=>whnf)))
    refine EvIf.pos rfl ?_
    ((conv=>whnf);repeat(refine And.intro (by omega) ?_;(conv=>whnf)))
    rw [show Int.tmod (0 + 1) 2 = 1 from rfl]
    ((conv=>whnf);(repeat(refine And.intro ?_ ?_;(focus((first|omega|exact⟨rfl,True.intro⟩|exact⟨rfl,rfl,True.intro⟩|rfl|(simp only[List.length_set];first|omega|(refine⟨?_,?_⟩<;>omega)|(refine⟨?_,?_,?_⟩<;>omega))|(intro hg;(try simp only[bB]at hg);first|omega|(refine⟨?_,?_⟩<;>omega)|(refine⟨?_,?_,?_⟩<;>first|omega|(show _<_;(try simp only[List.length_set]);omega)|exact leT rfl))|(refine⟨?_,?_⟩<;>omega)|(refine⟨?_,?_,?_⟩<;>first|omega|(show _<_;(try simp only[List.length_set]);omega)|exact leT rfl)|(simp only[show rI.d=(0:Int)from rfl];omega));done));(conv=>whnf))))
    rw [show Int.tdiv (0 + 1) 2 = 0 from rfl]
    ((conv=>whnf);(repeat(refine And.intro ?_ ?_;(focus((first|omega|exact⟨rfl,True.intro⟩|exact⟨rfl,rfl,True.intro⟩|rfl|(simp only[List.length_set];first|omega|(refine⟨?_,?_⟩<;>omega)|(refine⟨?_,?_,?_⟩<;>omega))|(intro hg;(try simp only[bB]at hg);first|omega|(refine⟨?_,?_⟩<;>omega)|(refine⟨?_,?_,?_⟩<;>first|omega|(show _<_;(try simp only[List.length_set]);omega)|exact leT rfl))|(refine⟨?_,?_⟩<;>omega)|(refine⟨?_,?_,?_⟩<;>first|omega|(show _<_;(try simp only[List.length_set]);omega)|exact leT rfl)|(simp only[show rI.d=(0:Int)from rfl];omega));done));(conv=>whnf))))
    refine EvCall.plain Try.call50 (feS c1) rfl (fun ρ W hp => by rw [feS_den]; exact a1 W) ?_
    ((conv=>whnf);repeat(refine And.intro (by omega) ?_;(conv=>whnf)))
    refine EvIf.pos rfl ?_
    ((conv=>whnf);repeat(refine And.intro (by omega) ?_;(conv=>whnf)))
    rw [show Int.tmod (0 + 1 + 1) 2 = 0 from rfl]
    ((conv=>whnf);(repeat(refine And.intro ?_ ?_;(focus((first|omega|exact⟨rfl,True.intro⟩|exact⟨rfl,rfl,True.intro⟩|rfl|(simp only[List.length_set];first|omega|(refine⟨?_,?_⟩<;>omega)|(refine⟨?_,?_,?_⟩<;>omega))|(intro hg;(try simp only[bB]at hg);first|omega|(refine⟨?_,?_⟩<;>omega)|(refine⟨?_,?_,?_⟩<;>first|omega|(show _<_;(try simp only[List.length_set]);omega)|exact leT rfl))|(refine⟨?_,?_⟩<;>omega)|(refine⟨?_,?_,?_⟩<;>first|omega|(show _<_;(try simp only[List.length_set]);omega)|exact leT rfl)|(simp only[show rI.d=(0:Int)from rfl];omega));done));(conv=>whnf))))
    rw [show Int.tdiv (0 + 1 + 1) 2 = 1 from rfl]
    ((conv=>whnf);(repeat(refine And.intro ?_ ?_;(focus((first|omega|exact⟨rfl,True.intro⟩|exact⟨rfl,rfl,True.intro⟩|rfl|(simp only[List.length_set];first|omega|(refine⟨?_,?_⟩<;>omega)|(refine⟨?_,?_,?_⟩<;>omega))|(intro hg;(try simp only[bB]at hg);first|omega|(refine⟨?_,?_⟩<;>omega)|(refine⟨?_,?_,?_⟩<;>first|omega|(show _<_;(try simp only[List.length_set]);omega)|exact leT rfl))|(refine⟨?_,?_⟩<;>omega)|(refine⟨?_,?_,?_⟩<;>first|omega|(show _<_;(try simp only[List.length_set]);omega)|exact leT rfl)|(simp only[show rI.d=(0:Int)from rfl];omega));done));(conv=>whnf))))
    refine EvCall.plain Try.call50 (feS c2) rfl (fun ρ W hp => by rw [feS_den]; exact a2 W) ?_
    ((conv=>whnf);repeat(refine And.intro (by omega) ?_;(conv=>whnf)))
    refine EvIf.pos rfl ?_
    ((conv=>whnf);repeat(refine And.intro (by omega) ?_;(conv=>whnf)))
    rw [show Int.tmod (0 + 1 + 1 + 1) 2 = 1 from rfl]
    ((conv=>whnf);(repeat(refine And.intro ?_ ?_;(focus((first|omega|exact⟨rfl,True.intro⟩|exact⟨rfl,rfl,True.intro⟩|rfl|(simp only[List.length_set];first|omega|(refine⟨?_,?_⟩<;>omega)|(refine⟨?_,?_,?_⟩<;>omega))|(intro hg;(try simp only[bB]at hg);first|omega|(refine⟨?_,?_⟩<;>omega)|(refine⟨?_,?_,?_⟩<;>first|omega|(show _<_;(try simp only[List.length_set]);omega)|exact leT rfl))|(refine⟨?_,?_⟩<;>omega)|(refine⟨?_,?_,?_⟩<;>first|omega|(show _<_;(try simp only[List.length_set]);omega)|exact leT rfl)|(simp only[show rI.d=(0:Int)from rfl];omega));done));(conv=>whnf))))
    rw [show Int.tdiv (0 + 1 + 1 + 1) 2 = 1 from rfl]
    ((conv=>whnf);(repeat(refine And.intro ?_ ?_;(focus((first|omega|exact⟨rfl,True.intro⟩|exact⟨rfl,rfl,True.intro⟩|rfl|(simp only[List.length_set];first|omega|(refine⟨?_,?_⟩<;>omega)|(refine⟨?_,?_,?_⟩<;>omega))|(intro hg;(try simp only[bB]at hg);first|omega|(refine⟨?_,?_⟩<;>omega)|(refine⟨?_,?_,?_⟩<;>first|omega|(show _<_;(try simp only[List.length_set]);omega)|exact leT rfl))|(refine⟨?_,?_⟩<;>omega)|(refine⟨?_,?_,?_⟩<;>first|omega|(show _<_;(try simp only[List.length_set]);omega)|exact leT rfl)|(simp only[show rI.d=(0:Int)from rfl];omega));done));(conv=>whnf))))
    refine EvCall.plain Try.call50 (feS c3) rfl (fun ρ W hp => by rw [feS_den]; exact a3 W) ?_
    ((conv=>whnf);repeat(refine And.intro (by omega) ?_;(conv=>whnf)))
    refine EvIf.neg rfl ?_
    ((conv=>whnf);repeat(refine And.intro (by omega) ?_;(conv=>whnf)))
    refine EvIf.neg ?_ ?_
    · rcases e1 with e | e | e | e <;> rcases e2 with e' | e' | e' | e' <;> simp [← e, ← e']
    ((conv=>whnf);repeat(refine And.intro (by omega) ?_;(conv=>whnf)))
    refine LoopI.back (i + 1) (by show i + 1 ≤ 4; omega) (by show 4 - (i + 1) < 4 - i; omega) (Sub.of [] [] rfl ?_)
    ((repeat' (refine And.intro ?_ ?_)) <;> first | rfl | exact True.intro | omega)
  · ((conv=>whnf);repeat(refine And.intro (by omega) ?_;(conv=>whnf)))
    refine EvCall.plain Try.call16 (.v (.bool true)) rfl (fun ρ W hp => lives_s W) ?_
    ((conv=>whnf);repeat(refine And.intro (by omega) ?_;(conv=>whnf)))
    exact ret_bool rfl
theorem walk_IntervalTight (w : World) (l : List Int) (hl : l.length = 4 ∧ ∀ z ∈ l, I64 z) : Calls Try.prog 10 #[.agg (l.map (fun z => Value.int .i64 z)).toArray] w fun e w' => e = .returned (.bool true) ∧ Below w.heap.size w w' := by
  obtain ⟨h1, h2⟩ := hl
  match l, h1 with
  | [a, b, c, d], _ => exact (intervaltight_s a b c d w (h2 a (by simp)) (h2 b (by simp)) (h2 c (by simp)) (h2 d (by simp))).out
set_option maxRecDepth 10000 in
theorem intervalsound_s (l0 l1 l2 l3 l4 l5 : Int) (w : World) (i0 : I64 l0) (i1 : I64 l1) (i2 : I64 l2) (i3 : I64 l3) (i4 : I64 l4) (i5 : I64 l5) : Con Try.prog 11 #[.agg #[.int .i64 l0, .int .i64 l1, .int .i64 l2, .int .i64 l3, .int .i64 l4, .int .i64 l5]] w (Ret w (.bool true)) := by
  unfold I64 at i0 i1 i2 i3 i4 i5
  obtain ⟨D, hD, hL⟩ := ismF_lv l0 l1
  obtain ⟨E, hE, hM⟩ := ismF_lv l2 l3
  have hx := hL.v
  have hy := hM.v
  have s1 := hL.sm (by omega)
  have s2 := hM.sm (by omega)
  have cx := small4_s l0 l1
  have cy := small4_s l2 l3
  obtain ⟨ha, p1, p2⟩ := innF_in l4 hL (by omega)
  obtain ⟨hb, p3, p4⟩ := innF_in l5 hM (by omega)
  have sa := innF_sm l4 hL (by omega)
  have sb := innF_sm l5 hM (by omega)
  have ca := fun W => inner_s (ismF l0 l1) l4 D W i4 hL (by omega)
  have cb := fun W => inner_s (ismF l2 l3) l5 E W i5 hM (by omega)
  have ia : Has (ismF l0 l1) (qv (innF (ismF l0 l1) l4)) := ⟨(cmp_qv hx.1 ha).1 p1, (cmp_qv ha hx.2.1).1 p2⟩
  have ib : Has (ismF l2 l3) (qv (innF (ismF l2 l3) l5)) := ⟨(cmp_qv hy.1 hb).1 p3, (cmp_qv hb hy.2.1).1 p4⟩
  obtain ⟨m1, m2⟩ := min_cont hx hy ha hb ia ib
  clear hL hM p1 p2 p3 p4
  generalize innF (ismF l0 l1) l4 = a at *
  generalize innF (ismF l2 l3) l5 = b at *
  generalize ismF l0 l1 = x at *
  generalize ismF l2 l3 = y at *
  obtain ⟨s, hs, hsl, hs0, hs1⟩ : ∃ s, sortF [a, b] = s ∧ s.length = 2 ∧ s.getD 0 fr0 = lesF a b ∧ s.getD 1 fr0 = greF a b := ⟨_, rfl, by rw [sortF_len]; rfl, sort2_0 a b, sort2_1 ha hb⟩
  obtain ⟨mi, hmi⟩ : ∃ z, iminF x y = z := ⟨_, rfl⟩
  obtain ⟨ma, hma⟩ : ∃ z, imaxF x y = z := ⟨_, rfl⟩
  rw [hmi, ← hs0] at m1
  rw [hma, ← hs1] at m2
  refine enter tabOk mixed Try.func11 rfl Try.ntmps11 Try.results11 [.a [.v (.int .i64 l0), .v (.int .i64 l1), .v (.int .i64 l2), .v (.int .i64 l3), .v (.int .i64 l4), .v (.int .i64 l5)]] (fun _ => none) [] 0 rfl rfl (hp0 _ _ _) ?_
  ((conv=>whnf);repeat(refine And.intro (by omega) ?_;(conv=>whnf)))
  refine EvCall.plain Try.call17 (.a (iS x)) rfl (fun ρ W hp => by rw [iS_den]; exact cx W i0 i1) ?_
  ((conv=>whnf);repeat(refine And.intro (by omega) ?_;(conv=>whnf)))
  refine EvCall.plain Try.call17 (.a (iS y)) rfl (fun ρ W hp => by rw [iS_den]; exact cy W i2 i3) ?_
  ((conv=>whnf);repeat(refine And.intro (by omega) ?_;(conv=>whnf)))
  refine EvCall.plain Try.call19 (.a (fS a)) rfl (fun ρ W hp => by rw [fS_den]; exact ca W) ?_
  ((conv=>whnf);repeat(refine And.intro (by omega) ?_;(conv=>whnf)))
  refine EvCall.plain Try.call19 (.a (fS b)) rfl (fun ρ W hp => by rw [fS_den]; exact cb W) ?_
  ((conv=>whnf);repeat(refine And.intro (by omega) ?_;(conv=>whnf)))
  refine EvLoop.inv (α := Nat) (fun i => i ≤ 4) (fun i => 4 - i) (fun i => [(2, [], .v (.bool (false))), (3, [], .p 1 0), (4, [], .p 2 0), (5, [], .p 3 0), (6, [], .p 4 0), (7, [], .v (.int .i64 ((i : Int))))])
    (fun i => [⟨1, true, 27, 4, 1, .cs (iS x)⟩, ⟨2, true, 27, 4, 1, .cs (iS y)⟩, ⟨3, true, 25, 2, 1, .cs (fS a)⟩, ⟨4, true, 25, 2, 1, .cs (fS b)⟩]) 5 0 (by omega) (Sub.of [] [] rfl ?_) ?_
  · ((repeat' (refine And.intro ?_ ?_)) <;> first | rfl | exact True.intro | omega)
  intro i hi
  ((conv=>whnf);repeat(refine And.intro (by omega) ?_;(conv=>whnf)))
  refine EvIf.split (fun g1 => ?_) (fun g1 => ?_)
  · have g2 : i < 4 := by have := of_decide_eq_true g1; omega
    have h1 := fun W => do_s i x y W g2
    have h2 := fun W => apply_s i a b W g2 ha.inF hb.inF
    have h3 : ¬ ((iopF i x y).2 = 6 ∧ (i : Int) = 3) → (iopF i x y).2 = 0 ∧ (opF i a b).2 = 0 ∧ contB (iopF i x y).1 (opF i a b).1 = true := fun hne => by
      rcases iop_small g2 hx hy s1.1 s1.2 s2.1 s2.2 with ⟨z, hz, hk, h0⟩ | ⟨h3, hz, he⟩
      · obtain ⟨c, hc, hcc⟩ := iop_sound hk hy ha hb sa sb h0 g2 ia ib
        rw [hz, hc]
        exact ⟨rfl, rfl, hcc⟩
      · exact absurd ⟨by rw [he], by omega⟩ hne
    generalize iopF i x y = r at *
    generalize opF i a b = c at *
    ((conv=>whnf);repeat(refine And.intro (by omega) ?_;(conv=>whnf)))
    refine EvCall.plain Try.call48 (ieS r) rfl (fun ρ W hp => by rw [ieS_den]; exact h1 W) ?_
    ((conv=>whnf);repeat(refine And.intro (by omega) ?_;(conv=>whnf)))
    refine EvIf.split (fun g3 => ?_) (fun g3 => ?_)
    · ((conv=>whnf);repeat(refine And.intro (by omega) ?_;(conv=>whnf)))
      refine LoopI.back (i + 1) (by show i + 1 ≤ 4; omega) (by show 4 - (i + 1) < 4 - i; omega) (Sub.of [] [] rfl ?_)
      ((repeat' (refine And.intro ?_ ?_)) <;> first | rfl | exact True.intro | omega)
    obtain ⟨e1, e2, e3⟩ := h3 (fun h => by simp [h.1, h.2] at g3)
    obtain ⟨cc, hcc⟩ : ∃ z, contB r.1 c.1 = z := ⟨_, rfl⟩
    rw [hcc] at e3
    ((conv=>whnf);repeat(refine And.intro (by omega) ?_;(conv=>whnf)))
    refine EvCall.plain Try.call50 (feS c) rfl (fun ρ W hp => by rw [feS_den]; exact h2 W) ?_
    ((conv=>whnf);repeat(refine And.intro (by omega) ?_;(conv=>whnf)))
    refine EvCallC.plain Try.call31 (.v (.bool cc)) rfl (fun _ ρ W hp => by rw [← hcc]; exact cont_s r.1 c.1 W) ?_
    ((conv=>whnf);repeat(refine And.intro (by omega) ?_;(conv=>whnf)))
    refine EvIf.neg (by simp [e1, e2, e3]) ?_
    ((conv=>whnf);repeat(refine And.intro (by omega) ?_;(conv=>whnf)))
    refine LoopI.back (i + 1) (by show i + 1 ≤ 4; omega) (by show 4 - (i + 1) < 4 - i; omega) (Sub.of [] [] rfl ?_)
    ((repeat' (refine And.intro ?_ ?_)) <;> first | rfl | exact True.intro | omega)
  · ((conv=>whnf);repeat(refine And.intro (by omega) ?_;(conv=>whnf)))
    refine EvCall.rows (R := rF) (ty := 25) (xs := s) Try.call32 (fun ρ W hp => by
      rw [← hs]
      exact sorted4_s _ [a, b] W (hp.lit (R := rF) (ys := [a, b]) (n := 5) rfl (by decide) (by simp) (by omega) rfl) (by simp) (all2 ha hb)) (fun cc hq1 hq2 => ?_)
    ((conv=>whnf);repeat(refine And.intro (by omega) ?_;(conv=>whnf)))
    (refine EvDraw.one (.q 0 (.q 1 (.q 3 (.q 4 (.q 5 (.n 2 false (.n 6 false (.q 7 (.q 8 (.q 9 (.q 11 (.q 12 (.q 13 (.n 10 false (.n 14 false (.q 15 (.q 16 (.n 17 false (.q 18 (.q 19 (.z))) (.e)))) (.e)) (.e)))))))) (.e)) (.e))))))) (by kernel_rfl) ?_)
    ((conv=>whnf);(repeat(refine And.intro ?_ ?_;(focus((first|omega|exact⟨rfl,True.intro⟩|exact⟨rfl,rfl,True.intro⟩|rfl|(simp only[List.length_set];first|omega|(refine⟨?_,?_⟩<;>omega)|(refine⟨?_,?_,?_⟩<;>omega))|(intro hg;(try simp only[bB]at hg);first|omega|(refine⟨?_,?_⟩<;>omega)|(refine⟨?_,?_,?_⟩<;>first|omega|(show _<_;(try simp only[List.length_set]);omega)|exact leT rfl))|(refine⟨?_,?_⟩<;>omega)|(refine⟨?_,?_,?_⟩<;>first|omega|(show _<_;(try simp only[List.length_set]);omega)|exact leT rfl)|(simp only[show rI.d=(0:Int)from rfl];omega));done));(conv=>whnf))))
    refine EvCall.plain Try.call35 (.a (iS mi)) rfl (fun ρ W hp => by rw [iS_den, ← hmi]; exact imin_s x y W) ?_
    ((conv=>whnf);repeat(refine And.intro (by omega) ?_;(conv=>whnf)))
    refine EvCall.plain Try.call31 (.v (.bool true)) rfl (fun ρ W hp => by rw [← m1]; exact cont_s mi (s.getD 0 fr0) W) ?_
    ((conv=>whnf);(repeat(refine And.intro ?_ ?_;(focus((first|omega|exact⟨rfl,True.intro⟩|exact⟨rfl,rfl,True.intro⟩|rfl|(simp only[List.length_set];first|omega|(refine⟨?_,?_⟩<;>omega)|(refine⟨?_,?_,?_⟩<;>omega))|(intro hg;(try simp only[bB]at hg);first|omega|(refine⟨?_,?_⟩<;>omega)|(refine⟨?_,?_,?_⟩<;>first|omega|(show _<_;(try simp only[List.length_set]);omega)|exact leT rfl))|(refine⟨?_,?_⟩<;>omega)|(refine⟨?_,?_,?_⟩<;>first|omega|(show _<_;(try simp only[List.length_set]);omega)|exact leT rfl)|(simp only[show rI.d=(0:Int)from rfl];omega));done));(conv=>whnf))))
    refine EvCallC.plain Try.call37 (.a (iS ma)) rfl (fun _ ρ W hp => by rw [iS_den, ← hma]; exact imax_s x y W) ?_
    ((conv=>whnf);repeat(refine And.intro (by omega) ?_;(conv=>whnf)))
    refine EvCallC.plain Try.call31 (.v (.bool true)) rfl (fun _ ρ W hp => by rw [← m2]; exact cont_s ma (s.getD 1 fr0) W) ?_
    ((conv=>whnf);repeat(refine And.intro (by omega) ?_;(conv=>whnf)))
    refine EvCallC.plain Try.call16 (.v (.bool true)) rfl (fun _ ρ W hp => lives_s W) ?_
    ((conv=>whnf);repeat(refine And.intro (by omega) ?_;(conv=>whnf)))
    exact ret_bool rfl
theorem walk_IntervalSound (w : World) (l : List Int) (hl : l.length = 6 ∧ ∀ z ∈ l, I64 z) : Calls Try.prog 11 #[.agg (l.map (fun z => Value.int .i64 z)).toArray] w fun e w' => e = .returned (.bool true) ∧ Below w.heap.size w w' := by
  obtain ⟨h1, h2⟩ := hl
  match l, h1 with
  | [a, b, c, d, e, f], _ => exact (intervalsound_s a b c d e f w (h2 a (by simp)) (h2 b (by simp)) (h2 c (by simp)) (h2 d (by simp)) (h2 e (by simp)) (h2 f (by simp))).out
set_option maxRecDepth 10000 in
theorem intervalmonotone_s (l0 l1 l2 l3 l4 l5 l6 l7 : Int) (w : World) (i0 : I64 l0) (i1 : I64 l1) (i2 : I64 l2) (i3 : I64 l3) (i4 : I64 l4) (i5 : I64 l5) (i6 : I64 l6) (i7 : I64 l7) : Con Try.prog 12 #[.agg #[.int .i64 l0, .int .i64 l1, .int .i64 l2, .int .i64 l3, .int .i64 l4, .int .i64 l5, .int .i64 l6, .int .i64 l7]] w (Ret w (.bool true)) := by
  unfold I64 at i0 i1 i2 i3 i4 i5 i6 i7
  obtain ⟨D, hD, hL⟩ := ismF_lv l0 l1
  obtain ⟨E, hE, hM⟩ := ismF_lv l2 l3
  have hx := hL.v
  have hy := hM.v
  have s1 := hL.sm (by omega)
  have s2 := hM.sm (by omega)
  have cx := small4_s l0 l1
  have cy := small4_s l2 l3
  obtain ⟨hu, p1, p2⟩ := partF_in l4 l5 hL (by omega)
  obtain ⟨hv, p3, p4⟩ := partF_in l6 l7 hM (by omega)
  have s3 := (partF_lv l4 l5 hL (by omega)).sm (by omega)
  have s4 := (partF_lv l6 l7 hM (by omega)).sm (by omega)
  have cu := fun W => part_s (ismF l0 l1) l4 l5 D W i4 i5 hL (by omega)
  have cv := fun W => part_s (ismF l2 l3) l6 l7 E W i6 i7 hM (by omega)
  have tu : Pt (partF (ismF l0 l1) l4 l5) (ismF l0 l1) := ⟨(cmp_qv hx.1 hu.1).1 p1, (cmp_qv hu.2.1 hx.2.1).1 p2⟩
  have tv : Pt (partF (ismF l2 l3) l6 l7) (ismF l2 l3) := ⟨(cmp_qv hy.1 hv.1).1 p3, (cmp_qv hv.2.1 hy.2.1).1 p4⟩
  obtain ⟨m1, m2, m3⟩ := lattice_mono hx hy hu hv tu tv
  clear hL hM p1 p2 p3 p4
  generalize partF (ismF l0 l1) l4 l5 = u at *
  generalize partF (ismF l2 l3) l6 l7 = v at *
  generalize ismF l0 l1 = x at *
  generalize ismF l2 l3 = y at *
  obtain ⟨mi, hmi⟩ : ∃ z, iminF x y = z := ⟨_, rfl⟩
  obtain ⟨ma, hma⟩ : ∃ z, imaxF x y = z := ⟨_, rfl⟩
  obtain ⟨mh, hmh⟩ : ∃ z, ihullF x y = z := ⟨_, rfl⟩
  obtain ⟨ni, hni⟩ : ∃ z, iminF u v = z := ⟨_, rfl⟩
  obtain ⟨na, hna⟩ : ∃ z, imaxF u v = z := ⟨_, rfl⟩
  obtain ⟨nh, hnh⟩ : ∃ z, ihullF u v = z := ⟨_, rfl⟩
  rw [hmi, hni] at m1
  rw [hma, hna] at m2
  rw [hmh, hnh] at m3
  refine enter tabOk mixed Try.func12 rfl Try.ntmps12 Try.results12 [.a [.v (.int .i64 l0), .v (.int .i64 l1), .v (.int .i64 l2), .v (.int .i64 l3), .v (.int .i64 l4), .v (.int .i64 l5), .v (.int .i64 l6), .v (.int .i64 l7)]] (fun _ => none) [] 0 rfl rfl (hp0 _ _ _) ?_
  ((conv=>whnf);repeat(refine And.intro (by omega) ?_;(conv=>whnf)))
  refine EvCall.plain Try.call17 (.a (iS x)) rfl (fun ρ W hp => by rw [iS_den]; exact cx W i0 i1) ?_
  ((conv=>whnf);repeat(refine And.intro (by omega) ?_;(conv=>whnf)))
  refine EvCall.plain Try.call17 (.a (iS y)) rfl (fun ρ W hp => by rw [iS_den]; exact cy W i2 i3) ?_
  ((conv=>whnf);repeat(refine And.intro (by omega) ?_;(conv=>whnf)))
  refine EvCall.plain Try.call18 (.a (iS u)) rfl (fun ρ W hp => by rw [iS_den]; exact cu W) ?_
  ((conv=>whnf);repeat(refine And.intro (by omega) ?_;(conv=>whnf)))
  refine EvCall.plain Try.call18 (.a (iS v)) rfl (fun ρ W hp => by rw [iS_den]; exact cv W) ?_
  ((conv=>whnf);repeat(refine And.intro (by omega) ?_;(conv=>whnf)))
  refine EvLoop.inv (α := Nat) (fun i => i ≤ 4) (fun i => 4 - i) (fun i => [(2, [], .v (.bool (false))), (3, [], .p 1 0), (4, [], .p 2 0), (5, [], .p 3 0), (6, [], .p 4 0), (7, [], .v (.int .i64 ((i : Int))))])
    (fun i => [⟨1, true, 27, 4, 1, .cs (iS x)⟩, ⟨2, true, 27, 4, 1, .cs (iS y)⟩, ⟨3, true, 27, 4, 1, .cs (iS u)⟩, ⟨4, true, 27, 4, 1, .cs (iS v)⟩]) 5 0 (by omega) (Sub.of [] [] rfl ?_) ?_
  · ((repeat' (refine And.intro ?_ ?_)) <;> first | rfl | exact True.intro | omega)
  intro i hi
  ((conv=>whnf);repeat(refine And.intro (by omega) ?_;(conv=>whnf)))
  refine EvIf.split (fun g1 => ?_) (fun g1 => ?_)
  · have g2 : i < 4 := by have := of_decide_eq_true g1; omega
    have h1 := fun W => do_s i x y W g2
    have h2 := fun W => do_s i u v W g2
    have h3 : (iopF i x y).2 = 0 → (iopF i u v).2 = 0 ∧ withB (iopF i u v).1 (iopF i x y).1 = true := fun he => by
      rcases iop_small g2 hx hy s1.1 s1.2 s2.1 s2.2 with ⟨z, hz, hk, h0⟩ | ⟨h3, hz, he2⟩
      · have h0v : i = 3 → Nz v := fun h => (h0 h).part hy hv tv
        rcases iop_small g2 hu hv s3.1 s3.2 s4.1 s4.2 with ⟨z', hz', hk', h0'⟩ | ⟨h3', hz', he2'⟩
        · rw [hz, hz']
          exact ⟨rfl, iop_mono hk hk' hu hv tu tv (fun h => h0v (by omega))⟩
        · exact absurd (h0v h3') hz'
      · rw [he2] at he
        exact absurd he (by decide)
    generalize iopF i x y = r at *
    generalize iopF i u v = q at *
    obtain ⟨wb, hwb⟩ : ∃ z, withB q.1 r.1 = z := ⟨_, rfl⟩
    rw [hwb] at h3
    ((conv=>whnf);repeat(refine And.intro (by omega) ?_;(conv=>whnf)))
    refine EvCall.plain Try.call48 (ieS r) rfl (fun ρ W hp => by rw [ieS_den]; exact h1 W) ?_
    ((conv=>whnf);repeat(refine And.intro (by omega) ?_;(conv=>whnf)))
    refine EvCall.plain Try.call48 (ieS q) rfl (fun ρ W hp => by rw [ieS_den]; exact h2 W) ?_
    ((conv=>whnf);repeat(refine And.intro (by omega) ?_;(conv=>whnf)))
    refine EvCallC.plain Try.call41 (.v (.bool wb)) rfl (fun _ ρ W hp => by rw [← hwb]; exact with_s q.1 r.1 W) ?_
    ((conv=>whnf);repeat(refine And.intro (by omega) ?_;(conv=>whnf)))
    refine EvIf.neg ?_ ?_
    · by_cases h4 : r.2 = 0
      · obtain ⟨h5, h6⟩ := h3 h4
        simp [h4, h5, h6]
      · simp [h4]
    ((conv=>whnf);repeat(refine And.intro (by omega) ?_;(conv=>whnf)))
    refine LoopI.back (i + 1) (by show i + 1 ≤ 4; omega) (by show 4 - (i + 1) < 4 - i; omega) (Sub.of [] [] rfl ?_)
    ((repeat' (refine And.intro ?_ ?_)) <;> first | rfl | exact True.intro | omega)
  · ((conv=>whnf);repeat(refine And.intro (by omega) ?_;(conv=>whnf)))
    (refine EvDraw.one (.q 0 (.q 1 (.q 3 (.q 4 (.n 2 false (.n 5 false (.n 6 false (.q 7 (.q 8 (.q 9 (.q 11 (.q 12 (.n 10 false (.n 13 false (.n 14 false (.q 15 (.q 16 (.q 17 (.q 18 (.q 20 (.q 21 (.n 19 false (.n 22 false (.n 23 false (.q 24 (.q 25 (.n 26 false (.q 27 (.q 28 (.z))) (.e)))) (.e)) (.e)) (.e)))))))) (.e)) (.e)) (.e))))))) (.e)) (.e)) (.e)))))) (by kernel_rfl) ?_)
    ((conv=>whnf);repeat(refine And.intro (by omega) ?_;(conv=>whnf)))
    refine EvCall.plain Try.call35 (.a (iS ni)) rfl (fun ρ W hp => by rw [iS_den, ← hni]; exact imin_s u v W) ?_
    ((conv=>whnf);repeat(refine And.intro (by omega) ?_;(conv=>whnf)))
    refine EvCall.plain Try.call35 (.a (iS mi)) rfl (fun ρ W hp => by rw [iS_den, ← hmi]; exact imin_s x y W) ?_
    ((conv=>whnf);repeat(refine And.intro (by omega) ?_;(conv=>whnf)))
    refine EvCall.plain Try.call41 (.v (.bool true)) rfl (fun ρ W hp => by rw [← m1]; exact with_s ni mi W) ?_
    ((conv=>whnf);repeat(refine And.intro (by omega) ?_;(conv=>whnf)))
    refine EvCallC.plain Try.call37 (.a (iS na)) rfl (fun _ ρ W hp => by rw [iS_den, ← hna]; exact imax_s u v W) ?_
    ((conv=>whnf);repeat(refine And.intro (by omega) ?_;(conv=>whnf)))
    refine EvCallC.plain Try.call37 (.a (iS ma)) rfl (fun _ ρ W hp => by rw [iS_den, ← hma]; exact imax_s x y W) ?_
    ((conv=>whnf);repeat(refine And.intro (by omega) ?_;(conv=>whnf)))
    refine EvCallC.plain Try.call41 (.v (.bool true)) rfl (fun _ ρ W hp => by rw [← m2]; exact with_s na ma W) ?_
    ((conv=>whnf);repeat(refine And.intro (by omega) ?_;(conv=>whnf)))
    refine EvCallC.plain Try.call39 (.a (iS nh)) rfl (fun _ ρ W hp => by rw [iS_den, ← hnh]; exact ihull_s u v W) ?_
    ((conv=>whnf);repeat(refine And.intro (by omega) ?_;(conv=>whnf)))
    refine EvCallC.plain Try.call39 (.a (iS mh)) rfl (fun _ ρ W hp => by rw [iS_den, ← hmh]; exact ihull_s x y W) ?_
    ((conv=>whnf);repeat(refine And.intro (by omega) ?_;(conv=>whnf)))
    refine EvCallC.plain Try.call41 (.v (.bool true)) rfl (fun _ ρ W hp => by rw [← m3]; exact with_s nh mh W) ?_
    ((conv=>whnf);repeat(refine And.intro (by omega) ?_;(conv=>whnf)))
    refine EvCallC.plain Try.call16 (.v (.bool true)) rfl (fun _ ρ W hp => lives_s W) ?_
    ((conv=>whnf);repeat(refine And.intro (by omega) ?_;(conv=>whnf)))
    exact ret_bool rfl
theorem walk_IntervalMonotone (w : World) (l : List Int) (hl : l.length = 8 ∧ ∀ z ∈ l, I64 z) : Calls Try.prog 12 #[.agg (l.map (fun z => Value.int .i64 z)).toArray] w fun e w' => e = .returned (.bool true) ∧ Below w.heap.size w w' := by
  obtain ⟨h1, h2⟩ := hl
  match l, h1 with
  | [a, b, c, d, e, f, g, h], _ => exact (intervalmonotone_s a b c d e f g h w (h2 a (by simp)) (h2 b (by simp)) (h2 c (by simp)) (h2 d (by simp)) (h2 e (by simp)) (h2 f (by simp)) (h2 g (by simp)) (h2 h (by simp))).out
end Go.Proofs.Ythknflclfmnciaa
