
/- The law IntervalNarrows, walked. -/
import Derived.Test.YthknflclfmnciaaVd
namespace Go.Proofs.Ythknflclfmnciaa
open Go.RowKit
set_option linter.unusedVariables false
set_option linter.unusedSimpArgs false

theorem narrows_plain {x u : Iv} {a c : Fq} (hx : vI x) (hu : vI u) (ha : vF a) (hc : vF c) (h1 : cmpF x.lo u.lo ≤ 0) (h2 : cmpF u.hi x.hi ≤ 0) (h3 : cmpF u.lo a ≤ 0) (h4 : cmpF a u.hi ≤ 0) :
    ((atLF x c ≠ 1 → atLF u c = atLF x c) ∧ (atLF u c = 2 → ¬ cmpF a c < 0) ∧ (atLF u c = 0 → ¬ 0 ≤ cmpF a c)) ∧
    ((atMF x c ≠ 1 → atMF u c = atMF x c) ∧ (atMF u c = 2 → ¬ 0 < cmpF a c) ∧ (atMF u c = 0 → ¬ cmpF a c ≤ 0)) := by
  have bx : ¬ (ivB x && vB c) = false := by rw [(ivB_iff x).2 hx, (vB_iff c).2 hc]; simp
  have bu : ¬ (ivB u && vB c) = false := by rw [(ivB_iff u).2 hu, (vB_iff c).2 hc]; simp
  unfold atLF atMF
  rw [if_neg bx, if_neg bu, if_neg bx, if_neg bu]
  have t1 : 0 ≤ cmpF x.lo c → 0 ≤ cmpF u.lo c := fun h => by
    have := cmpF_trans hc hx.1 hu.1 (by rw [cmpF_anti x.lo c]; omega) h1
    rw [cmpF_anti u.lo c] at this; omega
  have t2 : 0 ≤ cmpF u.hi c → 0 ≤ cmpF x.hi c := fun h => by
    have := cmpF_trans hc hu.2.1 hx.2.1 (by rw [cmpF_anti u.hi c]; omega) h2
    rw [cmpF_anti x.hi c] at this; omega
  have t3 : 0 ≤ cmpF u.lo c → 0 ≤ cmpF u.hi c := fun h => by
    have := cmpF_trans hc hu.1 hu.2.1 (by rw [cmpF_anti u.lo c]; omega) hu.2.2
    rw [cmpF_anti u.hi c] at this; omega
  have t4 : 0 ≤ cmpF u.lo c → 0 ≤ cmpF a c := fun h => by
    have := cmpF_trans hc hu.1 ha (by rw [cmpF_anti u.lo c]; omega) h3
    rw [cmpF_anti a c] at this; omega
  have t5 : 0 ≤ cmpF a c → 0 ≤ cmpF u.hi c := fun h => by
    have := cmpF_trans hc ha hu.2.1 (by rw [cmpF_anti a c]; omega) h4
    rw [cmpF_anti u.hi c] at this; omega
  have s1 : cmpF x.hi c ≤ 0 → cmpF u.hi c ≤ 0 := fun h => cmpF_trans hu.2.1 hx.2.1 hc h2 h
  have s2 : cmpF u.lo c ≤ 0 → cmpF x.lo c ≤ 0 := fun h => cmpF_trans hx.1 hu.1 hc h1 h
  have s3 : cmpF u.hi c ≤ 0 → cmpF u.lo c ≤ 0 := fun h => cmpF_trans hu.1 hu.2.1 hc hu.2.2 h
  have s4 : cmpF u.hi c ≤ 0 → cmpF a c ≤ 0 := fun h => cmpF_trans ha hu.2.1 hc h4 h
  have s5 : cmpF a c ≤ 0 → cmpF u.lo c ≤ 0 := fun h => cmpF_trans hu.1 ha hc h3 h
  generalize cmpF x.lo c = A at *
  generalize cmpF x.hi c = B at *
  generalize cmpF u.lo c = C at *
  generalize cmpF u.hi c = E at *
  generalize cmpF a c = F at *
  clear h1 h2 h3 h4 bx bu
  constructor <;> refine ⟨?_, ?_, ?_⟩ <;> (repeat' split) <;> omega
set_option maxRecDepth 10000 in
theorem intervalnarrows_s (l0 l1 l2 l3 l4 l5 : Int) (w : World) (i0 : I64 l0) (i1 : I64 l1) (i2 : I64 l2) (i3 : I64 l3) (i4 : I64 l4) (i5 : I64 l5) : Con Try.prog 4 #[.agg #[.int .i64 l0, .int .i64 l1, .int .i64 l2, .int .i64 l3, .int .i64 l4, .int .i64 l5]] w (Ret w (.bool true)) := by
  unfold I64 at i0 i1 i2 i3 i4 i5
  obtain ⟨D, hD, hL⟩ := ismF_lv l0 l1
  have hx := hL.v
  have hLu := partF_lv l2 l3 hL (by omega)
  obtain ⟨hu, p1, p2⟩ := partF_in l2 l3 hL (by omega)
  obtain ⟨ha, p3, p4⟩ := innF_in l4 hLu (by omega)
  have hc := smlF_v l5
  have cx := small4_s l0 l1
  have cu := fun W => part_s (ismF l0 l1) l2 l3 D W i2 i3 hL (by omega)
  have ca' := fun W => inner_s (partF (ismF l0 l1) l2 l3) l4 (D * 8) W i4 hLu (by omega)
  have cc := small3_s l5
  obtain ⟨⟨n1, n2, n3⟩, n4, n5, n6⟩ := narrows_plain hx hu ha hc p1 p2 p3 p4
  clear hL hLu
  generalize innF (partF (ismF l0 l1) l2 l3) l4 = a at *
  generalize partF (ismF l0 l1) l2 l3 = u at *
  generalize ismF l0 l1 = x at *
  generalize smlF l5 = c at *
  obtain ⟨ca, hca⟩ : ∃ z, cmpF a c = z := ⟨_, rfl⟩
  rw [hca] at n2 n3 n5 n6
  refine enter tabOk mixed Try.func4 rfl Try.ntmps4 Try.results4 [.a [.v (.int .i64 l0), .v (.int .i64 l1), .v (.int .i64 l2), .v (.int .i64 l3), .v (.int .i64 l4), .v (.int .i64 l5)]] (fun _ => none) [] 0 rfl rfl (hp0 _ _ _) ?_
  ((conv=>whnf);(repeat(refine And.intro ?_ ?_;(focus((first|omega|exact⟨rfl,True.intro⟩|exact⟨rfl,rfl,True.intro⟩|rfl|(simp only[List.length_set];first|omega|(refine⟨?_,?_⟩<;>omega)|(refine⟨?_,?_,?_⟩<;>omega))|(intro hg;(try simp only[bB]at hg);first|omega|(refine⟨?_,?_⟩<;>omega)|(refine⟨?_,?_,?_⟩<;>first|omega|(show _<_;(try simp only[List.length_set]);omega)|exact leT rfl))|(refine⟨?_,?_⟩<;>omega)|(refine⟨?_,?_,?_⟩<;>first|omega|(show _<_;(try simp only[List.length_set]);omega)|exact leT rfl)|(simp only[show rI.d=(0:Int)from rfl];omega));done));(conv=>whnf))))
  refine EvCall.plain Try.call17 (.a (iS x)) rfl (fun ρ W hp => by rw [iS_den]; exact cx W i0 i1) ?_
  ((conv=>whnf);(repeat(refine And.intro ?_ ?_;(focus((first|omega|exact⟨rfl,True.intro⟩|exact⟨rfl,rfl,True.intro⟩|rfl|(simp only[List.length_set];first|omega|(refine⟨?_,?_⟩<;>omega)|(refine⟨?_,?_,?_⟩<;>omega))|(intro hg;(try simp only[bB]at hg);first|omega|(refine⟨?_,?_⟩<;>omega)|(refine⟨?_,?_,?_⟩<;>first|omega|(show _<_;(try simp only[List.length_set]);omega)|exact leT rfl))|(refine⟨?_,?_⟩<;>omega)|(refine⟨?_,?_,?_⟩<;>first|omega|(show _<_;(try simp only[List.length_set]);omega)|exact leT rfl)|(simp only[show rI.d=(0:Int)from rfl];omega));done));(conv=>whnf))))
  refine EvCall.plain Try.call18 (.a (iS u)) rfl (fun ρ W hp => by rw [iS_den]; exact cu W) ?_
  ((conv=>whnf);(repeat(refine And.intro ?_ ?_;(focus((first|omega|exact⟨rfl,True.intro⟩|exact⟨rfl,rfl,True.intro⟩|rfl|(simp only[List.length_set];first|omega|(refine⟨?_,?_⟩<;>omega)|(refine⟨?_,?_,?_⟩<;>omega))|(intro hg;(try simp only[bB]at hg);first|omega|(refine⟨?_,?_⟩<;>omega)|(refine⟨?_,?_,?_⟩<;>first|omega|(show _<_;(try simp only[List.length_set]);omega)|exact leT rfl))|(refine⟨?_,?_⟩<;>omega)|(refine⟨?_,?_,?_⟩<;>first|omega|(show _<_;(try simp only[List.length_set]);omega)|exact leT rfl)|(simp only[show rI.d=(0:Int)from rfl];omega));done));(conv=>whnf))))
  refine EvCall.plain Try.call19 (.a (fS a)) rfl (fun ρ W hp => by rw [fS_den]; exact ca' W) ?_
  ((conv=>whnf);(repeat(refine And.intro ?_ ?_;(focus((first|omega|exact⟨rfl,True.intro⟩|exact⟨rfl,rfl,True.intro⟩|rfl|(simp only[List.length_set];first|omega|(refine⟨?_,?_⟩<;>omega)|(refine⟨?_,?_,?_⟩<;>omega))|(intro hg;(try simp only[bB]at hg);first|omega|(refine⟨?_,?_⟩<;>omega)|(refine⟨?_,?_,?_⟩<;>first|omega|(show _<_;(try simp only[List.length_set]);omega)|exact leT rfl))|(refine⟨?_,?_⟩<;>omega)|(refine⟨?_,?_,?_⟩<;>first|omega|(show _<_;(try simp only[List.length_set]);omega)|exact leT rfl)|(simp only[show rI.d=(0:Int)from rfl];omega));done));(conv=>whnf))))
  refine EvCall.plain Try.call20 (.a (fS c)) rfl (fun ρ W hp => by rw [fS_den]; exact cc W i5) ?_
  ((conv=>whnf);(repeat(refine And.intro ?_ ?_;(focus((first|omega|exact⟨rfl,True.intro⟩|exact⟨rfl,rfl,True.intro⟩|rfl|(simp only[List.length_set];first|omega|(refine⟨?_,?_⟩<;>omega)|(refine⟨?_,?_,?_⟩<;>omega))|(intro hg;(try simp only[bB]at hg);first|omega|(refine⟨?_,?_⟩<;>omega)|(refine⟨?_,?_,?_⟩<;>first|omega|(show _<_;(try simp only[List.length_set]);omega)|exact leT rfl))|(refine⟨?_,?_⟩<;>omega)|(refine⟨?_,?_,?_⟩<;>first|omega|(show _<_;(try simp only[List.length_set]);omega)|exact leT rfl)|(simp only[show rI.d=(0:Int)from rfl];omega));done));(conv=>whnf))))
  obtain ⟨wd, hwd⟩ : ∃ z, atLF x c = z := ⟨_, rfl⟩
  obtain ⟨nr, hnr⟩ : ∃ z, atLF u c = z := ⟨_, rfl⟩
  rw [hwd, hnr] at n1
  rw [hnr] at n2 n3
  refine EvCall.plain Try.call21 (.v (.int .i64 wd)) rfl (fun ρ W hp => by have := atleast_s x c W; rw [hwd] at this; exact this) ?_
  ((conv=>whnf);(repeat(refine And.intro ?_ ?_;(focus((first|omega|exact⟨rfl,True.intro⟩|exact⟨rfl,rfl,True.intro⟩|rfl|(simp only[List.length_set];first|omega|(refine⟨?_,?_⟩<;>omega)|(refine⟨?_,?_,?_⟩<;>omega))|(intro hg;(try simp only[bB]at hg);first|omega|(refine⟨?_,?_⟩<;>omega)|(refine⟨?_,?_,?_⟩<;>first|omega|(show _<_;(try simp only[List.length_set]);omega)|exact leT rfl))|(refine⟨?_,?_⟩<;>omega)|(refine⟨?_,?_,?_⟩<;>first|omega|(show _<_;(try simp only[List.length_set]);omega)|exact leT rfl)|(simp only[show rI.d=(0:Int)from rfl];omega));done));(conv=>whnf))))
  refine EvCall.plain Try.call21 (.v (.int .i64 nr)) rfl (fun ρ W hp => by have := atleast_s u c W; rw [hnr] at this; exact this) ?_
  ((conv=>whnf);(repeat(refine And.intro ?_ ?_;(focus((first|omega|exact⟨rfl,True.intro⟩|exact⟨rfl,rfl,True.intro⟩|rfl|(simp only[List.length_set];first|omega|(refine⟨?_,?_⟩<;>omega)|(refine⟨?_,?_,?_⟩<;>omega))|(intro hg;(try simp only[bB]at hg);first|omega|(refine⟨?_,?_⟩<;>omega)|(refine⟨?_,?_,?_⟩<;>first|omega|(show _<_;(try simp only[List.length_set]);omega)|exact leT rfl))|(refine⟨?_,?_⟩<;>omega)|(refine⟨?_,?_,?_⟩<;>first|omega|(show _<_;(try simp only[List.length_set]);omega)|exact leT rfl)|(simp only[show rI.d=(0:Int)from rfl];omega));done));(conv=>whnf))))
  refine EvCallC.plain Try.call22 (.v (.int .i64 ca)) rfl (fun _ ρ W hp => by have := compare_s a c W; rw [hca] at this; exact this) ?_
  ((conv=>whnf);(repeat(refine And.intro ?_ ?_;(focus((first|omega|exact⟨rfl,True.intro⟩|exact⟨rfl,rfl,True.intro⟩|rfl|(simp only[List.length_set];first|omega|(refine⟨?_,?_⟩<;>omega)|(refine⟨?_,?_,?_⟩<;>omega))|(intro hg;(try simp only[bB]at hg);first|omega|(refine⟨?_,?_⟩<;>omega)|(refine⟨?_,?_,?_⟩<;>first|omega|(show _<_;(try simp only[List.length_set]);omega)|exact leT rfl))|(refine⟨?_,?_⟩<;>omega)|(refine⟨?_,?_,?_⟩<;>first|omega|(show _<_;(try simp only[List.length_set]);omega)|exact leT rfl)|(simp only[show rI.d=(0:Int)from rfl];omega));done));(conv=>whnf))))
  refine EvCallC.plain Try.call22 (.v (.int .i64 ca)) rfl (fun _ ρ W hp => by have := compare_s a c W; rw [hca] at this; exact this) ?_
  ((conv=>whnf);(repeat(refine And.intro ?_ ?_;(focus((first|omega|exact⟨rfl,True.intro⟩|exact⟨rfl,rfl,True.intro⟩|rfl|(simp only[List.length_set];first|omega|(refine⟨?_,?_⟩<;>omega)|(refine⟨?_,?_,?_⟩<;>omega))|(intro hg;(try simp only[bB]at hg);first|omega|(refine⟨?_,?_⟩<;>omega)|(refine⟨?_,?_,?_⟩<;>first|omega|(show _<_;(try simp only[List.length_set]);omega)|exact leT rfl))|(refine⟨?_,?_⟩<;>omega)|(refine⟨?_,?_,?_⟩<;>first|omega|(show _<_;(try simp only[List.length_set]);omega)|exact leT rfl)|(simp only[show rI.d=(0:Int)from rfl];omega));done));(conv=>whnf))))
  refine EvIf.neg (by simp; omega) ?_
  ((conv=>whnf);(repeat(refine And.intro ?_ ?_;(focus((first|omega|exact⟨rfl,True.intro⟩|exact⟨rfl,rfl,True.intro⟩|rfl|(simp only[List.length_set];first|omega|(refine⟨?_,?_⟩<;>omega)|(refine⟨?_,?_,?_⟩<;>omega))|(intro hg;(try simp only[bB]at hg);first|omega|(refine⟨?_,?_⟩<;>omega)|(refine⟨?_,?_,?_⟩<;>first|omega|(show _<_;(try simp only[List.length_set]);omega)|exact leT rfl))|(refine⟨?_,?_⟩<;>omega)|(refine⟨?_,?_,?_⟩<;>first|omega|(show _<_;(try simp only[List.length_set]);omega)|exact leT rfl)|(simp only[show rI.d=(0:Int)from rfl];omega));done));(conv=>whnf))))
  clear n1 n2 n3 hwd hnr
  obtain ⟨wd, hwd⟩ : ∃ z, atMF x c = z := ⟨_, rfl⟩
  obtain ⟨nr, hnr⟩ : ∃ z, atMF u c = z := ⟨_, rfl⟩
  rw [hwd, hnr] at n4
  rw [hnr] at n5 n6
  refine EvCall.plain Try.call23 (.v (.int .i64 wd)) rfl (fun ρ W hp => by have := atmost_s x c W; rw [hwd] at this; exact this) ?_
  ((conv=>whnf);(repeat(refine And.intro ?_ ?_;(focus((first|omega|exact⟨rfl,True.intro⟩|exact⟨rfl,rfl,True.intro⟩|rfl|(simp only[List.length_set];first|omega|(refine⟨?_,?_⟩<;>omega)|(refine⟨?_,?_,?_⟩<;>omega))|(intro hg;(try simp only[bB]at hg);first|omega|(refine⟨?_,?_⟩<;>omega)|(refine⟨?_,?_,?_⟩<;>first|omega|(show _<_;(try simp only[List.length_set]);omega)|exact leT rfl))|(refine⟨?_,?_⟩<;>omega)|(refine⟨?_,?_,?_⟩<;>first|omega|(show _<_;(try simp only[List.length_set]);omega)|exact leT rfl)|(simp only[show rI.d=(0:Int)from rfl];omega));done));(conv=>whnf))))
  refine EvCall.plain Try.call23 (.v (.int .i64 nr)) rfl (fun ρ W hp => by have := atmost_s u c W; rw [hnr] at this; exact this) ?_
  ((conv=>whnf);(repeat(refine And.intro ?_ ?_;(focus((first|omega|exact⟨rfl,True.intro⟩|exact⟨rfl,rfl,True.intro⟩|rfl|(simp only[List.length_set];first|omega|(refine⟨?_,?_⟩<;>omega)|(refine⟨?_,?_,?_⟩<;>omega))|(intro hg;(try simp only[bB]at hg);first|omega|(refine⟨?_,?_⟩<;>omega)|(refine⟨?_,?_,?_⟩<;>first|omega|(show _<_;(try simp only[List.length_set]);omega)|exact leT rfl))|(refine⟨?_,?_⟩<;>omega)|(refine⟨?_,?_,?_⟩<;>first|omega|(show _<_;(try simp only[List.length_set]);omega)|exact leT rfl)|(simp only[show rI.d=(0:Int)from rfl];omega));done));(conv=>whnf))))
  refine EvCallC.plain Try.call22 (.v (.int .i64 ca)) rfl (fun _ ρ W hp => by have := compare_s a c W; rw [hca] at this; exact this) ?_
  ((conv=>whnf);(repeat(refine And.intro ?_ ?_;(focus((first|omega|exact⟨rfl,True.intro⟩|exact⟨rfl,rfl,True.intro⟩|rfl|(simp only[List.length_set];first|omega|(refine⟨?_,?_⟩<;>omega)|(refine⟨?_,?_,?_⟩<;>omega))|(intro hg;(try simp only[bB]at hg);first|omega|(refine⟨?_,?_⟩<;>omega)|(refine⟨?_,?_,?_⟩<;>first|omega|(show _<_;(try simp only[List.length_set]);omega)|exact leT rfl))|(refine⟨?_,?_⟩<;>omega)|(refine⟨?_,?_,?_⟩<;>first|omega|(show _<_;(try simp only[List.length_set]);omega)|exact leT rfl)|(simp only[show rI.d=(0:Int)from rfl];omega));done));(conv=>whnf))))
  refine EvCallC.plain Try.call22 (.v (.int .i64 ca)) rfl (fun _ ρ W hp => by have := compare_s a c W; rw [hca] at this; exact this) ?_
  ((conv=>whnf);(repeat(refine And.intro ?_ ?_;(focus((first|omega|exact⟨rfl,True.intro⟩|exact⟨rfl,rfl,True.intro⟩|rfl|(simp only[List.length_set];first|omega|(refine⟨?_,?_⟩<;>omega)|(refine⟨?_,?_,?_⟩<;>omega))|(intro hg;(try simp only[bB]at hg);first|omega|(refine⟨?_,?_⟩<;>omega)|(refine⟨?_,?_,?_⟩<;>first|omega|(show _<_;(try simp only[List.length_set]);omega)|exact leT rfl))|(refine⟨?_,?_⟩<;>omega)|(refine⟨?_,?_,?_⟩<;>first|omega|(show _<_;(try simp only[List.length_set]);omega)|exact leT rfl)|(simp only[show rI.d=(0:Int)from rfl];omega));done));(conv=>whnf))))
  refine EvIf.neg (by simp; omega) ?_
  ((conv=>whnf);(repeat(refine And.intro ?_ ?_;(focus((first|omega|exact⟨rfl,True.intro⟩|exact⟨rfl,rfl,True.intro⟩|rfl|(simp only[List.length_set];first|omega|(refine⟨?_,?_⟩<;>omega)|(refine⟨?_,?_,?_⟩<;>omega))|(intro hg;(try simp only[bB]at hg);first|omega|(refine⟨?_,?_⟩<;>omega)|(refine⟨?_,?_,?_⟩<;>first|omega|(show _<_;(try simp only[List.length_set]);omega)|exact leT rfl))|(refine⟨?_,?_⟩<;>omega)|(refine⟨?_,?_,?_⟩<;>first|omega|(show _<_;(try simp only[List.length_set]);omega)|exact leT rfl)|(simp only[show rI.d=(0:Int)from rfl];omega));done));(conv=>whnf))))
  refine EvCall.plain Try.call16 (.v (.bool true)) rfl (fun ρ W hp => lives_s W) ?_
  ((conv=>whnf);(repeat(refine And.intro ?_ ?_;(focus((first|omega|exact⟨rfl,True.intro⟩|exact⟨rfl,rfl,True.intro⟩|rfl|(simp only[List.length_set];first|omega|(refine⟨?_,?_⟩<;>omega)|(refine⟨?_,?_,?_⟩<;>omega))|(intro hg;(try simp only[bB]at hg);first|omega|(refine⟨?_,?_⟩<;>omega)|(refine⟨?_,?_,?_⟩<;>first|omega|(show _<_;(try simp only[List.length_set]);omega)|exact leT rfl))|(refine⟨?_,?_⟩<;>omega)|(refine⟨?_,?_,?_⟩<;>first|omega|(show _<_;(try simp only[List.length_set]);omega)|exact leT rfl)|(simp only[show rI.d=(0:Int)from rfl];omega));done));(conv=>whnf))))
  exact ret_bool rfl
theorem walk_IntervalNarrows (w : World) (l : List Int) (hl : l.length = 6 ∧ ∀ z ∈ l, I64 z) : Calls Try.prog 4 #[.agg (l.map (fun z => Value.int .i64 z)).toArray] w fun e w' => e = .returned (.bool true) ∧ Below w.heap.size w w' := by
  obtain ⟨h1, h2⟩ := hl
  match l, h1 with
  | [a, b, c, d, e, f], _ => exact (intervalnarrows_s a b c d e f w (h2 a (by simp)) (h2 b (by simp)) (h2 c (by simp)) (h2 d (by simp)) (h2 e (by simp)) (h2 f (by simp))).out
end Go.Proofs.Ythknflclfmnciaa
