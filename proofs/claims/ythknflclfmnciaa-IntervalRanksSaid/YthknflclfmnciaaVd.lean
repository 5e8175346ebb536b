
/- Generators of small intervals, walked. -/
import Derived.Test.YthknflclfmnciaaVc
namespace Go.Proofs.Ythknflclfmnciaa
open Go.RowKit
set_option linter.unusedVariables false
set_option linter.unusedSimpArgs false

theorem Rep.sh {a : Fq} {N D : Int} (h : Rep a N D) (h1 : N.natAbs ≤ 1073741824) (h2 : D ≤ 1073741824) : shF a := by
  have := h.le
  exact ⟨by omega, by omega⟩
theorem from2 (p q : Fq) (hp : vF p) (hq : vF q) : (⟨(sortF [p, q]).getD 0 fr0, (sortF [p, q]).getD ([p, q].length - 1) fr0⟩ : Iv) = bxF p q := by
  show (⟨(sortF [p, q]).getD 0 fr0, (sortF [p, q]).getD 1 fr0⟩ : Iv) = bxF p q
  rw [sort2_0, sort2_1 hp hq]
  rfl
def ismF (a b : Int) : Iv := bxF (smlF a) (smlF b)
theorem smlF_v (n : Int) : vF (smlF n) := by
  obtain ⟨N, D, h, _⟩ := smlF_rep n
  exact h.1
theorem ismF_lv (a b : Int) : ∃ D, D ≤ 144 ∧ Lv (ismF a b) D := by
  obtain ⟨N, D, h1, n1, d1⟩ := smlF_rep a
  obtain ⟨M, E, h2, n2, d2⟩ := smlF_rep b
  have w1 := h1.wide (k := E) (by omega)
  have w2 := h2.wide (k := D) (by omega)
  rw [Int.mul_comm E D] at w2
  refine ⟨D * E, ?_, bxF_lv w1 w2 ?_ ?_⟩
  · exact Int.le_trans (Int.mul_le_mul d1.2 d2.2 (by omega) (by omega)) (by decide)
  · have e : 0 ≤ (D * E - E) := by
      have := Int.mul_le_mul_of_nonneg_right d1.1 (show 0 ≤ E by omega)
      omega
    have k1 : N * E ≤ 50 * E := Int.mul_le_mul_of_nonneg_right n1.2 (by omega)
    have k2 : -50 * E ≤ N * E := Int.mul_le_mul_of_nonneg_right n1.1 (by omega)
    omega
  · have e : 0 ≤ (D * E - D) := by
      have := Int.mul_le_mul_of_nonneg_left d2.1 (show 0 ≤ D by omega)
      omega
    have k1 : M * D ≤ 50 * D := Int.mul_le_mul_of_nonneg_right n2.2 (by omega)
    have k2 : -50 * D ≤ M * D := Int.mul_le_mul_of_nonneg_right n2.1 (by omega)
    omega
set_option maxRecDepth 10000 in
theorem small4_s (a b : Int) (w : World) (ha : -9223372036854775808 ≤ a ∧ a ≤ 9223372036854775807) (hb : -9223372036854775808 ≤ b ∧ b ≤ 9223372036854775807) : Con Try.prog 17 #[.int .i64 a, .int .i64 b] w (Ret w (iV (ismF a b))) := by
  unfold ismF
  have vp := smlF_v a
  have vq := smlF_v b
  have sp := small3_s a
  have sq := small3_s b
  generalize smlF a = p at *
  generalize smlF b = q at *
  refine enter tabOk mixed Try.func17 rfl Try.ntmps17 Try.results17 [.v (.int .i64 a), .v (.int .i64 b)] (fun _ => none) [] 0 rfl rfl (hp0 _ _ _) ?_
  ((conv=>whnf);(repeat(refine And.intro ?_ ?_;(focus((first|omega|exact⟨rfl,True.intro⟩|exact⟨rfl,rfl,True.intro⟩|rfl|(simp only[List.length_set];first|omega|(refine⟨?_,?_⟩<;>omega)|(refine⟨?_,?_,?_⟩<;>omega))|(intro hg;(try simp only[bB]at hg);first|omega|(refine⟨?_,?_⟩<;>omega)|(refine⟨?_,?_,?_⟩<;>first|omega|(show _<_;(try simp only[List.length_set]);omega)|exact leT rfl))|(refine⟨?_,?_⟩<;>omega)|(refine⟨?_,?_,?_⟩<;>first|omega|(show _<_;(try simp only[List.length_set]);omega)|exact leT rfl)|(simp only[show rI.d=(0:Int)from rfl];omega));done));(conv=>whnf))))
  refine EvCall.plain Try.call20 (.a (fS p)) rfl (fun ρ W hp => by rw [fS_den]; exact sp W ha) ?_
  ((conv=>whnf);(repeat(refine And.intro ?_ ?_;(focus((first|omega|exact⟨rfl,True.intro⟩|exact⟨rfl,rfl,True.intro⟩|rfl|(simp only[List.length_set];first|omega|(refine⟨?_,?_⟩<;>omega)|(refine⟨?_,?_,?_⟩<;>omega))|(intro hg;(try simp only[bB]at hg);first|omega|(refine⟨?_,?_⟩<;>omega)|(refine⟨?_,?_,?_⟩<;>first|omega|(show _<_;(try simp only[List.length_set]);omega)|exact leT rfl))|(refine⟨?_,?_⟩<;>omega)|(refine⟨?_,?_,?_⟩<;>first|omega|(show _<_;(try simp only[List.length_set]);omega)|exact leT rfl)|(simp only[show rI.d=(0:Int)from rfl];omega));done));(conv=>whnf))))
  refine EvCall.plain Try.call20 (.a (fS q)) rfl (fun ρ W hp => by rw [fS_den]; exact sq W hb) ?_
  ((conv=>whnf);(repeat(refine And.intro ?_ ?_;(focus((first|omega|exact⟨rfl,True.intro⟩|exact⟨rfl,rfl,True.intro⟩|rfl|(simp only[List.length_set];first|omega|(refine⟨?_,?_⟩<;>omega)|(refine⟨?_,?_,?_⟩<;>omega))|(intro hg;(try simp only[bB]at hg);first|omega|(refine⟨?_,?_⟩<;>omega)|(refine⟨?_,?_,?_⟩<;>first|omega|(show _<_;(try simp only[List.length_set]);omega)|exact leT rfl))|(refine⟨?_,?_⟩<;>omega)|(refine⟨?_,?_,?_⟩<;>first|omega|(show _<_;(try simp only[List.length_set]);omega)|exact leT rfl)|(simp only[show rI.d=(0:Int)from rfl];omega));done));(conv=>whnf))))
  refine EvCall.plain Try.call55 (.a (iS (bxF p q))) rfl (fun ρ W hp => by
    rw [iS_den, ← from2 p q vp vq]
    exact from4_s _ [p, q] W (hp.lit (R := rF) (ys := [p, q]) (n := 1) rfl (by decide) (by simp) (by omega) rfl) (by simp) (by simp) (all2 vp vq)) ?_
  ((conv=>whnf);(repeat(refine And.intro ?_ ?_;(focus((first|omega|exact⟨rfl,True.intro⟩|exact⟨rfl,rfl,True.intro⟩|rfl|(simp only[List.length_set];first|omega|(refine⟨?_,?_⟩<;>omega)|(refine⟨?_,?_,?_⟩<;>omega))|(intro hg;(try simp only[bB]at hg);first|omega|(refine⟨?_,?_⟩<;>omega)|(refine⟨?_,?_,?_⟩<;>first|omega|(show _<_;(try simp only[List.length_set]);omega)|exact leT rfl))|(refine⟨?_,?_⟩<;>omega)|(refine⟨?_,?_,?_⟩<;>first|omega|(show _<_;(try simp only[List.length_set]);omega)|exact leT rfl)|(simp only[show rI.d=(0:Int)from rfl];omega));done));(conv=>whnf))))
  exact EvRet.ret (fun _ => iS_den _ _)
set_option maxRecDepth 10000 in
theorem inner_s (x : Iv) (t : Int) (D : Int) (w : World) (ht : -9223372036854775808 ≤ t ∧ t ≤ 9223372036854775807) (hx : Lv x D) (hD : D ≤ 20000) : Con Try.prog 19 #[iV x, .int .i64 t] w (Ret w (fV (innF x t))) := by
  obtain ⟨Nl, Nh, hl, hh, hle, b1, b2⟩ := hx
  obtain ⟨⟨e1, r1⟩, ⟨e2, r2⟩, ⟨e3, r3⟩, ⟨e4, r4⟩, k1, k2⟩ := inn_steps t hD hl hh hle b1 b2
  have a0 := arnd_nn t 9 (by omega)
  have a1 := arnd_lt t 9 (by omega)
  have hD0 := hl.2.1
  have j1 : 0 ≤ (Nh + -Nl) * arnd t 9 := Int.mul_nonneg (by omega) a0
  have j2 : (Nh + -Nl) * arnd t 9 ≤ (Nh + -Nl) * 8 := Int.mul_le_mul_of_nonneg_left (by omega) (by omega)
  have sl := hl.sh (by omega) (by omega)
  have sh := hh.sh (by omega) (by omega)
  have s1 := r1.sh (by omega) (by omega)
  have s2 := r2.sh (by omega) (by omega)
  have s3 := r3.sh (by rw [Int.mul_one]; omega) (by omega)
  have c1 := sub3_s x.hi x.lo
  have c2 := mul3_s (subN x.hi x.lo) ⟨1, 8⟩
  have c3 := mul3_s (mulN (subN x.hi x.lo) ⟨1, 8⟩) ⟨arnd t 9, 1⟩
  have c4 := add3_s x.lo (mulN (mulN (subN x.hi x.lo) ⟨1, 8⟩) ⟨arnd t 9, 1⟩)
  have v8 := rep_8
  have vt := rep_int (t := arnd t 9) (by omega)
  simp only at c1 c2 c3 c4
  rw [e1] at c1
  rw [e2] at c2
  rw [e3] at c3
  rw [e4] at c4
  clear e1 e2 e3 e4 k1 k2 j1 j2
  generalize innF x t = z at *
  generalize mulN (mulN (subN x.hi x.lo) ⟨1, 8⟩) ⟨arnd t 9, 1⟩ = q at *
  generalize mulN (subN x.hi x.lo) ⟨1, 8⟩ = p at *
  generalize subN x.hi x.lo = d at *
  refine enter tabOk mixed Try.func19 rfl Try.ntmps19 Try.results19 [.a (iS x), .v (.int .i64 t)] (fun _ => none) [] 0 rfl rfl (hp0 _ _ _) ?_
  ((conv=>whnf);(repeat(refine And.intro ?_ ?_;(focus((first|omega|exact⟨rfl,True.intro⟩|exact⟨rfl,rfl,True.intro⟩|rfl|(simp only[List.length_set];first|omega|(refine⟨?_,?_⟩<;>omega)|(refine⟨?_,?_,?_⟩<;>omega))|(intro hg;(try simp only[bB]at hg);first|omega|(refine⟨?_,?_⟩<;>omega)|(refine⟨?_,?_,?_⟩<;>first|omega|(show _<_;(try simp only[List.length_set]);omega)|exact leT rfl))|(refine⟨?_,?_⟩<;>omega)|(refine⟨?_,?_,?_⟩<;>first|omega|(show _<_;(try simp only[List.length_set]);omega)|exact leT rfl)|(simp only[show rI.d=(0:Int)from rfl];omega));done));(conv=>whnf))))
  refine EvCall.plain Try.call45 (feS (d, 0)) rfl (fun ρ W hp => by rw [feS_den]; exact c1 W hh.1 hl.1 sh sl) ?_
  ((conv=>whnf);(repeat(refine And.intro ?_ ?_;(focus((first|omega|exact⟨rfl,True.intro⟩|exact⟨rfl,rfl,True.intro⟩|rfl|(simp only[List.length_set];first|omega|(refine⟨?_,?_⟩<;>omega)|(refine⟨?_,?_,?_⟩<;>omega))|(intro hg;(try simp only[bB]at hg);first|omega|(refine⟨?_,?_⟩<;>omega)|(refine⟨?_,?_,?_⟩<;>first|omega|(show _<_;(try simp only[List.length_set]);omega)|exact leT rfl))|(refine⟨?_,?_⟩<;>omega)|(refine⟨?_,?_,?_⟩<;>first|omega|(show _<_;(try simp only[List.length_set]);omega)|exact leT rfl)|(simp only[show rI.d=(0:Int)from rfl];omega));done));(conv=>whnf))))
  refine EvCall.plain Try.call56 (feS (p, 0)) rfl (fun ρ W hp => by rw [feS_den]; exact c2 W r1.1 v8.1 s1 ⟨by decide, by decide⟩) ?_
  ((conv=>whnf);(repeat(refine And.intro ?_ ?_;(focus((first|omega|exact⟨rfl,True.intro⟩|exact⟨rfl,rfl,True.intro⟩|rfl|(simp only[List.length_set];first|omega|(refine⟨?_,?_⟩<;>omega)|(refine⟨?_,?_,?_⟩<;>omega))|(intro hg;(try simp only[bB]at hg);first|omega|(refine⟨?_,?_⟩<;>omega)|(refine⟨?_,?_,?_⟩<;>first|omega|(show _<_;(try simp only[List.length_set]);omega)|exact leT rfl))|(refine⟨?_,?_⟩<;>omega)|(refine⟨?_,?_,?_⟩<;>first|omega|(show _<_;(try simp only[List.length_set]);omega)|exact leT rfl)|(simp only[show rI.d=(0:Int)from rfl];omega));done));(conv=>whnf))))
  refine EvCall.plain Try.call13 (.v (.int .i64 (arnd t 9))) rfl (fun ρ W hp => around_s t 9 W ht (by omega)) ?_
  ((conv=>whnf);(repeat(refine And.intro ?_ ?_;(focus((first|omega|exact⟨rfl,True.intro⟩|exact⟨rfl,rfl,True.intro⟩|rfl|(simp only[List.length_set];first|omega|(refine⟨?_,?_⟩<;>omega)|(refine⟨?_,?_,?_⟩<;>omega))|(intro hg;(try simp only[bB]at hg);first|omega|(refine⟨?_,?_⟩<;>omega)|(refine⟨?_,?_,?_⟩<;>first|omega|(show _<_;(try simp only[List.length_set]);omega)|exact leT rfl))|(refine⟨?_,?_⟩<;>omega)|(refine⟨?_,?_,?_⟩<;>first|omega|(show _<_;(try simp only[List.length_set]);omega)|exact leT rfl)|(simp only[show rI.d=(0:Int)from rfl];omega));done));(conv=>whnf))))
  refine EvCall.plain Try.call56 (feS (q, 0)) rfl (fun ρ W hp => by rw [feS_den]; exact c3 W r2.1 vt.1 s2 ⟨by simp only; omega, by simp only; omega⟩) ?_
  ((conv=>whnf);(repeat(refine And.intro ?_ ?_;(focus((first|omega|exact⟨rfl,True.intro⟩|exact⟨rfl,rfl,True.intro⟩|rfl|(simp only[List.length_set];first|omega|(refine⟨?_,?_⟩<;>omega)|(refine⟨?_,?_,?_⟩<;>omega))|(intro hg;(try simp only[bB]at hg);first|omega|(refine⟨?_,?_⟩<;>omega)|(refine⟨?_,?_,?_⟩<;>first|omega|(show _<_;(try simp only[List.length_set]);omega)|exact leT rfl))|(refine⟨?_,?_⟩<;>omega)|(refine⟨?_,?_,?_⟩<;>first|omega|(show _<_;(try simp only[List.length_set]);omega)|exact leT rfl)|(simp only[show rI.d=(0:Int)from rfl];omega));done));(conv=>whnf))))
  refine EvCall.plain Try.call57 (feS (z, 0)) rfl (fun ρ W hp => by rw [feS_den]; exact c4 W hl.1 r3.1 sl s3) ?_
  ((conv=>whnf);(repeat(refine And.intro ?_ ?_;(focus((first|omega|exact⟨rfl,True.intro⟩|exact⟨rfl,rfl,True.intro⟩|rfl|(simp only[List.length_set];first|omega|(refine⟨?_,?_⟩<;>omega)|(refine⟨?_,?_,?_⟩<;>omega))|(intro hg;(try simp only[bB]at hg);first|omega|(refine⟨?_,?_⟩<;>omega)|(refine⟨?_,?_,?_⟩<;>first|omega|(show _<_;(try simp only[List.length_set]);omega)|exact leT rfl))|(refine⟨?_,?_⟩<;>omega)|(refine⟨?_,?_,?_⟩<;>first|omega|(show _<_;(try simp only[List.length_set]);omega)|exact leT rfl)|(simp only[show rI.d=(0:Int)from rfl];omega));done));(conv=>whnf))))
  exact EvRet.ret (fun _ => rfl)
theorem innF_in {x : Iv} {D : Int} (t : Int) (hx : Lv x D) (hD : D ≤ 20000) : vF (innF x t) ∧ cmpF x.lo (innF x t) ≤ 0 ∧ cmpF (innF x t) x.hi ≤ 0 := by
  obtain ⟨Nl, Nh, hl, hh, hle, b1, b2⟩ := hx
  obtain ⟨_, _, _, ⟨_, r4⟩, k1, k2⟩ := inn_steps t hD hl hh hle b1 b2
  refine ⟨r4.1, ?_, ?_⟩
  · rw [(hl.wide (k := 8) (by omega)).cmp r4, sgI_le]; omega
  · rw [r4.cmp (hh.wide (k := 8) (by omega)), sgI_le]; omega
def partF (x : Iv) (a b : Int) : Iv := bxF (innF x a) (innF x b)
theorem partF_lv {x : Iv} {D : Int} (a b : Int) (hx : Lv x D) (hD : D ≤ 20000) : Lv (partF x a b) (D * 8) := by
  obtain ⟨Nl, Nh, hl, hh, hle, b1, b2⟩ := hx
  obtain ⟨_, _, _, ⟨_, r1⟩, k1, k2⟩ := inn_steps a hD hl hh hle b1 b2
  obtain ⟨_, _, _, ⟨_, r2⟩, k3, k4⟩ := inn_steps b hD hl hh hle b1 b2
  exact bxF_lv r1 r2 (by omega) (by omega)
theorem Lv.v {x : Iv} {D : Int} (h : Lv x D) : vI x := by
  obtain ⟨Nl, Nh, hl, hh, hle, _⟩ := h
  exact ⟨hl.1, hh.1, by rw [hl.cmp hh, sgI_le]; omega⟩
theorem partF_in {x : Iv} {D : Int} (a b : Int) (hx : Lv x D) (hD : D ≤ 20000) : vI (partF x a b) ∧ cmpF x.lo (partF x a b).lo ≤ 0 ∧ cmpF (partF x a b).hi x.hi ≤ 0 := by
  obtain ⟨v1, l1, h1⟩ := innF_in a hx hD
  obtain ⟨v2, l2, h2⟩ := innF_in b hx hD
  refine ⟨(bxF_v v1 v2).1, ?_, ?_⟩
  · rcases (lesF_v v1 v2).2.2.2 with h | h
    · show cmpF x.lo (lesF _ _) ≤ 0; rw [h]; exact l1
    · show cmpF x.lo (lesF _ _) ≤ 0; rw [h]; exact l2
  · rcases (greF_v v1 v2).2.2.2 with h | h
    · show cmpF (greF _ _) x.hi ≤ 0; rw [h]; exact h1
    · show cmpF (greF _ _) x.hi ≤ 0; rw [h]; exact h2
set_option maxRecDepth 10000 in
theorem part_s (x : Iv) (a b : Int) (D : Int) (w : World) (ha : -9223372036854775808 ≤ a ∧ a ≤ 9223372036854775807) (hb : -9223372036854775808 ≤ b ∧ b ≤ 9223372036854775807) (hx : Lv x D) (hD : D ≤ 20000) : Con Try.prog 18 #[iV x, .int .i64 a, .int .i64 b] w (Ret w (iV (partF x a b))) := by
  unfold partF
  have vp := (innF_in a hx hD).1
  have vq := (innF_in b hx hD).1
  have sp := fun W => inner_s x a D W ha hx hD
  have sq := fun W => inner_s x b D W hb hx hD
  generalize innF x a = p at *
  generalize innF x b = q at *
  refine enter tabOk mixed Try.func18 rfl Try.ntmps18 Try.results18 [.a (iS x), .v (.int .i64 a), .v (.int .i64 b)] (fun _ => none) [] 0 rfl rfl (hp0 _ _ _) ?_
  ((conv=>whnf);(repeat(refine And.intro ?_ ?_;(focus((first|omega|exact⟨rfl,True.intro⟩|exact⟨rfl,rfl,True.intro⟩|rfl|(simp only[List.length_set];first|omega|(refine⟨?_,?_⟩<;>omega)|(refine⟨?_,?_,?_⟩<;>omega))|(intro hg;(try simp only[bB]at hg);first|omega|(refine⟨?_,?_⟩<;>omega)|(refine⟨?_,?_,?_⟩<;>first|omega|(show _<_;(try simp only[List.length_set]);omega)|exact leT rfl))|(refine⟨?_,?_⟩<;>omega)|(refine⟨?_,?_,?_⟩<;>first|omega|(show _<_;(try simp only[List.length_set]);omega)|exact leT rfl)|(simp only[show rI.d=(0:Int)from rfl];omega));done));(conv=>whnf))))
  (refine EvDraw.one (.q 0 (.q 1 (.q 3 (.q 4 (.n 2 false (.n 5 true (.n 6 false (.n 7 true (.n 8 true (.z) (.e)) (.e)) (.e)) (.e)) (.e)))))) (by kernel_rfl) ?_)
  ((conv=>whnf);(repeat(refine And.intro ?_ ?_;(focus((first|omega|exact⟨rfl,True.intro⟩|exact⟨rfl,rfl,True.intro⟩|rfl|(simp only[List.length_set];first|omega|(refine⟨?_,?_⟩<;>omega)|(refine⟨?_,?_,?_⟩<;>omega))|(intro hg;(try simp only[bB]at hg);first|omega|(refine⟨?_,?_⟩<;>omega)|(refine⟨?_,?_,?_⟩<;>first|omega|(show _<_;(try simp only[List.length_set]);omega)|exact leT rfl))|(refine⟨?_,?_⟩<;>omega)|(refine⟨?_,?_,?_⟩<;>first|omega|(show _<_;(try simp only[List.length_set]);omega)|exact leT rfl)|(simp only[show rI.d=(0:Int)from rfl];omega));done));(conv=>whnf))))
  refine EvCall.plain Try.call19 (.a (fS p)) rfl (fun ρ W hp => by rw [fS_den]; exact sp W) ?_
  ((conv=>whnf);(repeat(refine And.intro ?_ ?_;(focus((first|omega|exact⟨rfl,True.intro⟩|exact⟨rfl,rfl,True.intro⟩|rfl|(simp only[List.length_set];first|omega|(refine⟨?_,?_⟩<;>omega)|(refine⟨?_,?_,?_⟩<;>omega))|(intro hg;(try simp only[bB]at hg);first|omega|(refine⟨?_,?_⟩<;>omega)|(refine⟨?_,?_,?_⟩<;>first|omega|(show _<_;(try simp only[List.length_set]);omega)|exact leT rfl))|(refine⟨?_,?_⟩<;>omega)|(refine⟨?_,?_,?_⟩<;>first|omega|(show _<_;(try simp only[List.length_set]);omega)|exact leT rfl)|(simp only[show rI.d=(0:Int)from rfl];omega));done));(conv=>whnf))))
  refine EvCall.plain Try.call19 (.a (fS q)) rfl (fun ρ W hp => by rw [fS_den]; exact sq W) ?_
  ((conv=>whnf);(repeat(refine And.intro ?_ ?_;(focus((first|omega|exact⟨rfl,True.intro⟩|exact⟨rfl,rfl,True.intro⟩|rfl|(simp only[List.length_set];first|omega|(refine⟨?_,?_⟩<;>omega)|(refine⟨?_,?_,?_⟩<;>omega))|(intro hg;(try simp only[bB]at hg);first|omega|(refine⟨?_,?_⟩<;>omega)|(refine⟨?_,?_,?_⟩<;>first|omega|(show _<_;(try simp only[List.length_set]);omega)|exact leT rfl))|(refine⟨?_,?_⟩<;>omega)|(refine⟨?_,?_,?_⟩<;>first|omega|(show _<_;(try simp only[List.length_set]);omega)|exact leT rfl)|(simp only[show rI.d=(0:Int)from rfl];omega));done));(conv=>whnf))))
  refine EvCall.plain Try.call55 (.a (iS (bxF p q))) rfl (fun ρ W hp => by
    rw [iS_den, ← from2 p q vp vq]
    exact from4_s _ [p, q] W (hp.lit (R := rF) (ys := [p, q]) (n := 2) rfl (by decide) (by simp) (by omega) rfl) (by simp) (by simp) (all2 vp vq)) ?_
  ((conv=>whnf);(repeat(refine And.intro ?_ ?_;(focus((first|omega|exact⟨rfl,True.intro⟩|exact⟨rfl,rfl,True.intro⟩|rfl|(simp only[List.length_set];first|omega|(refine⟨?_,?_⟩<;>omega)|(refine⟨?_,?_,?_⟩<;>omega))|(intro hg;(try simp only[bB]at hg);first|omega|(refine⟨?_,?_⟩<;>omega)|(refine⟨?_,?_,?_⟩<;>first|omega|(show _<_;(try simp only[List.length_set]);omega)|exact leT rfl))|(refine⟨?_,?_⟩<;>omega)|(refine⟨?_,?_,?_⟩<;>first|omega|(show _<_;(try simp only[List.length_set]);omega)|exact leT rfl)|(simp only[show rI.d=(0:Int)from rfl];omega));done));(conv=>whnf))))
  exact EvRet.ret (fun _ => iS_den _ _)
end Go.Proofs.Ythknflclfmnciaa
