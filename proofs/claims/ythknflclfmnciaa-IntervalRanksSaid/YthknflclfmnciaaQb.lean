
/- Sums of products of two words, walked. -/
import Derived.Test.YthknflclfmnciaaQa
namespace Go.Proofs.Ythknflclfmnciaa
open Go.RowKit
set_option linter.unusedVariables false
set_option linter.unusedSimpArgs false
/-! sums -/
theorem carry_add {x y : Nat} {xh xl yh yl : Nat} (hx : x = xh * 18446744073709551616 + xl) (hy : y = yh * 18446744073709551616 + yl) (h1 : xl < 18446744073709551616) (h2 : yl < 18446744073709551616) (hs : x + y < 340282366920938463463374607431768211456) :
    (xl + yl + 0) % 18446744073709551616 = (x + y) % 18446744073709551616 ∧ (xh + yh + (xl + yl + 0) / 18446744073709551616) % 18446744073709551616 = (x + y) / 18446744073709551616 := by
  subst hx; subst hy
  omega
theorem borrow_sub {x y : Nat} {xh xl yh yl : Nat} (hx : x = xh * 18446744073709551616 + xl) (hy : y = yh * 18446744073709551616 + yl) (h1 : xl < 18446744073709551616) (h2 : yl < 18446744073709551616) (hs : y ≤ x) (hx2 : xh < 18446744073709551616) :
    (xl + 18446744073709551616 - yl - 0) % 18446744073709551616 = (x - y) % 18446744073709551616 ∧ (xh + 18446744073709551616 - yh - (if xl < yl + 0 then 1 else 0)) % 18446744073709551616 = (x - y) / 18446744073709551616 := by
  subst hx; subst hy
  split <;> omega
theorem natAbs_add_same {x y : Int} (h : decide (x < 0) = decide (y < 0) ∨ x = 0 ∨ y = 0) : (x + y).natAbs = x.natAbs + y.natAbs ∧ decide (x + y < 0) = (decide (x < 0) || decide (y < 0)) := by
  by_cases h1 : x < 0 <;> by_cases h2 : y < 0 <;> simp only [h1, h2, decide_true, decide_false] at h ⊢ <;> simp at h <;> refine ⟨by omega, ?_⟩ <;> simp <;> omega
theorem natAbs_add_diff {u v : Int} (h : decide (u < 0) ≠ decide (v < 0)) (hle : v.natAbs ≤ u.natAbs) : (u + v).natAbs = u.natAbs - v.natAbs ∧ (u + v ≠ 0 → decide (u + v < 0) = decide (u < 0)) := by
  by_cases h1 : u < 0 <;> by_cases h2 : v < 0 <;> simp only [h1, h2, decide_true, decide_false] at h ⊢ <;> first | exact absurd rfl h | (refine ⟨by omega, fun _ => ?_⟩; simp; omega)
theorem wlt_iff (x y : Int) : ((whi x : Int) < (whi y : Int) ∨ (whi x : Int) = (whi y : Int) ∧ (wlo x : Int) < (wlo y : Int)) ↔ x.natAbs < y.natAbs := by
  have h1 := wd_split x
  have h2 := wd_split y
  have h3 := wlo_lt x
  have h4 := wlo_lt y
  omega
set_option maxRecDepth 10000 in
theorem sum_s (a b c d : Int) (w : World) (ha : -4611686018427387904 ≤ a ∧ a ≤ 4611686018427387904) (hb : -4611686018427387904 ≤ b ∧ b ≤ 4611686018427387904) (hc : -4611686018427387904 ≤ c ∧ c ≤ 4611686018427387904) (hd : -4611686018427387904 ≤ d ∧ d ≤ 4611686018427387904) :
    Con Try.prog 60 #[.int .i64 a, .int .i64 b, .int .i64 c, .int .i64 d] w (Ret w (wV (a * b + c * d))) := by
  have hbig : ∀ u v : Int, (-4611686018427387904 ≤ u ∧ u ≤ 4611686018427387904) → (-4611686018427387904 ≤ v ∧ v ≤ 4611686018427387904) → (u * v).natAbs ≤ 21267647932558653966460912964485513216 := by
    intro u v hu hv
    rw [Int.natAbs_mul]
    exact Nat.mul_le_mul (show u.natAbs ≤ 4611686018427387904 by omega) (show v.natAbs ≤ 4611686018427387904 by omega)
  have hx := hbig a b ha hb
  have hy := hbig c d hc hd
  refine enter tabOk mixed Try.func60 rfl Try.ntmps60 Try.results60 [.v (.int .i64 a), .v (.int .i64 b), .v (.int .i64 c), .v (.int .i64 d)] (fun _ => none) [] 0 rfl rfl (hp0 _ _ _) ?_
  ((conv=>whnf);(repeat(refine And.intro ?_ ?_;(focus((first|omega|exact⟨rfl,True.intro⟩|exact⟨rfl,rfl,True.intro⟩|rfl|(simp only[List.length_set];first|omega|(refine⟨?_,?_⟩<;>omega)|(refine⟨?_,?_,?_⟩<;>omega))|(intro hg;(try simp only[bB]at hg);first|omega|(refine⟨?_,?_⟩<;>omega)|(refine⟨?_,?_,?_⟩<;>first|omega|(show _<_;(try simp only[List.length_set]);omega)|exact leT rfl))|(refine⟨?_,?_⟩<;>omega)|(refine⟨?_,?_,?_⟩<;>first|omega|(show _<_;(try simp only[List.length_set]);omega)|exact leT rfl)|(simp only[show rI.d=(0:Int)from rfl];omega));done));(conv=>whnf))))
  refine EvCall.plain Try.call87 (.a (wS (a * b))) rfl (fun ρ W hp => by rw [wS_den]; exact product_s a b W (by omega) (by omega)) ?_
  ((conv=>whnf);(repeat(refine And.intro ?_ ?_;(focus((first|omega|exact⟨rfl,True.intro⟩|exact⟨rfl,rfl,True.intro⟩|rfl|(simp only[List.length_set];first|omega|(refine⟨?_,?_⟩<;>omega)|(refine⟨?_,?_,?_⟩<;>omega))|(intro hg;(try simp only[bB]at hg);first|omega|(refine⟨?_,?_⟩<;>omega)|(refine⟨?_,?_,?_⟩<;>first|omega|(show _<_;(try simp only[List.length_set]);omega)|exact leT rfl))|(refine⟨?_,?_⟩<;>omega)|(refine⟨?_,?_,?_⟩<;>first|omega|(show _<_;(try simp only[List.length_set]);omega)|exact leT rfl)|(simp only[show rI.d=(0:Int)from rfl];omega));done));(conv=>whnf))))
  refine EvCall.plain Try.call87 (.a (wS (c * d))) rfl (fun ρ W hp => by rw [wS_den]; exact product_s c d W (by omega) (by omega)) ?_
  generalize a * b = x at *
  generalize c * d = y at *
  have x1 := wd_split x
  have x2 := wlo_lt x
  have y1 := wd_split y
  have y2 := wlo_lt y
  have zx := wd_zero x
  have zy := wd_zero y
  have hlt := wlt_iff x y
  have hxh : whi x < 18446744073709551616 := by omega
  have hyh : whi y < 18446744073709551616 := by omega
  ((conv=>whnf);(repeat(refine And.intro ?_ ?_;(focus((first|omega|exact⟨rfl,True.intro⟩|exact⟨rfl,rfl,True.intro⟩|rfl|(simp only[List.length_set];first|omega|(refine⟨?_,?_⟩<;>omega)|(refine⟨?_,?_,?_⟩<;>omega))|(intro hg;(try simp only[bB]at hg);first|omega|(refine⟨?_,?_⟩<;>omega)|(refine⟨?_,?_,?_⟩<;>first|omega|(show _<_;(try simp only[List.length_set]);omega)|exact leT rfl))|(refine⟨?_,?_⟩<;>omega)|(refine⟨?_,?_,?_⟩<;>first|omega|(show _<_;(try simp only[List.length_set]);omega)|exact leT rfl)|(simp only[show rI.d=(0:Int)from rfl];omega));done));(conv=>whnf))))
  refine EvIf.split (fun g1 => ?_) (fun g1 => ?_)
  · have g2 : decide (x < 0) = decide (y < 0) ∨ x = 0 ∨ y = 0 := by
      simp only [Bool.or_eq_true, Bool.and_eq_true, beq_iff_eq, decide_eq_true_eq] at g1
      rcases g1 with (g1 | g1) | g1
      · exact .inl g1
      · exact .inr (.inl (zx.2 ⟨by omega, by omega⟩))
      · exact .inr (.inr (zy.2 ⟨by omega, by omega⟩))
    obtain ⟨s1, s2⟩ := natAbs_add_same g2
    obtain ⟨c1, c2⟩ := carry_add x1 y1 x2 y2 (by omega)
    rw [← s1] at c1 c2
    ((conv=>whnf);(repeat(refine And.intro ?_ ?_;(focus((first|omega|exact⟨rfl,True.intro⟩|exact⟨rfl,rfl,True.intro⟩|rfl|(simp only[List.length_set];first|omega|(refine⟨?_,?_⟩<;>omega)|(refine⟨?_,?_,?_⟩<;>omega))|(intro hg;(try simp only[bB]at hg);first|omega|(refine⟨?_,?_⟩<;>omega)|(refine⟨?_,?_,?_⟩<;>first|omega|(show _<_;(try simp only[List.length_set]);omega)|exact leT rfl))|(refine⟨?_,?_⟩<;>omega)|(refine⟨?_,?_,?_⟩<;>first|omega|(show _<_;(try simp only[List.length_set]);omega)|exact leT rfl)|(simp only[show rI.d=(0:Int)from rfl];omega));done));(conv=>whnf))))
    refine EvOp.ext (f := 88) rfl [.v (.int .u64 (wlo x : Int)), .v (.int .u64 (wlo y : Int)), .v (.int .u64 0)] rfl (.t [.v (.int .u64 ((wlo (x + y) : Nat) : Int)), .v (.int .u64 (((wlo x + wlo y + 0) / 18446744073709551616 : Nat) : Int))]) (fun _ => rfl) (fun ρ W => by
      have := add64_s (wlo x) (wlo y) 0 x2 y2 (by omega) W
      rw [c1] at this
      exact this) ?_
    ((conv=>whnf);(repeat(refine And.intro ?_ ?_;(focus((first|omega|exact⟨rfl,True.intro⟩|exact⟨rfl,rfl,True.intro⟩|rfl|(simp only[List.length_set];first|omega|(refine⟨?_,?_⟩<;>omega)|(refine⟨?_,?_,?_⟩<;>omega))|(intro hg;(try simp only[bB]at hg);first|omega|(refine⟨?_,?_⟩<;>omega)|(refine⟨?_,?_,?_⟩<;>first|omega|(show _<_;(try simp only[List.length_set]);omega)|exact leT rfl))|(refine⟨?_,?_⟩<;>omega)|(refine⟨?_,?_,?_⟩<;>first|omega|(show _<_;(try simp only[List.length_set]);omega)|exact leT rfl)|(simp only[show rI.d=(0:Int)from rfl];omega));done));(conv=>whnf))))
    refine EvOp.ext (f := 88) rfl [.v (.int .u64 (whi x : Int)), .v (.int .u64 (whi y : Int)), .v (.int .u64 (((wlo x + wlo y + 0) / 18446744073709551616 : Nat) : Int))] rfl (.t [.v (.int .u64 ((whi (x + y) : Nat) : Int)), .v (.int .u64 (((whi x + whi y + (wlo x + wlo y + 0) / 18446744073709551616) / 18446744073709551616 : Nat) : Int))]) (fun _ => rfl) (fun ρ W => by
      have := add64_s (whi x) (whi y) ((wlo x + wlo y + 0) / 18446744073709551616) hxh hyh (by omega) W
      rw [c2] at this
      exact this) ?_
    ((conv=>whnf);(repeat(refine And.intro ?_ ?_;(focus((first|omega|exact⟨rfl,True.intro⟩|exact⟨rfl,rfl,True.intro⟩|rfl|(simp only[List.length_set];first|omega|(refine⟨?_,?_⟩<;>omega)|(refine⟨?_,?_,?_⟩<;>omega))|(intro hg;(try simp only[bB]at hg);first|omega|(refine⟨?_,?_⟩<;>omega)|(refine⟨?_,?_,?_⟩<;>first|omega|(show _<_;(try simp only[List.length_set]);omega)|exact leT rfl))|(refine⟨?_,?_⟩<;>omega)|(refine⟨?_,?_,?_⟩<;>first|omega|(show _<_;(try simp only[List.length_set]);omega)|exact leT rfl)|(simp only[show rI.d=(0:Int)from rfl];omega));done));(conv=>whnf))))
    exact EvRet.ret (fun _ => by simp [den, denL, wV, s2])
  · have g2 : decide (x < 0) ≠ decide (y < 0) := by
      intro h
      rw [h] at g1
      simp at g1
    ((conv=>whnf);(repeat(refine And.intro ?_ ?_;(focus((first|omega|exact⟨rfl,True.intro⟩|exact⟨rfl,rfl,True.intro⟩|rfl|(simp only[List.length_set];first|omega|(refine⟨?_,?_⟩<;>omega)|(refine⟨?_,?_,?_⟩<;>omega))|(intro hg;(try simp only[bB]at hg);first|omega|(refine⟨?_,?_⟩<;>omega)|(refine⟨?_,?_,?_⟩<;>first|omega|(show _<_;(try simp only[List.length_set]);omega)|exact leT rfl))|(refine⟨?_,?_⟩<;>omega)|(refine⟨?_,?_,?_⟩<;>first|omega|(show _<_;(try simp only[List.length_set]);omega)|exact leT rfl)|(simp only[show rI.d=(0:Int)from rfl];omega));done));(conv=>whnf))))
    refine EvIf.split (fun g3 => ?_) (fun g3 => ?_)
    · have g4 : x.natAbs < y.natAbs := hlt.1 (by simpa using g3)
      obtain ⟨s1, s2⟩ := natAbs_add_diff (u := y) (v := x) g2.symm (by omega)
      obtain ⟨c1, c2⟩ := borrow_sub y1 x1 y2 x2 (by omega) hyh
      rw [← s1] at c1 c2
      ((conv=>whnf);(repeat(refine And.intro ?_ ?_;(focus((first|omega|exact⟨rfl,True.intro⟩|exact⟨rfl,rfl,True.intro⟩|rfl|(simp only[List.length_set];first|omega|(refine⟨?_,?_⟩<;>omega)|(refine⟨?_,?_,?_⟩<;>omega))|(intro hg;(try simp only[bB]at hg);first|omega|(refine⟨?_,?_⟩<;>omega)|(refine⟨?_,?_,?_⟩<;>first|omega|(show _<_;(try simp only[List.length_set]);omega)|exact leT rfl))|(refine⟨?_,?_⟩<;>omega)|(refine⟨?_,?_,?_⟩<;>first|omega|(show _<_;(try simp only[List.length_set]);omega)|exact leT rfl)|(simp only[show rI.d=(0:Int)from rfl];omega));done));(conv=>whnf))))
      refine EvOp.ext (f := 89) rfl [.v (.int .u64 (wlo y : Int)), .v (.int .u64 (wlo x : Int)), .v (.int .u64 0)] rfl (.t [.v (.int .u64 ((wlo (y + x) : Nat) : Int)), .v (.int .u64 ((if wlo y < wlo x + 0 then 1 else 0 : Nat) : Int))]) (fun _ => rfl) (fun ρ W => by
        have := sub64_s (wlo y) (wlo x) 0 (by omega) W
        rw [c1] at this
        exact this) ?_
      ((conv=>whnf);(repeat(refine And.intro ?_ ?_;(focus((first|omega|exact⟨rfl,True.intro⟩|exact⟨rfl,rfl,True.intro⟩|rfl|(simp only[List.length_set];first|omega|(refine⟨?_,?_⟩<;>omega)|(refine⟨?_,?_,?_⟩<;>omega))|(intro hg;(try simp only[bB]at hg);first|omega|(refine⟨?_,?_⟩<;>omega)|(refine⟨?_,?_,?_⟩<;>first|omega|(show _<_;(try simp only[List.length_set]);omega)|exact leT rfl))|(refine⟨?_,?_⟩<;>omega)|(refine⟨?_,?_,?_⟩<;>first|omega|(show _<_;(try simp only[List.length_set]);omega)|exact leT rfl)|(simp only[show rI.d=(0:Int)from rfl];omega));done));(conv=>whnf))))
      refine EvOp.ext (f := 89) rfl [.v (.int .u64 (whi y : Int)), .v (.int .u64 (whi x : Int)), .v (.int .u64 ((if wlo y < wlo x + 0 then 1 else 0 : Nat) : Int))] rfl (.t [.v (.int .u64 ((whi (y + x) : Nat) : Int)), .v (.int .u64 ((if whi y < whi x + (if wlo y < wlo x + 0 then 1 else 0) then 1 else 0 : Nat) : Int))]) (fun _ => rfl) (fun ρ W => by
        have := sub64_s (whi y) (whi x) (if wlo y < wlo x + 0 then 1 else 0) (by split <;> omega) W
        rw [c2] at this
        exact this) ?_
      have hz := wd_zero (y + x)
      rw [Int.add_comm x y]
      clear c1 c2 s1 g1 g3 hlt
      generalize y + x = z at *
      ((conv=>whnf);(repeat(refine And.intro ?_ ?_;(focus((first|omega|exact⟨rfl,True.intro⟩|exact⟨rfl,rfl,True.intro⟩|rfl|(simp only[List.length_set];first|omega|(refine⟨?_,?_⟩<;>omega)|(refine⟨?_,?_,?_⟩<;>omega))|(intro hg;(try simp only[bB]at hg);first|omega|(refine⟨?_,?_⟩<;>omega)|(refine⟨?_,?_,?_⟩<;>first|omega|(show _<_;(try simp only[List.length_set]);omega)|exact leT rfl))|(refine⟨?_,?_⟩<;>omega)|(refine⟨?_,?_,?_⟩<;>first|omega|(show _<_;(try simp only[List.length_set]);omega)|exact leT rfl)|(simp only[show rI.d=(0:Int)from rfl];omega));done));(conv=>whnf))))
      refine EvIf.split (fun g5 => ?_) (fun g5 => ?_)
      · have g6 : z = 0 := hz.2 (by
          simp only [Bool.and_eq_true, decide_eq_true_eq] at g5
          omega)
        subst g6
        ((conv=>whnf);(repeat(refine And.intro ?_ ?_;(focus((first|omega|exact⟨rfl,True.intro⟩|exact⟨rfl,rfl,True.intro⟩|rfl|(simp only[List.length_set];first|omega|(refine⟨?_,?_⟩<;>omega)|(refine⟨?_,?_,?_⟩<;>omega))|(intro hg;(try simp only[bB]at hg);first|omega|(refine⟨?_,?_⟩<;>omega)|(refine⟨?_,?_,?_⟩<;>first|omega|(show _<_;(try simp only[List.length_set]);omega)|exact leT rfl))|(refine⟨?_,?_⟩<;>omega)|(refine⟨?_,?_,?_⟩<;>first|omega|(show _<_;(try simp only[List.length_set]);omega)|exact leT rfl)|(simp only[show rI.d=(0:Int)from rfl];omega));done));(conv=>whnf))))
        exact EvRet.ret (fun _ => rfl)
      · have g6 : z ≠ 0 := by
          rintro rfl
          simp [whi, wlo] at g5
        ((conv=>whnf);(repeat(refine And.intro ?_ ?_;(focus((first|omega|exact⟨rfl,True.intro⟩|exact⟨rfl,rfl,True.intro⟩|rfl|(simp only[List.length_set];first|omega|(refine⟨?_,?_⟩<;>omega)|(refine⟨?_,?_,?_⟩<;>omega))|(intro hg;(try simp only[bB]at hg);first|omega|(refine⟨?_,?_⟩<;>omega)|(refine⟨?_,?_,?_⟩<;>first|omega|(show _<_;(try simp only[List.length_set]);omega)|exact leT rfl))|(refine⟨?_,?_⟩<;>omega)|(refine⟨?_,?_,?_⟩<;>first|omega|(show _<_;(try simp only[List.length_set]);omega)|exact leT rfl)|(simp only[show rI.d=(0:Int)from rfl];omega));done));(conv=>whnf))))
        exact EvRet.ret (fun _ => by rw [wV, s2 g6]; rfl)
    · have g4 : ¬ x.natAbs < y.natAbs := fun h => by
        have h5 := hlt.2 h
        simp only [Bool.or_eq_false_iff, Bool.and_eq_false_iff, decide_eq_false_iff_not, beq_eq_false_iff_ne] at g3
        omega
      obtain ⟨s1, s2⟩ := natAbs_add_diff (u := x) (v := y) g2 (by omega)
      obtain ⟨c1, c2⟩ := borrow_sub x1 y1 x2 y2 (by omega) hxh
      rw [← s1] at c1 c2
      ((conv=>whnf);(repeat(refine And.intro ?_ ?_;(focus((first|omega|exact⟨rfl,True.intro⟩|exact⟨rfl,rfl,True.intro⟩|rfl|(simp only[List.length_set];first|omega|(refine⟨?_,?_⟩<;>omega)|(refine⟨?_,?_,?_⟩<;>omega))|(intro hg;(try simp only[bB]at hg);first|omega|(refine⟨?_,?_⟩<;>omega)|(refine⟨?_,?_,?_⟩<;>first|omega|(show _<_;(try simp only[List.length_set]);omega)|exact leT rfl))|(refine⟨?_,?_⟩<;>omega)|(refine⟨?_,?_,?_⟩<;>first|omega|(show _<_;(try simp only[List.length_set]);omega)|exact leT rfl)|(simp only[show rI.d=(0:Int)from rfl];omega));done));(conv=>whnf))))
      refine EvOp.ext (f := 89) rfl [.v (.int .u64 (wlo x : Int)), .v (.int .u64 (wlo y : Int)), .v (.int .u64 0)] rfl (.t [.v (.int .u64 ((wlo (x + y) : Nat) : Int)), .v (.int .u64 ((if wlo x < wlo y + 0 then 1 else 0 : Nat) : Int))]) (fun _ => rfl) (fun ρ W => by
        have := sub64_s (wlo x) (wlo y) 0 (by omega) W
        rw [c1] at this
        exact this) ?_
      ((conv=>whnf);(repeat(refine And.intro ?_ ?_;(focus((first|omega|exact⟨rfl,True.intro⟩|exact⟨rfl,rfl,True.intro⟩|rfl|(simp only[List.length_set];first|omega|(refine⟨?_,?_⟩<;>omega)|(refine⟨?_,?_,?_⟩<;>omega))|(intro hg;(try simp only[bB]at hg);first|omega|(refine⟨?_,?_⟩<;>omega)|(refine⟨?_,?_,?_⟩<;>first|omega|(show _<_;(try simp only[List.length_set]);omega)|exact leT rfl))|(refine⟨?_,?_⟩<;>omega)|(refine⟨?_,?_,?_⟩<;>first|omega|(show _<_;(try simp only[List.length_set]);omega)|exact leT rfl)|(simp only[show rI.d=(0:Int)from rfl];omega));done));(conv=>whnf))))
      refine EvOp.ext (f := 89) rfl [.v (.int .u64 (whi x : Int)), .v (.int .u64 (whi y : Int)), .v (.int .u64 ((if wlo x < wlo y + 0 then 1 else 0 : Nat) : Int))] rfl (.t [.v (.int .u64 ((whi (x + y) : Nat) : Int)), .v (.int .u64 ((if whi x < whi y + (if wlo x < wlo y + 0 then 1 else 0) then 1 else 0 : Nat) : Int))]) (fun _ => rfl) (fun ρ W => by
        have := sub64_s (whi x) (whi y) (if wlo x < wlo y + 0 then 1 else 0) (by split <;> omega) W
        rw [c2] at this
        exact this) ?_
      have hz := wd_zero (x + y)
      clear c1 c2 s1 g1 g3 hlt
      generalize x + y = z at *
      ((conv=>whnf);(repeat(refine And.intro ?_ ?_;(focus((first|omega|exact⟨rfl,True.intro⟩|exact⟨rfl,rfl,True.intro⟩|rfl|(simp only[List.length_set];first|omega|(refine⟨?_,?_⟩<;>omega)|(refine⟨?_,?_,?_⟩<;>omega))|(intro hg;(try simp only[bB]at hg);first|omega|(refine⟨?_,?_⟩<;>omega)|(refine⟨?_,?_,?_⟩<;>first|omega|(show _<_;(try simp only[List.length_set]);omega)|exact leT rfl))|(refine⟨?_,?_⟩<;>omega)|(refine⟨?_,?_,?_⟩<;>first|omega|(show _<_;(try simp only[List.length_set]);omega)|exact leT rfl)|(simp only[show rI.d=(0:Int)from rfl];omega));done));(conv=>whnf))))
      refine EvIf.split (fun g5 => ?_) (fun g5 => ?_)
      · have g6 : z = 0 := hz.2 (by
          simp only [Bool.and_eq_true, decide_eq_true_eq] at g5
          omega)
        subst g6
        ((conv=>whnf);(repeat(refine And.intro ?_ ?_;(focus((first|omega|exact⟨rfl,True.intro⟩|exact⟨rfl,rfl,True.intro⟩|rfl|(simp only[List.length_set];first|omega|(refine⟨?_,?_⟩<;>omega)|(refine⟨?_,?_,?_⟩<;>omega))|(intro hg;(try simp only[bB]at hg);first|omega|(refine⟨?_,?_⟩<;>omega)|(refine⟨?_,?_,?_⟩<;>first|omega|(show _<_;(try simp only[List.length_set]);omega)|exact leT rfl))|(refine⟨?_,?_⟩<;>omega)|(refine⟨?_,?_,?_⟩<;>first|omega|(show _<_;(try simp only[List.length_set]);omega)|exact leT rfl)|(simp only[show rI.d=(0:Int)from rfl];omega));done));(conv=>whnf))))
        exact EvRet.ret (fun _ => rfl)
      · have g6 : z ≠ 0 := by
          rintro rfl
          simp [whi, wlo] at g5
        ((conv=>whnf);(repeat(refine And.intro ?_ ?_;(focus((first|omega|exact⟨rfl,True.intro⟩|exact⟨rfl,rfl,True.intro⟩|rfl|(simp only[List.length_set];first|omega|(refine⟨?_,?_⟩<;>omega)|(refine⟨?_,?_,?_⟩<;>omega))|(intro hg;(try simp only[bB]at hg);first|omega|(refine⟨?_,?_⟩<;>omega)|(refine⟨?_,?_,?_⟩<;>first|omega|(show _<_;(try simp only[List.length_set]);omega)|exact leT rfl))|(refine⟨?_,?_⟩<;>omega)|(refine⟨?_,?_,?_⟩<;>first|omega|(show _<_;(try simp only[List.length_set]);omega)|exact leT rfl)|(simp only[show rI.d=(0:Int)from rfl];omega));done));(conv=>whnf))))
        exact EvRet.ret (fun _ => by rw [wV, s2 g6]; rfl)
end Go.Proofs.Ythknflclfmnciaa
