
/- Sums of fractions, walked: division of two words by one. -/
import Derived.Test.YthknflclfmnciaaVb
import Derived.Test.YthknflclfmnciaaWa
import Derived.Test.YthknflclfmnciaaWc
namespace Go.Proofs.Ythknflclfmnciaa
open Go.RowKit
set_option linter.unusedVariables false
set_option linter.unusedSimpArgs false

theorem gcdU_s (a b : Nat) (w : World) (ha : a < 18446744073709551616) (hb : b < 18446744073709551616) : Con Try.prog 106 #[.int .u64 (a : Int), .int .u64 (b : Int)] w (Ret w (.int .u64 ((Nat.gcd a b : Nat) : Int))) := by
  refine enter tabOk mixed Try.func106 rfl Try.ntmps106 Try.results106 [.v (.int .u64 (a : Int)), .v (.int .u64 (b : Int))] (fun _ => none) [] 0 rfl rfl (hp0 _ _ _) ?_
  ((conv=>whnf);repeat(refine And.intro (by omega) ?_;(conv=>whnf)))
  refine EvLoop.inv (α := Nat × Nat) (fun p => Nat.gcd p.1 p.2 = Nat.gcd a b) (fun p => p.2) (fun p => [(0, [], .v (.int .u64 (p.1 : Int))), (1, [], .v (.int .u64 (p.2 : Int)))]) (fun p => []) 0 (a, b) rfl (Sub.of [] [] rfl ?_) ?_
  · ((repeat' (refine And.intro ?_ ?_)) <;> first | rfl | exact True.intro | omega)
  intro p hp
  ((conv=>whnf);repeat(refine And.intro (by omega) ?_;(conv=>whnf)))
  refine EvIf.split (fun g1 => ?_) (fun g1 => ?_)
  · have g2 : p.2 ≠ 0 := by
      intro h
      rw [h] at g1
      simp at g1
    have ht : (p.1 : Int).tmod (p.2 : Int) = ((p.1 % p.2 : Nat) : Int) := rfl
    have hml := Nat.mod_lt p.1 (Nat.pos_of_ne_zero g2)
    ((conv=>whnf);repeat(refine And.intro (by omega) ?_;(conv=>whnf)))
    (refine EvDraw.one (.q 0 (.q 1 (.q 2 (.q 3 (.q 4 (.q 5 (.z))))))) (by kernel_rfl) ?_)
    ((conv=>whnf);repeat(refine And.intro (by omega) ?_;(conv=>whnf)))
    refine LoopI.back (p.2, p.1 % p.2) ((gcd_step p.1 p.2 g2).trans hp) hml (Sub.of [] [] rfl ?_)
    (repeat' (refine And.intro ?_ ?_)) <;> first | rfl | exact True.intro | exact ht | exact ht.symm | omega
  · have g2 : p.2 = 0 := by
      have : (p.2 : Int) = 0 := by simpa using g1
      omega
    rw [g2, Nat.gcd_zero_right] at hp
    ((conv=>whnf);repeat(refine And.intro (by omega) ?_;(conv=>whnf)))
    exact ret_u (by rw [hp])
theorem shl_m (x s : Nat) (hs : s ≤ 63) : IntKind.u64.wrap ((x : Int) * 2 ^ min ((s : Int).toNat) IntKind.u64.bits) = ((x * 2 ^ s % 18446744073709551616 : Nat) : Int) := by
  rw [Int.toNat_natCast, show min s IntKind.u64.bits = s from Nat.min_eq_left (by show s ≤ 64; omega)]
  have e : (x : Int) * 2 ^ s = ((x * 2 ^ s : Nat) : Int) := by rw [Int.natCast_mul, Int.natCast_pow]; rfl
  rw [e]
  generalize x * 2 ^ s = z
  simp only [IntKind.wrap, IntKind.bits, IntKind.signed]
  simp
theorem shl_u (x s : Nat) (hs : s ≤ 63) (h : x * 2 ^ s < 18446744073709551616) : IntKind.u64.wrap ((x : Int) * 2 ^ min ((s : Int).toNat) IntKind.u64.bits) = ((x * 2 ^ s : Nat) : Int) := by
  rw [shl_m x s hs, Nat.mod_eq_of_lt h]
theorem shr_u (x s : Nat) (hs : s ≤ 64) : (x : Int).fdiv (2 ^ min ((s : Int).toNat) IntKind.u64.bits) = ((x / 2 ^ s : Nat) : Int) := by
  rw [Int.toNat_natCast, show min s IntKind.u64.bits = s from Nat.min_eq_left (by show s ≤ 64; omega), Int.ofNat_fdiv, Int.natCast_pow]
  rfl
theorem shr_32 (x : Nat) : (x : Int).fdiv (2 ^ min ((32 : Int).toNat) IntKind.u64.bits) = ((x / 4294967296 : Nat) : Int) := shr_u x 32 (by omega)
theorem and_32 (x : Nat) (h : x < 18446744073709551616) : IntKind.u64.wrap ((BitVec.ofInt IntKind.u64.bits (x : Int) &&& BitVec.ofInt IntKind.u64.bits 4294967295).toNat : Int) = ((x % 4294967296 : Nat) : Int) :=
  (congrArg IntKind.u64.wrap (and_low x h)).trans (u64_in _ (by omega))
theorem or_u (a c s : Nat) (ha : a * 2 ^ s + c < 18446744073709551616) (hc : c < 2 ^ s) : IntKind.u64.wrap ((BitVec.ofInt IntKind.u64.bits ((a * 2 ^ s : Nat) : Int) ||| BitVec.ofInt IntKind.u64.bits (c : Int)).toNat : Int) = ((a * 2 ^ s + c : Nat) : Int) :=
  (congrArg IntKind.u64.wrap (or_words a c s (by omega) hc (by omega))).trans (u64_in _ (by omega))
theorem u64_mod (z : Int) : IntKind.u64.wrap z = z % 18446744073709551616 := by
  simp only [IntKind.wrap, IntKind.bits, IntKind.signed]
  simp
theorem quo_u (x y : Nat) (hx : x < 18446744073709551616) : IntKind.u64.wrap ((x : Int).tdiv (y : Int)) = ((x / y : Nat) : Int) := by
  rw [show (x : Int).tdiv (y : Int) = ((x / y : Nat) : Int) from rfl]
  have := Nat.div_le_self x y
  generalize x / y = q at *
  exact u64_in _ (by omega)
theorem rest_u (x y : Nat) (hx : x < 18446744073709551616) : IntKind.u64.wrap ((x : Int) - IntKind.u64.wrap (((x / y : Nat) : Int) * (y : Int))) = ((x % y : Nat) : Int) := by
  have h := Nat.div_add_mod x y
  rw [Nat.mul_comm] at h
  rw [← Int.natCast_mul]
  generalize x / y * y = m at *
  rw [u64_mod, u64_mod]
  omega
theorem rem_w {u d Y q : Nat} (hY : 0 < Y) (hY2 : Y ≤ 18446744073709551616) (hq : q = (u * 4294967296 + d) / Y) : IntKind.u64.wrap (IntKind.u64.wrap (IntKind.u64.wrap ((u : Int) * 4294967296) + (d : Int)) - IntKind.u64.wrap ((q : Int) * (Y : Int))) = (((u * 4294967296 + d) % Y : Nat) : Int) := by
  have h := Nat.div_add_mod (u * 4294967296 + d) Y
  have h2 := Nat.mod_lt (u * 4294967296 + d) hY
  rw [← hq, Nat.mul_comm] at h
  rw [← Int.natCast_mul]
  generalize q * Y = m at *
  generalize (u * 4294967296 + d) % Y = r at *
  simp only [u64_mod]
  omega
theorem guess_test {q r y0 d : Nat} (hr : r < 4294967296) (hd : d < 4294967296) (hy : y0 < 4294967296) :
    ((decide (4294967296 ≤ (q : Int)) || decide (IntKind.u64.wrap (IntKind.u64.wrap (4294967296 * (r : Int)) + (d : Int)) < IntKind.u64.wrap ((q : Int) * (y0 : Int)))) = true → 4294967296 ≤ q ∨ 4294967296 * r + d < q * y0) ∧
    ((decide (4294967296 ≤ (q : Int)) || decide (IntKind.u64.wrap (IntKind.u64.wrap (4294967296 * (r : Int)) + (d : Int)) < IntKind.u64.wrap ((q : Int) * (y0 : Int)))) = false → q < 4294967296 ∧ q * y0 ≤ 4294967296 * r + d) := by
  have e1 : IntKind.u64.wrap (IntKind.u64.wrap (4294967296 * (r : Int)) + (d : Int)) = 4294967296 * (r : Int) + (d : Int) := by
    rw [u64_in (4294967296 * (r : Int)) (by omega), u64_in _ (by omega)]
  have e2 : q < 4294967296 → IntKind.u64.wrap ((q : Int) * (y0 : Int)) = ((q * y0 : Nat) : Int) := by
    intro h
    have : q * y0 ≤ 4294967295 * 4294967295 := Nat.mul_le_mul (by omega) (by omega)
    rw [← Int.natCast_mul]
    exact u64_in _ (by omega)
  rw [e1]
  constructor
  · intro h
    rcases Nat.lt_or_ge q 4294967296 with h1 | h1
    · rw [e2 h1] at h
      simp only [Bool.or_eq_true, decide_eq_true_eq] at h
      omega
    · exact .inl h1
  · intro h
    simp only [Bool.or_eq_false_iff, decide_eq_false_iff_not] at h
    have h1 : q < 4294967296 := by omega
    rw [e2 h1] at h
    omega
theorem dec_u (q : Nat) (h : 1 ≤ q) (h2 : q ≤ 4294967297) : IntKind.u64.wrap ((q : Int) - 1) = ((q - 1 : Nat) : Int) := by
  rw [u64_in _ (by omega)]; omega
theorem inc_u (r y : Nat) (h : r < 4294967296) (h2 : y < 4294967296) : IntKind.u64.wrap ((r : Int) + (y : Int)) = ((r + y : Nat) : Int) := by
  rw [u64_in _ (by omega)]; omega
theorem join_u (a b : Nat) (h : a < 4294967296) (h2 : b < 4294967296) : IntKind.u64.wrap (IntKind.u64.wrap ((a : Int) * 4294967296) + (b : Int)) = ((a * 4294967296 + b : Nat) : Int) := by
  rw [u64_in ((a : Int) * 4294967296) (by omega), u64_in _ (by omega)]; omega
theorem lz_s (y : Nat) (hy : y < 18446744073709551616) (s : Nat) (hs : Lib.bitLen y + s = 64) (w : World) : Con Try.prog 114 #[.int .u64 (y : Int)] w (Ret w (.int .i64 (s : Int))) :=
  ⟨(Try.bits_LeadingZeros64 (y : Int) w (by omega) (by omega)).mono fun e w' h => ret_eq (by rw [h.1, h.2]; refine ⟨?_, rfl⟩; rw [Int.toNat_natCast, show (64 : Int) - (Lib.bitLen y : Int) = (s : Int) by omega])⟩
set_option maxRecDepth 10000 in
theorem div64_s (hi lo y : Nat) (w : World) (hh : hi < y) (hl : lo < 18446744073709551616) (hy : y < 18446744073709551616) : Con Try.prog 107 #[.int .u64 (hi : Int), .int .u64 (lo : Int), .int .u64 (y : Int)] w
    (Ret w (.tuple #[.int .u64 (((hi * 18446744073709551616 + lo) / y : Nat) : Int), .int .u64 (((hi * 18446744073709551616 + lo) % y : Nat) : Int)])) := by
  refine enter tabOk mixed Try.func107 rfl Try.ntmps107 Try.results107 [.v (.int .u64 (hi : Int)), .v (.int .u64 (lo : Int)), .v (.int .u64 (y : Int))] (fun _ => none) [] 0 rfl rfl (hp0 _ _ _) ?_
  ((conv=>whnf);repeat(refine And.intro (by omega) ?_;(conv=>whnf)))
  refine EvIf.neg (by simp; omega) ?_
  ((conv=>whnf);repeat(refine And.intro (by omega) ?_;(conv=>whnf)))
  refine EvIf.neg (by simp; omega) ?_
  ((conv=>whnf);repeat(refine And.intro (by omega) ?_;(conv=>whnf)))
  refine EvIf.split (fun g1 => ?_) (fun g1 => ?_)
  · have g2 : hi = 0 := by simp at g1; omega
    subst g2
    have h1 : (lo : Int).tdiv (y : Int) = ((lo / y : Nat) : Int) := rfl
    have h2 : (lo : Int).tmod (y : Int) = ((lo % y : Nat) : Int) := rfl
    have h3 := Nat.div_le_self lo y
    have h4 : IntKind.u64.wrap ((lo / y : Nat) : Int) = ((lo / y : Nat) : Int) := by
      generalize lo / y = q at h3
      exact u64_in _ (by omega)
    ((conv=>whnf);repeat(refine And.intro (by omega) ?_;(conv=>whnf)))
    refine EvDraw.meet (.q 0 (.q 1 (.q 2 (.q 3 (.q 4 (.q 5 (.q 6 (.q 7 (.z))))))))) (by kernel_rfl) (α := Unit) (fun _ => True) (fun _ => [(6, [], .v (.int .u64 ((lo / y : Nat) : Int))), (7, [], .v (.int .u64 ((lo % y : Nat) : Int)))]) (fun _ => []) 0 ?_ ?_
    · ((conv=>whnf);repeat(refine And.intro (by omega) ?_;(conv=>whnf)))
      refine Exists.intro () (And.intro trivial (Sub.of [] [] rfl ?_))
      (repeat' (refine And.intro ?_ ?_)) <;> first | rfl | exact True.intro | exact h4 | exact h4.symm | omega
    intro _ _
    ((conv=>whnf);repeat(refine And.intro (by omega) ?_;(conv=>whnf)))
    exact EvRet.ret (fun _ => by rw [Nat.zero_mul, Nat.zero_add]; rfl)
  obtain ⟨s, hs, hs2, hY1, hY2⟩ := shift_full (show 0 < y by omega) hy
  obtain ⟨hw1, hw2⟩ := shift_words (hi := hi) hs hl
  obtain ⟨hd1, hd2⟩ := shift_div (n := hi * 18446744073709551616 + lo) (y := y) (s := s) (by omega)
  have hlt := shift_lt hh hw1
  ((conv=>whnf);repeat(refine And.intro (by omega) ?_;(conv=>whnf)))
  refine EvCall.plain Try.call114 (.v (.int .i64 (s : Int))) rfl (fun ρ W hp => lz_s y hy s hs2 W) ?_
  ((conv=>whnf);repeat(refine And.intro (by omega) ?_;(conv=>whnf)))
  rw [u64_in (s : Int) (by omega)]
  ((conv=>whnf);repeat(refine And.intro (by omega) ?_;(conv=>whnf)))
  rw [u64_in (64 - (s : Int)) (by omega), show (64 - (s : Int)) = ((64 - s : Nat) : Int) by omega]
  ((conv=>whnf);repeat(refine And.intro (by omega) ?_;(conv=>whnf)))
  rw [shl_u y s hs hY2, shl_u hi s hs (Nat.lt_of_le_of_lt (Nat.le_add_right _ _) (Nat.lt_trans hlt hY2)), shr_u lo (64 - s) (by omega), shl_m lo s hs, or_u hi (lo / 2 ^ (64 - s)) s (Nat.lt_trans hlt hY2) hw1]
  generalize y * 2 ^ s = Y at *
  generalize hi * 2 ^ s + lo / 2 ^ (64 - s) = u at *
  have hv : lo * 2 ^ s % 18446744073709551616 < 18446744073709551616 := Nat.mod_lt _ (by omega)
  generalize lo * 2 ^ s % 18446744073709551616 = v at *
  rw [shr_32 Y, and_32 Y hY2, shr_32 v, and_32 v hv]
  obtain ⟨y1, hy1⟩ : ∃ z, Y / 4294967296 = z := ⟨_, rfl⟩
  obtain ⟨y0, hy0⟩ : ∃ z, Y % 4294967296 = z := ⟨_, rfl⟩
  obtain ⟨v1, hv1⟩ : ∃ z, v / 4294967296 = z := ⟨_, rfl⟩
  obtain ⟨v0, hv0⟩ : ∃ z, v % 4294967296 = z := ⟨_, rfl⟩
  rw [hy1, hy0, hv1, hv0]
  have eY : Y = y1 * 4294967296 + y0 := by omega
  have k1 : 2147483648 ≤ y1 ∧ y1 < 4294967296 := by omega
  have k0 : y0 < 4294967296 := by omega
  have kv1 : v1 < 4294967296 := by omega
  have kv0 : v0 < 4294967296 := by omega
  have ev : u * 18446744073709551616 + v = u * 18446744073709551616 + v1 * 4294967296 + v0 := by omega
  obtain ⟨td1, td2⟩ := two_digits (u := u) (d1 := v1) (d0 := v0) (Y := Y) (by omega)
  rw [← ev, ← hw2] at td1 td2
  rw [hd1] at td1
  rw [td2] at hd2
  have hu2 : u < y1 * 4294967296 + y0 := by omega
  clear hy1 hy0 hv1 hv0 ev hd1 td2 hw2 hw1
  refine And.intro (by omega) ?_
  ((conv=>whnf);repeat(refine And.intro (by omega) ?_;(conv=>whnf)))
  rw [quo_u u y1 (by omega), rest_u u y1 (by omega)]
  refine EvLoop.inv (α := Nat × Nat) (fun p => Guess u v1 y1 y0 p.1 p.2 ∧ p.2 < 4294967296) (fun p => p.1) (fun p => [(2, [], .v (.int .u64 (Y : Int))), (8, [], .v (.int .u64 (s : Int))), (9, [], .v (.int .u64 (y1 : Int))), (10, [], .v (.int .u64 (y0 : Int))), (11, [], .v (.int .u64 (u : Int))), (13, [], .v (.int .u64 (v1 : Int))), (14, [], .v (.int .u64 (v0 : Int))), (15, [], .v (.int .u64 (p.1 : Int))), (16, [], .v (.int .u64 (p.2 : Int)))]) (fun p => []) 0 (u / y1, u % y1) ⟨guess_first k1.1 kv1, Nat.lt_trans (Nat.mod_lt _ (by omega)) k1.2⟩ (Sub.of [] [] rfl ?_) ?_
  · ((repeat' (refine And.intro ?_ ?_)) <;> first | rfl | exact True.intro | omega)
  intro p hp
  obtain ⟨hp1, hp2⟩ := hp
  ((conv=>whnf);repeat(refine And.intro (by omega) ?_;(conv=>whnf)))
  refine EvIf.split (fun g2 => ?_) (fun g2 => ?_)
  · obtain ⟨m1, m2⟩ := guess_down hp1 k1.1 kv1 hu2 ((guess_test hp2 kv1 k0).1 g2)
    have m3 := (guess_le hp1 k1.1 k0 hu2).1
    ((conv=>whnf);repeat(refine And.intro (by omega) ?_;(conv=>whnf)))
    rw [dec_u p.1 m1 m3, inc_u p.2 y1 hp2 k1.2]
    refine EvIf.split (fun g3 => ?_) (fun g3 => ?_)
    · have hq := guess_end m2 k1.1 k0 hu2 (.inl (by have := of_decide_eq_true g3; omega))
      obtain ⟨c, hc⟩ : ∃ c : Nat × Nat, c = (p.1 - 1, p.2 + y1) := ⟨_, rfl⟩
      rw [show p.1 - 1 = c.1 by rw [hc], show p.2 + y1 = c.2 by rw [hc]]
      rw [show p.1 - 1 = c.1 by rw [hc]] at hq
      clear hp1 hp2 m1 m2 m3 hc
      clear g2
      generalize c = p at *
      rw [← eY] at hq
      obtain ⟨q1, hq1⟩ : ∃ z, p.1 = z := ⟨_, rfl⟩
      rw [hq1] at hq
      have hrem := rem_w (u := u) (d := v1) (q := q1) (show 0 < Y by omega) (by omega) hq
      have hr1 := Nat.mod_lt (u * 4294967296 + v1) (show Y > 0 by omega)
      have hq1l : q1 < 4294967296 := by rw [hq]; exact digit_lt hlt kv1
      rw [← hq] at td1
      ((conv=>whnf);repeat(refine And.intro (by omega) ?_;(conv=>whnf)))
      rw [hq1, hrem]
      obtain ⟨r1, er1⟩ : ∃ z, (u * 4294967296 + v1) % Y = z := ⟨_, rfl⟩
      rw [er1]
      rw [er1] at hr1 td1 hd2
      clear hrem er1
      rw [quo_u r1 y1 (by omega), rest_u r1 y1 (by omega)]
      have hr2 : r1 < y1 * 4294967296 + y0 := by omega
      refine EvLoop.inv (α := Nat × Nat) (fun p => Guess r1 v0 y1 y0 p.1 p.2 ∧ p.2 < 4294967296) (fun p => p.1) (fun p => [(2, [], .v (.int .u64 (Y : Int))), (8, [], .v (.int .u64 (s : Int))), (9, [], .v (.int .u64 (y1 : Int))), (10, [], .v (.int .u64 (y0 : Int))), (17, [], .v (.int .u64 (r1 : Int))), (14, [], .v (.int .u64 (v0 : Int))), (15, [], .v (.int .u64 (q1 : Int))), (18, [], .v (.int .u64 (p.1 : Int))), (16, [], .v (.int .u64 (p.2 : Int)))]) (fun p => []) 0 (r1 / y1, r1 % y1) ⟨guess_first k1.1 kv0, Nat.lt_trans (Nat.mod_lt _ (by omega)) k1.2⟩ (Sub.of [] [] rfl ?_) ?_
      · ((repeat' (refine And.intro ?_ ?_)) <;> first | rfl | exact True.intro | omega)
      intro b hb
      obtain ⟨hb1, hb2⟩ := hb
      ((conv=>whnf);repeat(refine And.intro (by omega) ?_;(conv=>whnf)))
      refine EvIf.split (fun g2 => ?_) (fun g2 => ?_)
      · obtain ⟨m1, m2⟩ := guess_down hb1 k1.1 kv0 hr2 ((guess_test hb2 kv0 k0).1 g2)
        have m3 := (guess_le hb1 k1.1 k0 hr2).1
        ((conv=>whnf);repeat(refine And.intro (by omega) ?_;(conv=>whnf)))
        rw [dec_u b.1 m1 m3, inc_u b.2 y1 hb2 k1.2]
        refine EvIf.split (fun g3 => ?_) (fun g3 => ?_)
        · have hq2 := guess_end m2 k1.1 k0 hr2 (.inl (by have := of_decide_eq_true g3; omega))
          obtain ⟨c, hc⟩ : ∃ c : Nat × Nat, c = (b.1 - 1, b.2 + y1) := ⟨_, rfl⟩
          rw [show b.1 - 1 = c.1 by rw [hc], show b.2 + y1 = c.2 by rw [hc]]
          rw [show b.1 - 1 = c.1 by rw [hc]] at hq2
          clear hb1 hb2 m1 m2 m3 hc
          clear g2
          generalize c = b at *
          rw [← eY] at hq2
          have hrem2 := rem_w (u := r1) (d := v0) (q := b.1) (show 0 < Y by omega) (by omega) hq2
          ((conv=>whnf);repeat(refine And.intro (by omega) ?_;(conv=>whnf)))
          rw [join_u q1 b.1 hq1l (by rw [hq2]; exact digit_lt hr1 kv0), hrem2, shr_u _ s (by omega), hq2, hd2, ← td1]
          ((conv=>whnf);repeat(refine And.intro (by omega) ?_;(conv=>whnf)))
          exact EvRet.ret (fun _ => rfl)
        · ((conv=>whnf);repeat(refine And.intro (by omega) ?_;(conv=>whnf)))
          refine LoopI.back (b.1 - 1, b.2 + y1) ⟨m2, ?_⟩ (show b.1 - 1 < b.1 by omega) (Sub.of [] [] rfl ?_)
          · have := of_decide_eq_false g3
            show b.2 + y1 < 4294967296
            omega
          · ((repeat' (refine And.intro ?_ ?_)) <;> first | rfl | exact True.intro | omega)
      · have hq2 := guess_end hb1 k1.1 k0 hr2 (.inr ((guess_test hb2 kv0 k0).2 g2))
        rw [← eY] at hq2
        have hrem2 := rem_w (u := r1) (d := v0) (q := b.1) (show 0 < Y by omega) (by omega) hq2
        ((conv=>whnf);repeat(refine And.intro (by omega) ?_;(conv=>whnf)))
        rw [join_u q1 b.1 hq1l (by rw [hq2]; exact digit_lt hr1 kv0), hrem2, shr_u _ s (by omega), hq2, hd2, ← td1]
        ((conv=>whnf);repeat(refine And.intro (by omega) ?_;(conv=>whnf)))
        exact EvRet.ret (fun _ => rfl)
    · ((conv=>whnf);repeat(refine And.intro (by omega) ?_;(conv=>whnf)))
      refine LoopI.back (p.1 - 1, p.2 + y1) ⟨m2, ?_⟩ (show p.1 - 1 < p.1 by omega) (Sub.of [] [] rfl ?_)
      · have := of_decide_eq_false g3
        show p.2 + y1 < 4294967296
        omega
      · ((repeat' (refine And.intro ?_ ?_)) <;> first | rfl | exact True.intro | omega)
  · have hq := guess_end hp1 k1.1 k0 hu2 (.inr ((guess_test hp2 kv1 k0).2 g2))
    rw [← eY] at hq
    obtain ⟨q1, hq1⟩ : ∃ z, p.1 = z := ⟨_, rfl⟩
    rw [hq1] at hq
    have hrem := rem_w (u := u) (d := v1) (q := q1) (show 0 < Y by omega) (by omega) hq
    have hr1 := Nat.mod_lt (u * 4294967296 + v1) (show Y > 0 by omega)
    have hq1l : q1 < 4294967296 := by rw [hq]; exact digit_lt hlt kv1
    rw [← hq] at td1
    ((conv=>whnf);repeat(refine And.intro (by omega) ?_;(conv=>whnf)))
    rw [hq1, hrem]
    obtain ⟨r1, er1⟩ : ∃ z, (u * 4294967296 + v1) % Y = z := ⟨_, rfl⟩
    rw [er1]
    rw [er1] at hr1 td1 hd2
    clear hrem er1
    rw [quo_u r1 y1 (by omega), rest_u r1 y1 (by omega)]
    have hr2 : r1 < y1 * 4294967296 + y0 := by omega
    refine EvLoop.inv (α := Nat × Nat) (fun p => Guess r1 v0 y1 y0 p.1 p.2 ∧ p.2 < 4294967296) (fun p => p.1) (fun p => [(2, [], .v (.int .u64 (Y : Int))), (8, [], .v (.int .u64 (s : Int))), (9, [], .v (.int .u64 (y1 : Int))), (10, [], .v (.int .u64 (y0 : Int))), (17, [], .v (.int .u64 (r1 : Int))), (14, [], .v (.int .u64 (v0 : Int))), (15, [], .v (.int .u64 (q1 : Int))), (18, [], .v (.int .u64 (p.1 : Int))), (16, [], .v (.int .u64 (p.2 : Int)))]) (fun p => []) 0 (r1 / y1, r1 % y1) ⟨guess_first k1.1 kv0, Nat.lt_trans (Nat.mod_lt _ (by omega)) k1.2⟩ (Sub.of [] [] rfl ?_) ?_
    · ((repeat' (refine And.intro ?_ ?_)) <;> first | rfl | exact True.intro | omega)
    intro b hb
    obtain ⟨hb1, hb2⟩ := hb
    ((conv=>whnf);repeat(refine And.intro (by omega) ?_;(conv=>whnf)))
    refine EvIf.split (fun g2 => ?_) (fun g2 => ?_)
    · obtain ⟨m1, m2⟩ := guess_down hb1 k1.1 kv0 hr2 ((guess_test hb2 kv0 k0).1 g2)
      have m3 := (guess_le hb1 k1.1 k0 hr2).1
      ((conv=>whnf);repeat(refine And.intro (by omega) ?_;(conv=>whnf)))
      rw [dec_u b.1 m1 m3, inc_u b.2 y1 hb2 k1.2]
      refine EvIf.split (fun g3 => ?_) (fun g3 => ?_)
      · have hq2 := guess_end m2 k1.1 k0 hr2 (.inl (by have := of_decide_eq_true g3; omega))
        obtain ⟨c, hc⟩ : ∃ c : Nat × Nat, c = (b.1 - 1, b.2 + y1) := ⟨_, rfl⟩
        rw [show b.1 - 1 = c.1 by rw [hc], show b.2 + y1 = c.2 by rw [hc]]
        rw [show b.1 - 1 = c.1 by rw [hc]] at hq2
        clear hb1 hb2 m1 m2 m3 hc
        clear g2
        generalize c = b at *
        rw [← eY] at hq2
        have hrem2 := rem_w (u := r1) (d := v0) (q := b.1) (show 0 < Y by omega) (by omega) hq2
        ((conv=>whnf);repeat(refine And.intro (by omega) ?_;(conv=>whnf)))
        rw [join_u q1 b.1 hq1l (by rw [hq2]; exact digit_lt hr1 kv0), hrem2, shr_u _ s (by omega), hq2, hd2, ← td1]
        ((conv=>whnf);repeat(refine And.intro (by omega) ?_;(conv=>whnf)))
        exact EvRet.ret (fun _ => rfl)
      · ((conv=>whnf);repeat(refine And.intro (by omega) ?_;(conv=>whnf)))
        refine LoopI.back (b.1 - 1, b.2 + y1) ⟨m2, ?_⟩ (show b.1 - 1 < b.1 by omega) (Sub.of [] [] rfl ?_)
        · have := of_decide_eq_false g3
          show b.2 + y1 < 4294967296
          omega
        · ((repeat' (refine And.intro ?_ ?_)) <;> first | rfl | exact True.intro | omega)
    · have hq2 := guess_end hb1 k1.1 k0 hr2 (.inr ((guess_test hb2 kv0 k0).2 g2))
      rw [← eY] at hq2
      have hrem2 := rem_w (u := r1) (d := v0) (q := b.1) (show 0 < Y by omega) (by omega) hq2
      ((conv=>whnf);repeat(refine And.intro (by omega) ?_;(conv=>whnf)))
      rw [join_u q1 b.1 hq1l (by rw [hq2]; exact digit_lt hr1 kv0), hrem2, shr_u _ s (by omega), hq2, hd2, ← td1]
      ((conv=>whnf);repeat(refine And.intro (by omega) ?_;(conv=>whnf)))
      exact EvRet.ret (fun _ => rfl)
end Go.Proofs.Ythknflclfmnciaa
