
/- Package wire, the writer; Encode of a ledger, walked. -/
import Derived.Test.YtebfhljamoapjaaYp
import Derived.Test.YtebfhljamoapjaaYo
import Derived.Test.YtebfhljamoapjaaBl
namespace Go.Proofs.Ytebfhljamoapjaa
open Go.RowKit
set_option linter.unusedVariables false
set_option linter.unusedSimpArgs false

theorem EvCall.argsE {P : Program} {w : Ref} {f : FuncId} {args : List SV} {L : List Ob} {nx : Nat} {kp : Bool} {k : SV → List Ob → Nat → Prop} (args' : List SV) (h : args = args') (hk : EvCall kp P w f args' L nx k) : EvCall kp P w f args L nx k := h ▸ hk
theorem u64_mod (z : Int) : IntKind.wrap .u64 z = z % 18446744073709551616 := by simp [IntKind.wrap, IntKind.bits, IntKind.signed]
theorem u8_mod (z : Int) : IntKind.wrap .u8 z = z % 256 := by simp [IntKind.wrap, IntKind.bits, IntKind.signed]
theorem u64_nat {n : Nat} (h : n < 18446744073709551616) : IntKind.wrap .u64 (n : Int) = (n : Int) := by rw [u64_mod]; omega
theorem zig_eq {b : Int} (h0 : 0 ≤ b) (h1 : b < 4611686018427387904) : IntKind.u64.wrap ↑(BitVec.ofInt IntKind.u64.bits (IntKind.u64.wrap (IntKind.u64.wrap b * 2 ^ min (Int.toNat 1) IntKind.u64.bits)) ^^^ BitVec.ofInt IntKind.u64.bits (IntKind.u64.wrap (b.fdiv (2 ^ min (Int.toNat 63) IntKind.i64.bits)))).toNat = ((2 * b.toNat : Nat) : Int) := by
  have e1 : (2 : Int) ^ min (Int.toNat 1) IntKind.u64.bits = 2 := by decide
  have e2 : (2 : Int) ^ min (Int.toNat 63) IntKind.i64.bits = 9223372036854775808 := by rw [show min (Int.toNat 63) IntKind.i64.bits = 63 from by decide]; simp
  have e3 : b.fdiv 9223372036854775808 = 0 := by rw [Int.fdiv_eq_ediv_of_nonneg _ (by decide)]; omega
  rw [e1, e2, e3, u64_mod, u64_mod, u64_mod, u64_mod]
  have e4 : b % 18446744073709551616 * 2 % 18446744073709551616 = ((2 * b.toNat : Nat) : Int) := by omega
  have e5 : (0 : Int) % 18446744073709551616 = 0 := by decide
  rw [e4, e5]
  have e6 : BitVec.ofInt IntKind.u64.bits 0 = 0#_ := by decide
  rw [e6, BitVec.xor_zero, BitVec.toNat_ofInt]
  have e7 : (2 ^ IntKind.u64.bits : Nat) = 18446744073709551616 := by decide
  rw [e7]
  omega
theorem byte_or (m : Nat) : IntKind.u8.wrap ↑(BitVec.ofInt IntKind.u8.bits (IntKind.u8.wrap (m : Int)) ||| BitVec.ofInt IntKind.u8.bits 128).toNat = ((m % 128 + 128 : Nat) : Int) := by
  rw [u8_mod, u8_mod]
  obtain ⟨k, hk, hk2⟩ : ∃ k : Nat, k < 256 ∧ (m : Int) % 256 = (k : Int) := ⟨m % 256, by omega, by omega⟩
  rw [hk2]
  have hm : m % 128 = k % 128 := by omega
  rw [hm]
  clear hk2 hm
  have key : ∀ k : Fin 256, (((BitVec.ofInt IntKind.u8.bits ((k.val : Nat) : Int) ||| BitVec.ofInt IntKind.u8.bits 128).toNat : Nat) : Int) % 256 = ((k.val % 128 + 128 : Nat) : Int) := by decide +kernel
  exact key ⟨k, hk⟩
theorem lit_or (m : Nat) : [Value.int .u8 (IntKind.u8.wrap ↑(BitVec.ofInt IntKind.u8.bits (IntKind.u8.wrap (m : Int)) ||| BitVec.ofInt IntKind.u8.bits 128).toNat)] = rowC rU [((m % 128 + 128 : Nat) : Int)] := by rw [byte_or]; rfl
theorem lit_byte {m : Nat} (h : m < 128) : [Value.int .u8 (IntKind.u8.wrap (m : Int))] = rowC rU [(m : Int)] := by rw [u8_mod, show (m : Int) % 256 = m by omega]; rfl
theorem shr7 (m : Nat) : (m : Int).fdiv (2 ^ min (Int.toNat 7) IntKind.u64.bits) = ((m / 128 : Nat) : Int) := by
  have e : (2 : Int) ^ min (Int.toNat 7) IntKind.u64.bits = 128 := by decide
  rw [e, Int.fdiv_eq_ediv_of_nonneg _ (by decide)]
  omega
/-- A number half written: places left, what is left of it, bytes so far, room. -/
structure WIn (xs : List Int) (n : Nat) (p : Nat × Nat × List Int × Nat) : Prop where
  pos : 1 ≤ p.1
  le : p.1 ≤ 10
  lt : p.2.1 < 128 ^ p.1
  eq : p.2.2.1 ++ encF p.1 p.2.1 = xs ++ encU n
  cap : p.2.2.1.length ≤ p.2.2.2
  max : p.2.2.2 ≤ 9223372036854775807
theorem WIn.start {xs : List Int} {n c : Nat} (h : n < 18446744073709551616) (hc : xs.length ≤ c) (hm : c ≤ 9223372036854775807) : WIn xs n (10, n, xs, c) := by
  have h10 : n < 128 ^ 10 := by
    have e : (128 : Nat) ^ 10 = 1180591620717411303424 := by decide
    omega
  exact ⟨by show 1 ≤ 10; decide, by show 10 ≤ 10; decide, h10, rfl, hc, hm⟩
theorem WIn.len {xs : List Int} {n : Nat} {p : Nat × Nat × List Int × Nat} (h : WIn xs n p) : p.2.2.1.length ≤ xs.length + 10 := by
  have h1 := congrArg List.length h.eq
  have h2 := encF_len 10 n
  rw [List.length_append, List.length_append] at h1
  unfold encU at h1
  omega
theorem WIn.step {xs : List Int} {n : Nat} {p : Nat × Nat × List Int × Nat} (h : WIn xs n p) (g : 128 ≤ p.2.1) {c : Nat} (h1 : p.2.2.1.length + [((p.2.1 % 128 + 128 : Nat) : Int)].length ≤ c) (h2 : c ≤ 9223372036854775807) :
    WIn xs n (p.1 - 1, p.2.1 / 128, p.2.2.1 ++ [((p.2.1 % 128 + 128 : Nat) : Int)], c) := by
  obtain ⟨f, m, pre, cp⟩ := p
  obtain ⟨a1, a2, a3, a4, a5, a6⟩ := h
  simp only at *
  obtain ⟨f, rfl⟩ : ∃ f', f = f' + 1 := ⟨f - 1, by omega⟩
  have hf : 1 ≤ f := by
    rcases Nat.eq_zero_or_pos f with h0 | h0
    · subst h0
      simp at a3
      omega
    · exact h0
  refine ⟨by simpa using hf, by simp; omega, ?_, ?_, by simpa using h1, h2⟩
  · show m / 128 < 128 ^ (f + 1 - 1)
    rw [Nat.pow_succ] at a3
    exact Nat.div_lt_of_lt_mul (by rw [Nat.mul_comm]; exact a3)
  · rw [← a4]
    simp only [Nat.add_sub_cancel]
    conv => { rhs; rw [show encF (f + 1) m = ((m % 128 + 128 : Nat) : Int) :: encF f (m / 128) by rw [encF, if_neg (by omega)]] }
    simp
theorem WIn.fin {xs : List Int} {n : Nat} {p : Nat × Nat × List Int × Nat} (h : WIn xs n p) (g : p.2.1 < 128) : p.2.2.1 ++ [(p.2.1 : Int)] = xs ++ encU n := by
  obtain ⟨f, m, pre, cp⟩ := p
  obtain ⟨a1, a2, a3, a4, a5, a6⟩ := h
  simp only at *
  obtain ⟨f, rfl⟩ : ∃ f', f = f' + 1 := ⟨f - 1, by omega⟩
  rw [← a4, encF, if_pos g]
theorem cloneu_s (v : Value) (l : List Int) (w : World) (hv : RowsIn rU w v l) (hn : l.length ≤ 1000000000) : Con Try.prog 64 #[v] w (RetRows rU 5 w l) := by
  obtain ⟨A1, c1, rfl, e1, e2⟩ := hv.form
  cases A1 with
  | none =>
    have hl : l = [] := by
      obtain ⟨A, c, e, _, _, _, h4⟩ := hv
      rcases Nat.eq_zero_or_pos l.length with h | h
      · exact List.eq_nil_of_length_eq_zero h
      · obtain ⟨b, off, hA, _⟩ := h4 h
        simp at e
        rw [hA] at e
        cases e.1
    refine enter tabOk mixed Try.func64 rfl Try.ntmps64 Try.results64 [.v (.slice none l.length c1)] (fun _ => none) [] 0 rfl rfl (hp0 _ _ _) ?_
    ((conv=>whnf);(repeat(refine And.intro ?_ ?_;(focus((first|omega|exact⟨rfl,True.intro⟩|exact⟨rfl,rfl,True.intro⟩|rfl|(simp only[List.length_set];first|omega|(refine⟨?_,?_⟩<;>omega)|(refine⟨?_,?_,?_⟩<;>omega))|(intro hg;(try simp only[bB]at hg);first|omega|(refine⟨?_,?_⟩<;>omega)|(refine⟨?_,?_,?_⟩<;>first|omega|(show _<_;(try simp only[List.length_set]);omega)|exact leT rfl))|(refine⟨?_,?_⟩<;>omega)|(refine⟨?_,?_,?_⟩<;>first|omega|(show _<_;(try simp only[List.length_set]);omega)|exact leT rfl)|(simp only[show rI.d=(0:Int)from rfl];omega));done));(conv=>whnf))))
    refine EvIf.pos rfl ?_
    ((conv=>whnf);(repeat(refine And.intro ?_ ?_;(focus((first|omega|exact⟨rfl,True.intro⟩|exact⟨rfl,rfl,True.intro⟩|rfl|(simp only[List.length_set];first|omega|(refine⟨?_,?_⟩<;>omega)|(refine⟨?_,?_,?_⟩<;>omega))|(intro hg;(try simp only[bB]at hg);first|omega|(refine⟨?_,?_⟩<;>omega)|(refine⟨?_,?_,?_⟩<;>first|omega|(show _<_;(try simp only[List.length_set]);omega)|exact leT rfl))|(refine⟨?_,?_⟩<;>omega)|(refine⟨?_,?_,?_⟩<;>first|omega|(show _<_;(try simp only[List.length_set]);omega)|exact leT rfl)|(simp only[show rI.d=(0:Int)from rfl];omega));done));(conv=>whnf))))
    exact EvRet.rows_nil hl
  | some B =>
    refine enter tabOk mixed Try.func64 rfl Try.ntmps64 Try.results64 [.v (.slice (some B) l.length c1)] (fun _ => none) [] 0 rfl rfl (hp0 _ _ _) ?_
    ((conv=>whnf);(repeat(refine And.intro ?_ ?_;(focus((first|omega|exact⟨rfl,True.intro⟩|exact⟨rfl,rfl,True.intro⟩|rfl|(simp only[List.length_set];first|omega|(refine⟨?_,?_⟩<;>omega)|(refine⟨?_,?_,?_⟩<;>omega))|(intro hg;(try simp only[bB]at hg);first|omega|(refine⟨?_,?_⟩<;>omega)|(refine⟨?_,?_,?_⟩<;>first|omega|(show _<_;(try simp only[List.length_set]);omega)|exact leT rfl))|(refine⟨?_,?_⟩<;>omega)|(refine⟨?_,?_,?_⟩<;>first|omega|(show _<_;(try simp only[List.length_set]);omega)|exact leT rfl)|(simp only[show rI.d=(0:Int)from rfl];omega));done));(conv=>whnf))))
    refine EvIf.neg rfl ?_
    ((conv=>whnf);(repeat(refine And.intro ?_ ?_;(focus((first|omega|exact⟨rfl,True.intro⟩|exact⟨rfl,rfl,True.intro⟩|rfl|(simp only[List.length_set];first|omega|(refine⟨?_,?_⟩<;>omega)|(refine⟨?_,?_,?_⟩<;>omega))|(intro hg;(try simp only[bB]at hg);first|omega|(refine⟨?_,?_⟩<;>omega)|(refine⟨?_,?_,?_⟩<;>first|omega|(show _<_;(try simp only[List.length_set]);omega)|exact leT rfl))|(refine⟨?_,?_⟩<;>omega)|(refine⟨?_,?_,?_⟩<;>first|omega|(show _<_;(try simp only[List.length_set]);omega)|exact leT rfl)|(simp only[show rI.d=(0:Int)from rfl];omega));done));(conv=>whnf))))
    refine EvBi.recast (n := 0) rfl (.rows Int rU []) (fun _ => rfl) rfl ?_
    refine EvBi.append (R := rU) (xs := []) tyok29 rfl tyok5 rfl (by decide) rfl rfl rfl (Nat.zero_le _) l (fun ρ W hp => hv.below hp.bel) (by show (0 + _) * 1 ≤ _; omega) (by show 0 + _ ≤ _; omega) (fun cap2 hq1 hq2 => ?_)
    ((conv=>whnf);(repeat(refine And.intro ?_ ?_;(focus((first|omega|exact⟨rfl,True.intro⟩|exact⟨rfl,rfl,True.intro⟩|rfl|(simp only[List.length_set];first|omega|(refine⟨?_,?_⟩<;>omega)|(refine⟨?_,?_,?_⟩<;>omega))|(intro hg;(try simp only[bB]at hg);first|omega|(refine⟨?_,?_⟩<;>omega)|(refine⟨?_,?_,?_⟩<;>first|omega|(show _<_;(try simp only[List.length_set]);omega)|exact leT rfl))|(refine⟨?_,?_⟩<;>omega)|(refine⟨?_,?_,?_⟩<;>first|omega|(show _<_;(try simp only[List.length_set]);omega)|exact leT rfl)|(simp only[show rI.d=(0:Int)from rfl];omega));done));(conv=>whnf))))
    exact EvRet.rows (R := rU) (ys := l) (by simp) (by simpa using hq1) rfl rfl
set_option maxRecDepth 10000 in
theorem encode_s (V v : Value) (b sp : Int) (es : List En) (w : World) (h : PtrIn w V [.int .i64 b, .int .i64 sp, v]) (hv : RowsIn rE w v es) (hl : es.length ≤ 1000000) (hb0 : 0 ≤ b) (hb1 : b ≤ 2147483648) (he : ∀ e ∈ es, 0 ≤ e.2 ∧ e.2 ≤ 2147483648 ∧ e.1.size ≤ 16) :
    Con Try.prog 16 #[V] w (RetRows rU 5 w (encLed b es)) := by
  obtain ⟨B1, off, rfl, _⟩ := id h
  obtain ⟨A1, c1, rfl, e1, e2⟩ := hv.form
  have h' : PtrIn w (.pointer (some ⟨B1, off, none⟩)) (denL (fun n => if n = 0 then A1 else some ⟨B1, off, none⟩) [.v (.int .i64 b), .v (.int .i64 sp), .s 0 2 es.length c1]) := h
  refine enter tabOk mixed Try.func16 rfl Try.ntmps16 Try.results16 [.p 1 0] (fun n => if n = 0 then A1 else some ⟨B1, off, none⟩) [⟨1, false, 91, 3, 1, .cs [.v (.int .i64 b), .v (.int .i64 sp), .s 0 2 es.length c1]⟩, ⟨0, false, 92, 2, c1, .rows (ByteArray × Int) rE es⟩] 2 rfl rfl (.ro (.ro (hp0 _ _ _) _ rfl rfl rfl (ro_rows hv rfl _)) _ rfl rfl rfl (ro_ptr h' rfl)) ?_
  ((conv=>whnf);(repeat(refine And.intro ?_ ?_;(focus((first|omega|exact⟨rfl,True.intro⟩|exact⟨rfl,rfl,True.intro⟩|rfl|(simp only[List.length_set];first|omega|(refine⟨?_,?_⟩<;>omega)|(refine⟨?_,?_,?_⟩<;>omega))|(intro hg;(try simp only[bB]at hg);first|omega|(refine⟨?_,?_⟩<;>omega)|(refine⟨?_,?_,?_⟩<;>first|omega|(show _<_;(try simp only[List.length_set]);omega)|exact leT rfl))|(refine⟨?_,?_⟩<;>omega)|(refine⟨?_,?_,?_⟩<;>first|omega|(show _<_;(try simp only[List.length_set]);omega)|exact leT rfl)|(simp only[show rI.d=(0:Int)from rfl];omega));done));(conv=>whnf))))
  have hx0 : ([] : List Int).length = 0 := rfl
  refine EvCall.inline tabOk mixed Try.func14 rfl Try.ntmps14 Try.results14 Try.call14 rfl (fun ρ0 => ?_)
  ((conv=>whnf);(repeat(refine And.intro ?_ ?_;(focus((first|omega|exact⟨rfl,True.intro⟩|exact⟨rfl,rfl,True.intro⟩|rfl|(simp only[List.length_set];first|omega|(refine⟨?_,?_⟩<;>omega)|(refine⟨?_,?_,?_⟩<;>omega))|(intro hg;(try simp only[bB]at hg);first|omega|(refine⟨?_,?_⟩<;>omega)|(refine⟨?_,?_,?_⟩<;>first|omega|(show _<_;(try simp only[List.length_set]);omega)|exact leT rfl))|(refine⟨?_,?_⟩<;>omega)|(refine⟨?_,?_,?_⟩<;>first|omega|(show _<_;(try simp only[List.length_set]);omega)|exact leT rfl)|(simp only[show rI.d=(0:Int)from rfl];omega));done));(conv=>whnf))))
  refine EvCall.argsE [.p 2 0, .v (.int .u64 ((2 * (b).toNat : Nat) : Int))] (congrArg (fun z => [SV.p 2 0, .v (.int .u64 z)]) (zig_eq (by omega) (by omega))) ?_
  refine EvCall.meet (α := List Int × Nat) (fun x9 => x9.1 = ([] : List Int) ++ encU (2 * (b).toNat) ∧ x9.1.length ≤ x9.2 ∧ x9.2 ≤ 9223372036854775807) (fun _ => .t []) (fun x9 => [⟨3, true, 5, 1, x9.2, .rows Int rU x9.1⟩, ⟨2, true, 31, 1, 1, .cs [.s 3 1 x9.1.length x9.2]⟩, ⟨1, false, 91, 3, 1, .cs [.v (.int .i64 b), .v (.int .i64 sp), .s 0 2 es.length c1]⟩, ⟨0, false, 92, 2, c1, .rows (ByteArray × Int) rE es⟩]) 4 ?_ ?_
  · skip
    refine EvCall.inline tabOk mixed Try.func59 rfl Try.ntmps59 Try.results59 Try.call59 rfl (fun ρ0 => ?_)
    ((conv=>whnf);(repeat(refine And.intro ?_ ?_;(focus((first|omega|exact⟨rfl,True.intro⟩|exact⟨rfl,rfl,True.intro⟩|rfl|(simp only[List.length_set];first|omega|(refine⟨?_,?_⟩<;>omega)|(refine⟨?_,?_,?_⟩<;>omega))|(intro hg;(try simp only[bB]at hg);first|omega|(refine⟨?_,?_⟩<;>omega)|(refine⟨?_,?_,?_⟩<;>first|omega|(show _<_;(try simp only[List.length_set]);omega)|exact leT rfl))|(refine⟨?_,?_⟩<;>omega)|(refine⟨?_,?_,?_⟩<;>first|omega|(show _<_;(try simp only[List.length_set]);omega)|exact leT rfl)|(simp only[show rI.d=(0:Int)from rfl];omega));done));(conv=>whnf))))
    refine EvLoop.inv (α := Nat × Nat × List Int × Nat) (WIn ([] : List Int) (2 * (b).toNat)) (fun z9 => z9.1) (fun z9 => [(0, [], .p 2 0), (1, [], .v (.int .u64 (z9.2.1 : Int)))]) (fun z9 => [⟨3, true, 5, 1, z9.2.2.2, .rows Int rU z9.2.2.1⟩, ⟨2, true, 31, 1, 1, .cs [.s 3 1 z9.2.2.1.length z9.2.2.2]⟩, ⟨1, false, 91, 3, 1, .cs [.v (.int .i64 b), .v (.int .i64 sp), .s 0 2 es.length c1]⟩, ⟨0, false, 92, 2, c1, .rows (ByteArray × Int) rE es⟩]) 4 (10, (2 * (b).toNat), ([] : List Int), 0) (.start (by omega) (Nat.zero_le _) (by decide)) (Sub.of [] [3] rfl ?_) ?_
    · ((repeat' (refine And.intro ?_ ?_)) <;> first | rfl | exact True.intro | omega)
    intro q hq
    have hql := hq.len
    have hqc := hq.cap
    ((conv=>whnf);(repeat(refine And.intro ?_ ?_;(focus((first|omega|exact⟨rfl,True.intro⟩|exact⟨rfl,rfl,True.intro⟩|rfl|(simp only[List.length_set];first|omega|(refine⟨?_,?_⟩<;>omega)|(refine⟨?_,?_,?_⟩<;>omega))|(intro hg;(try simp only[bB]at hg);first|omega|(refine⟨?_,?_⟩<;>omega)|(refine⟨?_,?_,?_⟩<;>first|omega|(show _<_;(try simp only[List.length_set]);omega)|exact leT rfl))|(refine⟨?_,?_⟩<;>omega)|(refine⟨?_,?_,?_⟩<;>first|omega|(show _<_;(try simp only[List.length_set]);omega)|exact leT rfl)|(simp only[show rI.d=(0:Int)from rfl];omega));done));(conv=>whnf))))
    refine EvIf.split (fun g => ?_) (fun g => ?_)
    · have g1 : 128 ≤ q.2.1 := by have := of_decide_eq_true g; omega
      ((conv=>whnf);(repeat(refine And.intro ?_ ?_;(focus((first|omega|exact⟨rfl,True.intro⟩|exact⟨rfl,rfl,True.intro⟩|rfl|(simp only[List.length_set];first|omega|(refine⟨?_,?_⟩<;>omega)|(refine⟨?_,?_,?_⟩<;>omega))|(intro hg;(try simp only[bB]at hg);first|omega|(refine⟨?_,?_⟩<;>omega)|(refine⟨?_,?_,?_⟩<;>first|omega|(show _<_;(try simp only[List.length_set]);omega)|exact leT rfl))|(refine⟨?_,?_⟩<;>omega)|(refine⟨?_,?_,?_⟩<;>first|omega|(show _<_;(try simp only[List.length_set]);omega)|exact leT rfl)|(simp only[show rI.d=(0:Int)from rfl];omega));done));(conv=>whnf))))
      refine EvBi.append (R := rU) (xs := q.2.2.1) tyok29 rfl tyok5 rfl (by decide) rfl rfl rfl hq.cap [((q.2.1 % 128 + 128 : Nat) : Int)] (fun ρ W hp => hp.lit (R := rU) (ys := [((q.2.1 % 128 + 128 : Nat) : Int)]) rfl (by decide) (by simp) (by decide) (by simp only [denL, den]; exact lit_or _)) (by show (_ + 1) * 1 ≤ _; omega) (by show _ + 1 ≤ _; omega) (fun cap' j1 j2 => ?_)
      ((conv=>whnf);(repeat(refine And.intro ?_ ?_;(focus((first|omega|exact⟨rfl,True.intro⟩|exact⟨rfl,rfl,True.intro⟩|rfl|(simp only[List.length_set];first|omega|(refine⟨?_,?_⟩<;>omega)|(refine⟨?_,?_,?_⟩<;>omega))|(intro hg;(try simp only[bB]at hg);first|omega|(refine⟨?_,?_⟩<;>omega)|(refine⟨?_,?_,?_⟩<;>first|omega|(show _<_;(try simp only[List.length_set]);omega)|exact leT rfl))|(refine⟨?_,?_⟩<;>omega)|(refine⟨?_,?_,?_⟩<;>first|omega|(show _<_;(try simp only[List.length_set]);omega)|exact leT rfl)|(simp only[show rI.d=(0:Int)from rfl];omega));done));(conv=>whnf))))
      refine LoopI.back (q.1 - 1, q.2.1 / 128, q.2.2.1 ++ [((q.2.1 % 128 + 128 : Nat) : Int)], cap') (hq.step g1 j1 j2) (by have := hq.pos; show q.1 - 1 < q.1; omega) (Sub.of [(3, 5)] [] rfl ?_)
      (repeat' (refine And.intro ?_ ?_)) <;> first | rfl | exact True.intro | exact shr7 _ | exact (shr7 _).symm | (show _ = _; simp) | omega
    have g1 : q.2.1 < 128 := by have := of_decide_eq_false g; omega
    ((conv=>whnf);(repeat(refine And.intro ?_ ?_;(focus((first|omega|exact⟨rfl,True.intro⟩|exact⟨rfl,rfl,True.intro⟩|rfl|(simp only[List.length_set];first|omega|(refine⟨?_,?_⟩<;>omega)|(refine⟨?_,?_,?_⟩<;>omega))|(intro hg;(try simp only[bB]at hg);first|omega|(refine⟨?_,?_⟩<;>omega)|(refine⟨?_,?_,?_⟩<;>first|omega|(show _<_;(try simp only[List.length_set]);omega)|exact leT rfl))|(refine⟨?_,?_⟩<;>omega)|(refine⟨?_,?_,?_⟩<;>first|omega|(show _<_;(try simp only[List.length_set]);omega)|exact leT rfl)|(simp only[show rI.d=(0:Int)from rfl];omega));done));(conv=>whnf))))
    refine EvBi.append (R := rU) (xs := q.2.2.1) tyok29 rfl tyok5 rfl (by decide) rfl rfl rfl hq.cap [(q.2.1 : Int)] (fun ρ W hp => hp.lit (R := rU) (ys := [(q.2.1 : Int)]) rfl (by decide) (by simp) (by decide) (by simp only [denL, den]; exact lit_byte g1)) (by show (_ + 1) * 1 ≤ _; omega) (by show _ + 1 ≤ _; omega) (fun c3 j1 j2 => ?_)
    have hfin := hq.fin g1
    rw [show q.2.2.1.length + [(q.2.1 : Int)].length = (q.2.2.1 ++ [(q.2.1 : Int)]).length by simp] at j1 ⊢
    rw [hfin] at j1 ⊢
    ((conv=>whnf);(repeat(refine And.intro ?_ ?_;(focus((first|omega|exact⟨rfl,True.intro⟩|exact⟨rfl,rfl,True.intro⟩|rfl|(simp only[List.length_set];first|omega|(refine⟨?_,?_⟩<;>omega)|(refine⟨?_,?_,?_⟩<;>omega))|(intro hg;(try simp only[bB]at hg);first|omega|(refine⟨?_,?_⟩<;>omega)|(refine⟨?_,?_,?_⟩<;>first|omega|(show _<_;(try simp only[List.length_set]);omega)|exact leT rfl))|(refine⟨?_,?_⟩<;>omega)|(refine⟨?_,?_,?_⟩<;>first|omega|(show _<_;(try simp only[List.length_set]);omega)|exact leT rfl)|(simp only[show rI.d=(0:Int)from rfl];omega));done));(conv=>whnf))))
    refine EvRet.back ⟨(([] : List Int) ++ encU (2 * (b).toNat), c3), ⟨rfl, j1, j2⟩, Sub.of [(3, 5)] [] rfl ?_⟩
    ((repeat' (refine And.intro ?_ ?_)) <;> first | rfl | exact True.intro | omega)
  intro x9 ⟨hy1, k1, mcc1⟩
  obtain ⟨y1, cc1⟩ := x9
  dsimp only at hy1 k1 mcc1 ⊢
  have zy1 : (y1).length ≤ (([] : List Int)).length + 10 := by have hel := encF_len 10 (2 * (b).toNat); rw [hy1, List.length_append]; unfold encU; omega
  ((conv=>whnf);(repeat(refine And.intro ?_ ?_;(focus((first|omega|exact⟨rfl,True.intro⟩|exact⟨rfl,rfl,True.intro⟩|rfl|(simp only[List.length_set];first|omega|(refine⟨?_,?_⟩<;>omega)|(refine⟨?_,?_,?_⟩<;>omega))|(intro hg;(try simp only[bB]at hg);first|omega|(refine⟨?_,?_⟩<;>omega)|(refine⟨?_,?_,?_⟩<;>first|omega|(show _<_;(try simp only[List.length_set]);omega)|exact leT rfl))|(refine⟨?_,?_⟩<;>omega)|(refine⟨?_,?_,?_⟩<;>first|omega|(show _<_;(try simp only[List.length_set]);omega)|exact leT rfl)|(simp only[show rI.d=(0:Int)from rfl];omega));done));(conv=>whnf))))
  refine EvRet.back ?_
  ((conv=>whnf);(repeat(refine And.intro ?_ ?_;(focus((first|omega|exact⟨rfl,True.intro⟩|exact⟨rfl,rfl,True.intro⟩|rfl|(simp only[List.length_set];first|omega|(refine⟨?_,?_⟩<;>omega)|(refine⟨?_,?_,?_⟩<;>omega))|(intro hg;(try simp only[bB]at hg);first|omega|(refine⟨?_,?_⟩<;>omega)|(refine⟨?_,?_,?_⟩<;>first|omega|(show _<_;(try simp only[List.length_set]);omega)|exact leT rfl))|(refine⟨?_,?_⟩<;>omega)|(refine⟨?_,?_,?_⟩<;>first|omega|(show _<_;(try simp only[List.length_set]);omega)|exact leT rfl)|(simp only[show rI.d=(0:Int)from rfl];omega));done));(conv=>whnf))))
  refine EvCall.inline tabOk mixed Try.func14 rfl Try.ntmps14 Try.results14 Try.call14 rfl (fun ρ0 => ?_)
  ((conv=>whnf);(repeat(refine And.intro ?_ ?_;(focus((first|omega|exact⟨rfl,True.intro⟩|exact⟨rfl,rfl,True.intro⟩|rfl|(simp only[List.length_set];first|omega|(refine⟨?_,?_⟩<;>omega)|(refine⟨?_,?_,?_⟩<;>omega))|(intro hg;(try simp only[bB]at hg);first|omega|(refine⟨?_,?_⟩<;>omega)|(refine⟨?_,?_,?_⟩<;>first|omega|(show _<_;(try simp only[List.length_set]);omega)|exact leT rfl))|(refine⟨?_,?_⟩<;>omega)|(refine⟨?_,?_,?_⟩<;>first|omega|(show _<_;(try simp only[List.length_set]);omega)|exact leT rfl)|(simp only[show rI.d=(0:Int)from rfl];omega));done));(conv=>whnf))))
  refine EvCall.argsE [.p 2 0, .v (.int .u64 ((2 * ((es.length : Int)).toNat : Nat) : Int))] (congrArg (fun z => [SV.p 2 0, .v (.int .u64 z)]) (zig_eq (by omega) (by omega))) ?_
  refine EvCall.meet (α := List Int × Nat) (fun x9 => x9.1 = y1 ++ encU (2 * ((es.length : Int)).toNat) ∧ x9.1.length ≤ x9.2 ∧ x9.2 ≤ 9223372036854775807) (fun _ => .t []) (fun x9 => [⟨4, true, 5, 1, x9.2, .rows Int rU x9.1⟩, ⟨2, true, 31, 1, 1, .cs [.s 4 1 x9.1.length x9.2]⟩, ⟨1, false, 91, 3, 1, .cs [.v (.int .i64 b), .v (.int .i64 sp), .s 0 2 es.length c1]⟩, ⟨0, false, 92, 2, c1, .rows (ByteArray × Int) rE es⟩]) 5 ?_ ?_
  · skip
    refine EvCall.inline tabOk mixed Try.func59 rfl Try.ntmps59 Try.results59 Try.call59 rfl (fun ρ0 => ?_)
    ((conv=>whnf);(repeat(refine And.intro ?_ ?_;(focus((first|omega|exact⟨rfl,True.intro⟩|exact⟨rfl,rfl,True.intro⟩|rfl|(simp only[List.length_set];first|omega|(refine⟨?_,?_⟩<;>omega)|(refine⟨?_,?_,?_⟩<;>omega))|(intro hg;(try simp only[bB]at hg);first|omega|(refine⟨?_,?_⟩<;>omega)|(refine⟨?_,?_,?_⟩<;>first|omega|(show _<_;(try simp only[List.length_set]);omega)|exact leT rfl))|(refine⟨?_,?_⟩<;>omega)|(refine⟨?_,?_,?_⟩<;>first|omega|(show _<_;(try simp only[List.length_set]);omega)|exact leT rfl)|(simp only[show rI.d=(0:Int)from rfl];omega));done));(conv=>whnf))))
    refine EvLoop.inv (α := Nat × Nat × List Int × Nat) (WIn y1 (2 * ((es.length : Int)).toNat)) (fun z9 => z9.1) (fun z9 => [(0, [], .p 2 0), (1, [], .v (.int .u64 (z9.2.1 : Int)))]) (fun z9 => [⟨4, true, 5, 1, z9.2.2.2, .rows Int rU z9.2.2.1⟩, ⟨2, true, 31, 1, 1, .cs [.s 4 1 z9.2.2.1.length z9.2.2.2]⟩, ⟨1, false, 91, 3, 1, .cs [.v (.int .i64 b), .v (.int .i64 sp), .s 0 2 es.length c1]⟩, ⟨0, false, 92, 2, c1, .rows (ByteArray × Int) rE es⟩]) 5 (10, (2 * ((es.length : Int)).toNat), y1, cc1) (.start (by omega) k1 mcc1) (Sub.of [(4, 3)] [] rfl ?_) ?_
    · ((repeat' (refine And.intro ?_ ?_)) <;> first | rfl | exact True.intro | omega)
    intro q hq
    have hql := hq.len
    have hqc := hq.cap
    ((conv=>whnf);(repeat(refine And.intro ?_ ?_;(focus((first|omega|exact⟨rfl,True.intro⟩|exact⟨rfl,rfl,True.intro⟩|rfl|(simp only[List.length_set];first|omega|(refine⟨?_,?_⟩<;>omega)|(refine⟨?_,?_,?_⟩<;>omega))|(intro hg;(try simp only[bB]at hg);first|omega|(refine⟨?_,?_⟩<;>omega)|(refine⟨?_,?_,?_⟩<;>first|omega|(show _<_;(try simp only[List.length_set]);omega)|exact leT rfl))|(refine⟨?_,?_⟩<;>omega)|(refine⟨?_,?_,?_⟩<;>first|omega|(show _<_;(try simp only[List.length_set]);omega)|exact leT rfl)|(simp only[show rI.d=(0:Int)from rfl];omega));done));(conv=>whnf))))
    refine EvIf.split (fun g => ?_) (fun g => ?_)
    · have g1 : 128 ≤ q.2.1 := by have := of_decide_eq_true g; omega
      ((conv=>whnf);(repeat(refine And.intro ?_ ?_;(focus((first|omega|exact⟨rfl,True.intro⟩|exact⟨rfl,rfl,True.intro⟩|rfl|(simp only[List.length_set];first|omega|(refine⟨?_,?_⟩<;>omega)|(refine⟨?_,?_,?_⟩<;>omega))|(intro hg;(try simp only[bB]at hg);first|omega|(refine⟨?_,?_⟩<;>omega)|(refine⟨?_,?_,?_⟩<;>first|omega|(show _<_;(try simp only[List.length_set]);omega)|exact leT rfl))|(refine⟨?_,?_⟩<;>omega)|(refine⟨?_,?_,?_⟩<;>first|omega|(show _<_;(try simp only[List.length_set]);omega)|exact leT rfl)|(simp only[show rI.d=(0:Int)from rfl];omega));done));(conv=>whnf))))
      refine EvBi.append (R := rU) (xs := q.2.2.1) tyok29 rfl tyok5 rfl (by decide) rfl rfl rfl hq.cap [((q.2.1 % 128 + 128 : Nat) : Int)] (fun ρ W hp => hp.lit (R := rU) (ys := [((q.2.1 % 128 + 128 : Nat) : Int)]) rfl (by decide) (by simp) (by decide) (by simp only [denL, den]; exact lit_or _)) (by show (_ + 1) * 1 ≤ _; omega) (by show _ + 1 ≤ _; omega) (fun cap' j1 j2 => ?_)
      ((conv=>whnf);(repeat(refine And.intro ?_ ?_;(focus((first|omega|exact⟨rfl,True.intro⟩|exact⟨rfl,rfl,True.intro⟩|rfl|(simp only[List.length_set];first|omega|(refine⟨?_,?_⟩<;>omega)|(refine⟨?_,?_,?_⟩<;>omega))|(intro hg;(try simp only[bB]at hg);first|omega|(refine⟨?_,?_⟩<;>omega)|(refine⟨?_,?_,?_⟩<;>first|omega|(show _<_;(try simp only[List.length_set]);omega)|exact leT rfl))|(refine⟨?_,?_⟩<;>omega)|(refine⟨?_,?_,?_⟩<;>first|omega|(show _<_;(try simp only[List.length_set]);omega)|exact leT rfl)|(simp only[show rI.d=(0:Int)from rfl];omega));done));(conv=>whnf))))
      refine LoopI.back (q.1 - 1, q.2.1 / 128, q.2.2.1 ++ [((q.2.1 % 128 + 128 : Nat) : Int)], cap') (hq.step g1 j1 j2) (by have := hq.pos; show q.1 - 1 < q.1; omega) (Sub.of [(4, 6)] [] rfl ?_)
      (repeat' (refine And.intro ?_ ?_)) <;> first | rfl | exact True.intro | exact shr7 _ | exact (shr7 _).symm | (show _ = _; simp) | omega
    have g1 : q.2.1 < 128 := by have := of_decide_eq_false g; omega
    ((conv=>whnf);(repeat(refine And.intro ?_ ?_;(focus((first|omega|exact⟨rfl,True.intro⟩|exact⟨rfl,rfl,True.intro⟩|rfl|(simp only[List.length_set];first|omega|(refine⟨?_,?_⟩<;>omega)|(refine⟨?_,?_,?_⟩<;>omega))|(intro hg;(try simp only[bB]at hg);first|omega|(refine⟨?_,?_⟩<;>omega)|(refine⟨?_,?_,?_⟩<;>first|omega|(show _<_;(try simp only[List.length_set]);omega)|exact leT rfl))|(refine⟨?_,?_⟩<;>omega)|(refine⟨?_,?_,?_⟩<;>first|omega|(show _<_;(try simp only[List.length_set]);omega)|exact leT rfl)|(simp only[show rI.d=(0:Int)from rfl];omega));done));(conv=>whnf))))
    refine EvBi.append (R := rU) (xs := q.2.2.1) tyok29 rfl tyok5 rfl (by decide) rfl rfl rfl hq.cap [(q.2.1 : Int)] (fun ρ W hp => hp.lit (R := rU) (ys := [(q.2.1 : Int)]) rfl (by decide) (by simp) (by decide) (by simp only [denL, den]; exact lit_byte g1)) (by show (_ + 1) * 1 ≤ _; omega) (by show _ + 1 ≤ _; omega) (fun c3 j1 j2 => ?_)
    have hfin := hq.fin g1
    rw [show q.2.2.1.length + [(q.2.1 : Int)].length = (q.2.2.1 ++ [(q.2.1 : Int)]).length by simp] at j1 ⊢
    rw [hfin] at j1 ⊢
    ((conv=>whnf);(repeat(refine And.intro ?_ ?_;(focus((first|omega|exact⟨rfl,True.intro⟩|exact⟨rfl,rfl,True.intro⟩|rfl|(simp only[List.length_set];first|omega|(refine⟨?_,?_⟩<;>omega)|(refine⟨?_,?_,?_⟩<;>omega))|(intro hg;(try simp only[bB]at hg);first|omega|(refine⟨?_,?_⟩<;>omega)|(refine⟨?_,?_,?_⟩<;>first|omega|(show _<_;(try simp only[List.length_set]);omega)|exact leT rfl))|(refine⟨?_,?_⟩<;>omega)|(refine⟨?_,?_,?_⟩<;>first|omega|(show _<_;(try simp only[List.length_set]);omega)|exact leT rfl)|(simp only[show rI.d=(0:Int)from rfl];omega));done));(conv=>whnf))))
    refine EvRet.back ⟨(y1 ++ encU (2 * ((es.length : Int)).toNat), c3), ⟨rfl, j1, j2⟩, Sub.of [(4, 6)] [] rfl ?_⟩
    ((repeat' (refine And.intro ?_ ?_)) <;> first | rfl | exact True.intro | omega)
  intro x9 ⟨hy2, k3, mcc2⟩
  obtain ⟨y2, cc2⟩ := x9
  dsimp only at hy2 k3 mcc2 ⊢
  have zy2 : (y2).length ≤ (y1).length + 10 := by have hel := encF_len 10 (2 * ((es.length : Int)).toNat); rw [hy2, List.length_append]; unfold encU; omega
  ((conv=>whnf);(repeat(refine And.intro ?_ ?_;(focus((first|omega|exact⟨rfl,True.intro⟩|exact⟨rfl,rfl,True.intro⟩|rfl|(simp only[List.length_set];first|omega|(refine⟨?_,?_⟩<;>omega)|(refine⟨?_,?_,?_⟩<;>omega))|(intro hg;(try simp only[bB]at hg);first|omega|(refine⟨?_,?_⟩<;>omega)|(refine⟨?_,?_,?_⟩<;>first|omega|(show _<_;(try simp only[List.length_set]);omega)|exact leT rfl))|(refine⟨?_,?_⟩<;>omega)|(refine⟨?_,?_,?_⟩<;>first|omega|(show _<_;(try simp only[List.length_set]);omega)|exact leT rfl)|(simp only[show rI.d=(0:Int)from rfl];omega));done));(conv=>whnf))))
  refine EvRet.back ?_
  ((conv=>whnf);(repeat(refine And.intro ?_ ?_;(focus((first|omega|exact⟨rfl,True.intro⟩|exact⟨rfl,rfl,True.intro⟩|rfl|(simp only[List.length_set];first|omega|(refine⟨?_,?_⟩<;>omega)|(refine⟨?_,?_,?_⟩<;>omega))|(intro hg;(try simp only[bB]at hg);first|omega|(refine⟨?_,?_⟩<;>omega)|(refine⟨?_,?_,?_⟩<;>first|omega|(show _<_;(try simp only[List.length_set]);omega)|exact leT rfl))|(refine⟨?_,?_⟩<;>omega)|(refine⟨?_,?_,?_⟩<;>first|omega|(show _<_;(try simp only[List.length_set]);omega)|exact leT rfl)|(simp only[show rI.d=(0:Int)from rfl];omega));done));(conv=>whnf))))
  have hy : y2 = encI b ++ encI es.length := by rw [hy2, hy1]; rfl
  refine EvLoop.inv (α := Nat × List Int × Nat) (fun p => p.1 ≤ es.length ∧ p.2.1 = encI b ++ encI es.length ++ encL (es.take p.1) ∧ p.2.1.length ≤ 20 + 36 * p.1 ∧ p.2.1.length ≤ p.2.2 ∧ p.2.2 ≤ 9223372036854775807) (fun p => es.length - p.1) (fun p => [(22, [], .v (.int .i64 ((p.1 : Int)))), (21, [], .v (.int .i64 ((es.length : Int)))), (20, [], .s 0 2 es.length c1), (3, [], .p 2 0)])
    (fun p => [⟨4, true, 5, 1, p.2.2, .rows Int rU p.2.1⟩, ⟨2, true, 31, 1, 1, .cs [.s 4 1 p.2.1.length p.2.2]⟩, ⟨1, false, 91, 3, 1, .cs [.v (.int .i64 b), .v (.int .i64 sp), .s 0 2 es.length c1]⟩, ⟨0, false, 92, 2, c1, .rows (ByteArray × Int) rE es⟩]) 5 (0, y2, cc2) ⟨by show 0 ≤ _; omega, by simpa [encL] using hy, by show y2.length ≤ 20 + 36 * 0; omega, k3, mcc2⟩ (Sub.of [] [] rfl ?_) ?_
  · ((repeat' (refine And.intro ?_ ?_)) <;> first | rfl | exact True.intro | omega)
  intro p ⟨hi1, hi2, hi3, hi4, hi5⟩
  clear hy hy1 hy2 k1 k3 mcc1 mcc2 zy1 zy2
  ((conv=>whnf);(repeat(refine And.intro ?_ ?_;(focus((first|omega|exact⟨rfl,True.intro⟩|exact⟨rfl,rfl,True.intro⟩|rfl|(simp only[List.length_set];first|omega|(refine⟨?_,?_⟩<;>omega)|(refine⟨?_,?_,?_⟩<;>omega))|(intro hg;(try simp only[bB]at hg);first|omega|(refine⟨?_,?_⟩<;>omega)|(refine⟨?_,?_,?_⟩<;>first|omega|(show _<_;(try simp only[List.length_set]);omega)|exact leT rfl))|(refine⟨?_,?_⟩<;>omega)|(refine⟨?_,?_,?_⟩<;>first|omega|(show _<_;(try simp only[List.length_set]);omega)|exact leT rfl)|(simp only[show rI.d=(0:Int)from rfl];omega));done));(conv=>whnf))))
  refine EvIf.split (fun g1 => ?_) (fun g1 => ?_)
  · simp only [decide_eq_true_eq] at g1
    have hmem : es.getD (p.1 : Int).toNat rE.d ∈ es := by
      have : es.getD p.1 rE.d = es[p.1]'(by omega) := by rw [List.getD_eq_getElem?_getD, List.getElem?_eq_getElem (by omega)]; rfl
      show es.getD p.1 rE.d ∈ es
      rw [this]
      exact List.getElem_mem _
    have hee := he _ hmem
    have hnx : encL (es.take (p.1 + 1)) = encL (es.take p.1) ++ encE (es.getD (p.1 : Int).toNat rE.d) := by
      show encL (es.take (p.1 + 1)) = encL (es.take p.1) ++ encE (es.getD p.1 rE.d)
      have : es.take (p.1 + 1) = es.take p.1 ++ [es.getD p.1 rE.d] := by
        rw [List.take_add_one, List.getD_eq_getElem?_getD, List.getElem?_eq_getElem (by omega)]
        rfl
      rw [this]
      simp [encL]
    ((conv=>whnf);(repeat(refine And.intro ?_ ?_;(focus((first|omega|exact⟨rfl,True.intro⟩|exact⟨rfl,rfl,True.intro⟩|rfl|(simp only[List.length_set];first|omega|(refine⟨?_,?_⟩<;>omega)|(refine⟨?_,?_,?_⟩<;>omega))|(intro hg;(try simp only[bB]at hg);first|omega|(refine⟨?_,?_⟩<;>omega)|(refine⟨?_,?_,?_⟩<;>first|omega|(show _<_;(try simp only[List.length_set]);omega)|exact leT rfl))|(refine⟨?_,?_⟩<;>omega)|(refine⟨?_,?_,?_⟩<;>first|omega|(show _<_;(try simp only[List.length_set]);omega)|exact leT rfl)|(simp only[show rI.d=(0:Int)from rfl];omega));done));(conv=>whnf))))
    refine EvCall.inline tabOk mixed Try.func15 rfl Try.ntmps15 Try.results15 Try.call15 rfl (fun ρ0 => ?_)
    ((conv=>whnf);(repeat(refine And.intro ?_ ?_;(focus((first|omega|exact⟨rfl,True.intro⟩|exact⟨rfl,rfl,True.intro⟩|rfl|(simp only[List.length_set];first|omega|(refine⟨?_,?_⟩<;>omega)|(refine⟨?_,?_,?_⟩<;>omega))|(intro hg;(try simp only[bB]at hg);first|omega|(refine⟨?_,?_⟩<;>omega)|(refine⟨?_,?_,?_⟩<;>first|omega|(show _<_;(try simp only[List.length_set]);omega)|exact leT rfl))|(refine⟨?_,?_⟩<;>omega)|(refine⟨?_,?_,?_⟩<;>first|omega|(show _<_;(try simp only[List.length_set]);omega)|exact leT rfl)|(simp only[show rI.d=(0:Int)from rfl];omega));done));(conv=>whnf))))
    refine EvCall.argsE [.p 2 0, .v (.int .u64 ((((es.getD (p.1 : Int).toNat rE.d).1).size : Nat) : Int))] (congrArg (fun z => [SV.p 2 0, .v (.int .u64 z)]) (u64_nat (by omega))) ?_
    refine EvCall.meet (α := List Int × Nat) (fun x9 => x9.1 = p.2.1 ++ encU ((es.getD (p.1 : Int).toNat rE.d).1).size ∧ x9.1.length ≤ x9.2 ∧ x9.2 ≤ 9223372036854775807) (fun _ => .t []) (fun x9 => [⟨6, true, 5, 1, x9.2, .rows Int rU x9.1⟩, ⟨2, true, 31, 1, 1, .cs [.s 6 1 x9.1.length x9.2]⟩, ⟨5, true, 92, 2, 1, .cs [.v (.string (es.getD (p.1 : Int).toNat rE.d).1), .v (.int .i64 (es.getD (p.1 : Int).toNat rE.d).2)]⟩, ⟨1, false, 91, 3, 1, .cs [.v (.int .i64 b), .v (.int .i64 sp), .s 0 2 es.length c1]⟩, ⟨0, false, 92, 2, c1, .rows (ByteArray × Int) rE es⟩]) 7 ?_ ?_
    · skip
      refine EvCall.inline tabOk mixed Try.func59 rfl Try.ntmps59 Try.results59 Try.call59 rfl (fun ρ0 => ?_)
      ((conv=>whnf);(repeat(refine And.intro ?_ ?_;(focus((first|omega|exact⟨rfl,True.intro⟩|exact⟨rfl,rfl,True.intro⟩|rfl|(simp only[List.length_set];first|omega|(refine⟨?_,?_⟩<;>omega)|(refine⟨?_,?_,?_⟩<;>omega))|(intro hg;(try simp only[bB]at hg);first|omega|(refine⟨?_,?_⟩<;>omega)|(refine⟨?_,?_,?_⟩<;>first|omega|(show _<_;(try simp only[List.length_set]);omega)|exact leT rfl))|(refine⟨?_,?_⟩<;>omega)|(refine⟨?_,?_,?_⟩<;>first|omega|(show _<_;(try simp only[List.length_set]);omega)|exact leT rfl)|(simp only[show rI.d=(0:Int)from rfl];omega));done));(conv=>whnf))))
      refine EvLoop.inv (α := Nat × Nat × List Int × Nat) (WIn p.2.1 ((es.getD (p.1 : Int).toNat rE.d).1).size) (fun z9 => z9.1) (fun z9 => [(0, [], .p 2 0), (1, [], .v (.int .u64 (z9.2.1 : Int)))]) (fun z9 => [⟨6, true, 5, 1, z9.2.2.2, .rows Int rU z9.2.2.1⟩, ⟨2, true, 31, 1, 1, .cs [.s 6 1 z9.2.2.1.length z9.2.2.2]⟩, ⟨5, true, 92, 2, 1, .cs [.v (.string (es.getD (p.1 : Int).toNat rE.d).1), .v (.int .i64 (es.getD (p.1 : Int).toNat rE.d).2)]⟩, ⟨1, false, 91, 3, 1, .cs [.v (.int .i64 b), .v (.int .i64 sp), .s 0 2 es.length c1]⟩, ⟨0, false, 92, 2, c1, .rows (ByteArray × Int) rE es⟩]) 7 (10, ((es.getD (p.1 : Int).toNat rE.d).1).size, p.2.1, p.2.2) (.start (by omega) hi4 hi5) (Sub.of [(6, 4)] [] rfl ?_) ?_
      · ((repeat' (refine And.intro ?_ ?_)) <;> first | rfl | exact True.intro | omega)
      intro q hq
      have hql := hq.len
      have hqc := hq.cap
      ((conv=>whnf);(repeat(refine And.intro ?_ ?_;(focus((first|omega|exact⟨rfl,True.intro⟩|exact⟨rfl,rfl,True.intro⟩|rfl|(simp only[List.length_set];first|omega|(refine⟨?_,?_⟩<;>omega)|(refine⟨?_,?_,?_⟩<;>omega))|(intro hg;(try simp only[bB]at hg);first|omega|(refine⟨?_,?_⟩<;>omega)|(refine⟨?_,?_,?_⟩<;>first|omega|(show _<_;(try simp only[List.length_set]);omega)|exact leT rfl))|(refine⟨?_,?_⟩<;>omega)|(refine⟨?_,?_,?_⟩<;>first|omega|(show _<_;(try simp only[List.length_set]);omega)|exact leT rfl)|(simp only[show rI.d=(0:Int)from rfl];omega));done));(conv=>whnf))))
      refine EvIf.split (fun g => ?_) (fun g => ?_)
      · have g1 : 128 ≤ q.2.1 := by have := of_decide_eq_true g; omega
        ((conv=>whnf);(repeat(refine And.intro ?_ ?_;(focus((first|omega|exact⟨rfl,True.intro⟩|exact⟨rfl,rfl,True.intro⟩|rfl|(simp only[List.length_set];first|omega|(refine⟨?_,?_⟩<;>omega)|(refine⟨?_,?_,?_⟩<;>omega))|(intro hg;(try simp only[bB]at hg);first|omega|(refine⟨?_,?_⟩<;>omega)|(refine⟨?_,?_,?_⟩<;>first|omega|(show _<_;(try simp only[List.length_set]);omega)|exact leT rfl))|(refine⟨?_,?_⟩<;>omega)|(refine⟨?_,?_,?_⟩<;>first|omega|(show _<_;(try simp only[List.length_set]);omega)|exact leT rfl)|(simp only[show rI.d=(0:Int)from rfl];omega));done));(conv=>whnf))))
        refine EvBi.append (R := rU) (xs := q.2.2.1) tyok29 rfl tyok5 rfl (by decide) rfl rfl rfl hq.cap [((q.2.1 % 128 + 128 : Nat) : Int)] (fun ρ W hp => hp.lit (R := rU) (ys := [((q.2.1 % 128 + 128 : Nat) : Int)]) rfl (by decide) (by simp) (by decide) (by simp only [denL, den]; exact lit_or _)) (by show (_ + 1) * 1 ≤ _; omega) (by show _ + 1 ≤ _; omega) (fun cap' j1 j2 => ?_)
        ((conv=>whnf);(repeat(refine And.intro ?_ ?_;(focus((first|omega|exact⟨rfl,True.intro⟩|exact⟨rfl,rfl,True.intro⟩|rfl|(simp only[List.length_set];first|omega|(refine⟨?_,?_⟩<;>omega)|(refine⟨?_,?_,?_⟩<;>omega))|(intro hg;(try simp only[bB]at hg);first|omega|(refine⟨?_,?_⟩<;>omega)|(refine⟨?_,?_,?_⟩<;>first|omega|(show _<_;(try simp only[List.length_set]);omega)|exact leT rfl))|(refine⟨?_,?_⟩<;>omega)|(refine⟨?_,?_,?_⟩<;>first|omega|(show _<_;(try simp only[List.length_set]);omega)|exact leT rfl)|(simp only[show rI.d=(0:Int)from rfl];omega));done));(conv=>whnf))))
        refine LoopI.back (q.1 - 1, q.2.1 / 128, q.2.2.1 ++ [((q.2.1 % 128 + 128 : Nat) : Int)], cap') (hq.step g1 j1 j2) (by have := hq.pos; show q.1 - 1 < q.1; omega) (Sub.of [(6, 8)] [] rfl ?_)
        (repeat' (refine And.intro ?_ ?_)) <;> first | rfl | exact True.intro | exact shr7 _ | exact (shr7 _).symm | (show _ = _; simp) | omega
      have g1 : q.2.1 < 128 := by have := of_decide_eq_false g; omega
      ((conv=>whnf);(repeat(refine And.intro ?_ ?_;(focus((first|omega|exact⟨rfl,True.intro⟩|exact⟨rfl,rfl,True.intro⟩|rfl|(simp only[List.length_set];first|omega|(refine⟨?_,?_⟩<;>omega)|(refine⟨?_,?_,?_⟩<;>omega))|(intro hg;(try simp only[bB]at hg);first|omega|(refine⟨?_,?_⟩<;>omega)|(refine⟨?_,?_,?_⟩<;>first|omega|(show _<_;(try simp only[List.length_set]);omega)|exact leT rfl))|(refine⟨?_,?_⟩<;>omega)|(refine⟨?_,?_,?_⟩<;>first|omega|(show _<_;(try simp only[List.length_set]);omega)|exact leT rfl)|(simp only[show rI.d=(0:Int)from rfl];omega));done));(conv=>whnf))))
      refine EvBi.append (R := rU) (xs := q.2.2.1) tyok29 rfl tyok5 rfl (by decide) rfl rfl rfl hq.cap [(q.2.1 : Int)] (fun ρ W hp => hp.lit (R := rU) (ys := [(q.2.1 : Int)]) rfl (by decide) (by simp) (by decide) (by simp only [denL, den]; exact lit_byte g1)) (by show (_ + 1) * 1 ≤ _; omega) (by show _ + 1 ≤ _; omega) (fun c3 j1 j2 => ?_)
      have hfin := hq.fin g1
      rw [show q.2.2.1.length + [(q.2.1 : Int)].length = (q.2.2.1 ++ [(q.2.1 : Int)]).length by simp] at j1 ⊢
      rw [hfin] at j1 ⊢
      ((conv=>whnf);(repeat(refine And.intro ?_ ?_;(focus((first|omega|exact⟨rfl,True.intro⟩|exact⟨rfl,rfl,True.intro⟩|rfl|(simp only[List.length_set];first|omega|(refine⟨?_,?_⟩<;>omega)|(refine⟨?_,?_,?_⟩<;>omega))|(intro hg;(try simp only[bB]at hg);first|omega|(refine⟨?_,?_⟩<;>omega)|(refine⟨?_,?_,?_⟩<;>first|omega|(show _<_;(try simp only[List.length_set]);omega)|exact leT rfl))|(refine⟨?_,?_⟩<;>omega)|(refine⟨?_,?_,?_⟩<;>first|omega|(show _<_;(try simp only[List.length_set]);omega)|exact leT rfl)|(simp only[show rI.d=(0:Int)from rfl];omega));done));(conv=>whnf))))
      refine EvRet.back ⟨(p.2.1 ++ encU ((es.getD (p.1 : Int).toNat rE.d).1).size, c3), ⟨rfl, j1, j2⟩, Sub.of [(6, 8)] [] rfl ?_⟩
      ((repeat' (refine And.intro ?_ ?_)) <;> first | rfl | exact True.intro | omega)
    intro x9 ⟨hy3, k3, mcc3⟩
    obtain ⟨y3, cc3⟩ := x9
    dsimp only at hy3 k3 mcc3 ⊢
    have zy3 : (y3).length ≤ (p.2.1).length + 10 := by have hel := encF_len 10 ((es.getD (p.1 : Int).toNat rE.d).1).size; rw [hy3, List.length_append]; unfold encU; omega
    ((conv=>whnf);(repeat(refine And.intro ?_ ?_;(focus((first|omega|exact⟨rfl,True.intro⟩|exact⟨rfl,rfl,True.intro⟩|rfl|(simp only[List.length_set];first|omega|(refine⟨?_,?_⟩<;>omega)|(refine⟨?_,?_,?_⟩<;>omega))|(intro hg;(try simp only[bB]at hg);first|omega|(refine⟨?_,?_⟩<;>omega)|(refine⟨?_,?_,?_⟩<;>first|omega|(show _<_;(try simp only[List.length_set]);omega)|exact leT rfl))|(refine⟨?_,?_⟩<;>omega)|(refine⟨?_,?_,?_⟩<;>first|omega|(show _<_;(try simp only[List.length_set]);omega)|exact leT rfl)|(simp only[show rI.d=(0:Int)from rfl];omega));done));(conv=>whnf))))
    refine EvBi.appendS (xs := y3) tyok29 rfl tyok9 rfl tyok5 rfl rfl rfl rfl rfl k3 ((es.getD (p.1 : Int).toNat rE.d).1) (by omega) (fun cc4 k4 mcc4 => ?_)
    rw [show (y3).length + ((es.getD (p.1 : Int).toNat rE.d).1).size = (y3 ++ bI ((es.getD (p.1 : Int).toNat rE.d).1)).length by rw [List.length_append, bI_len]] at k4 ⊢
    obtain ⟨y4, hy4⟩ : ∃ y4, y3 ++ bI ((es.getD (p.1 : Int).toNat rE.d).1) = y4 := ⟨_, rfl⟩
    have zy4 : (y4).length = (y3).length + ((es.getD (p.1 : Int).toNat rE.d).1).size := by rw [← hy4, List.length_append, bI_len]
    rw [hy4] at k4 ⊢
    ((conv=>whnf);(repeat(refine And.intro ?_ ?_;(focus((first|omega|exact⟨rfl,True.intro⟩|exact⟨rfl,rfl,True.intro⟩|rfl|(simp only[List.length_set];first|omega|(refine⟨?_,?_⟩<;>omega)|(refine⟨?_,?_,?_⟩<;>omega))|(intro hg;(try simp only[bB]at hg);first|omega|(refine⟨?_,?_⟩<;>omega)|(refine⟨?_,?_,?_⟩<;>first|omega|(show _<_;(try simp only[List.length_set]);omega)|exact leT rfl))|(refine⟨?_,?_⟩<;>omega)|(refine⟨?_,?_,?_⟩<;>first|omega|(show _<_;(try simp only[List.length_set]);omega)|exact leT rfl)|(simp only[show rI.d=(0:Int)from rfl];omega));done));(conv=>whnf))))
    refine EvRet.back ?_
    ((conv=>whnf);(repeat(refine And.intro ?_ ?_;(focus((first|omega|exact⟨rfl,True.intro⟩|exact⟨rfl,rfl,True.intro⟩|rfl|(simp only[List.length_set];first|omega|(refine⟨?_,?_⟩<;>omega)|(refine⟨?_,?_,?_⟩<;>omega))|(intro hg;(try simp only[bB]at hg);first|omega|(refine⟨?_,?_⟩<;>omega)|(refine⟨?_,?_,?_⟩<;>first|omega|(show _<_;(try simp only[List.length_set]);omega)|exact leT rfl))|(refine⟨?_,?_⟩<;>omega)|(refine⟨?_,?_,?_⟩<;>first|omega|(show _<_;(try simp only[List.length_set]);omega)|exact leT rfl)|(simp only[show rI.d=(0:Int)from rfl];omega));done));(conv=>whnf))))
    refine EvCall.inline tabOk mixed Try.func14 rfl Try.ntmps14 Try.results14 Try.call14 rfl (fun ρ0 => ?_)
    ((conv=>whnf);(repeat(refine And.intro ?_ ?_;(focus((first|omega|exact⟨rfl,True.intro⟩|exact⟨rfl,rfl,True.intro⟩|rfl|(simp only[List.length_set];first|omega|(refine⟨?_,?_⟩<;>omega)|(refine⟨?_,?_,?_⟩<;>omega))|(intro hg;(try simp only[bB]at hg);first|omega|(refine⟨?_,?_⟩<;>omega)|(refine⟨?_,?_,?_⟩<;>first|omega|(show _<_;(try simp only[List.length_set]);omega)|exact leT rfl))|(refine⟨?_,?_⟩<;>omega)|(refine⟨?_,?_,?_⟩<;>first|omega|(show _<_;(try simp only[List.length_set]);omega)|exact leT rfl)|(simp only[show rI.d=(0:Int)from rfl];omega));done));(conv=>whnf))))
    refine EvCall.argsE [.p 2 0, .v (.int .u64 ((2 * ((es.getD (p.1 : Int).toNat rE.d).2).toNat : Nat) : Int))] (congrArg (fun z => [SV.p 2 0, .v (.int .u64 z)]) (zig_eq (by omega) (by omega))) ?_
    refine EvCall.meet (α := List Int × Nat) (fun x9 => x9.1 = y4 ++ encU (2 * ((es.getD (p.1 : Int).toNat rE.d).2).toNat) ∧ x9.1.length ≤ x9.2 ∧ x9.2 ≤ 9223372036854775807) (fun _ => .t []) (fun x9 => [⟨8, true, 5, 1, x9.2, .rows Int rU x9.1⟩, ⟨2, true, 31, 1, 1, .cs [.s 8 1 x9.1.length x9.2]⟩, ⟨5, true, 92, 2, 1, .cs [.v (.string (es.getD (p.1 : Int).toNat rE.d).1), .v (.int .i64 (es.getD (p.1 : Int).toNat rE.d).2)]⟩, ⟨1, false, 91, 3, 1, .cs [.v (.int .i64 b), .v (.int .i64 sp), .s 0 2 es.length c1]⟩, ⟨0, false, 92, 2, c1, .rows (ByteArray × Int) rE es⟩]) 9 ?_ ?_
    · skip
      refine EvCall.inline tabOk mixed Try.func59 rfl Try.ntmps59 Try.results59 Try.call59 rfl (fun ρ0 => ?_)
      ((conv=>whnf);(repeat(refine And.intro ?_ ?_;(focus((first|omega|exact⟨rfl,True.intro⟩|exact⟨rfl,rfl,True.intro⟩|rfl|(simp only[List.length_set];first|omega|(refine⟨?_,?_⟩<;>omega)|(refine⟨?_,?_,?_⟩<;>omega))|(intro hg;(try simp only[bB]at hg);first|omega|(refine⟨?_,?_⟩<;>omega)|(refine⟨?_,?_,?_⟩<;>first|omega|(show _<_;(try simp only[List.length_set]);omega)|exact leT rfl))|(refine⟨?_,?_⟩<;>omega)|(refine⟨?_,?_,?_⟩<;>first|omega|(show _<_;(try simp only[List.length_set]);omega)|exact leT rfl)|(simp only[show rI.d=(0:Int)from rfl];omega));done));(conv=>whnf))))
      refine EvLoop.inv (α := Nat × Nat × List Int × Nat) (WIn y4 (2 * ((es.getD (p.1 : Int).toNat rE.d).2).toNat)) (fun z9 => z9.1) (fun z9 => [(0, [], .p 2 0), (1, [], .v (.int .u64 (z9.2.1 : Int)))]) (fun z9 => [⟨8, true, 5, 1, z9.2.2.2, .rows Int rU z9.2.2.1⟩, ⟨2, true, 31, 1, 1, .cs [.s 8 1 z9.2.2.1.length z9.2.2.2]⟩, ⟨5, true, 92, 2, 1, .cs [.v (.string (es.getD (p.1 : Int).toNat rE.d).1), .v (.int .i64 (es.getD (p.1 : Int).toNat rE.d).2)]⟩, ⟨1, false, 91, 3, 1, .cs [.v (.int .i64 b), .v (.int .i64 sp), .s 0 2 es.length c1]⟩, ⟨0, false, 92, 2, c1, .rows (ByteArray × Int) rE es⟩]) 9 (10, (2 * ((es.getD (p.1 : Int).toNat rE.d).2).toNat), y4, cc4) (.start (by omega) k4 mcc4) (Sub.of [(8, 7)] [] rfl ?_) ?_
      · ((repeat' (refine And.intro ?_ ?_)) <;> first | rfl | exact True.intro | omega)
      intro q hq
      have hql := hq.len
      have hqc := hq.cap
      ((conv=>whnf);(repeat(refine And.intro ?_ ?_;(focus((first|omega|exact⟨rfl,True.intro⟩|exact⟨rfl,rfl,True.intro⟩|rfl|(simp only[List.length_set];first|omega|(refine⟨?_,?_⟩<;>omega)|(refine⟨?_,?_,?_⟩<;>omega))|(intro hg;(try simp only[bB]at hg);first|omega|(refine⟨?_,?_⟩<;>omega)|(refine⟨?_,?_,?_⟩<;>first|omega|(show _<_;(try simp only[List.length_set]);omega)|exact leT rfl))|(refine⟨?_,?_⟩<;>omega)|(refine⟨?_,?_,?_⟩<;>first|omega|(show _<_;(try simp only[List.length_set]);omega)|exact leT rfl)|(simp only[show rI.d=(0:Int)from rfl];omega));done));(conv=>whnf))))
      refine EvIf.split (fun g => ?_) (fun g => ?_)
      · have g1 : 128 ≤ q.2.1 := by have := of_decide_eq_true g; omega
        ((conv=>whnf);(repeat(refine And.intro ?_ ?_;(focus((first|omega|exact⟨rfl,True.intro⟩|exact⟨rfl,rfl,True.intro⟩|rfl|(simp only[List.length_set];first|omega|(refine⟨?_,?_⟩<;>omega)|(refine⟨?_,?_,?_⟩<;>omega))|(intro hg;(try simp only[bB]at hg);first|omega|(refine⟨?_,?_⟩<;>omega)|(refine⟨?_,?_,?_⟩<;>first|omega|(show _<_;(try simp only[List.length_set]);omega)|exact leT rfl))|(refine⟨?_,?_⟩<;>omega)|(refine⟨?_,?_,?_⟩<;>first|omega|(show _<_;(try simp only[List.length_set]);omega)|exact leT rfl)|(simp only[show rI.d=(0:Int)from rfl];omega));done));(conv=>whnf))))
        refine EvBi.append (R := rU) (xs := q.2.2.1) tyok29 rfl tyok5 rfl (by decide) rfl rfl rfl hq.cap [((q.2.1 % 128 + 128 : Nat) : Int)] (fun ρ W hp => hp.lit (R := rU) (ys := [((q.2.1 % 128 + 128 : Nat) : Int)]) rfl (by decide) (by simp) (by decide) (by simp only [denL, den]; exact lit_or _)) (by show (_ + 1) * 1 ≤ _; omega) (by show _ + 1 ≤ _; omega) (fun cap' j1 j2 => ?_)
        ((conv=>whnf);(repeat(refine And.intro ?_ ?_;(focus((first|omega|exact⟨rfl,True.intro⟩|exact⟨rfl,rfl,True.intro⟩|rfl|(simp only[List.length_set];first|omega|(refine⟨?_,?_⟩<;>omega)|(refine⟨?_,?_,?_⟩<;>omega))|(intro hg;(try simp only[bB]at hg);first|omega|(refine⟨?_,?_⟩<;>omega)|(refine⟨?_,?_,?_⟩<;>first|omega|(show _<_;(try simp only[List.length_set]);omega)|exact leT rfl))|(refine⟨?_,?_⟩<;>omega)|(refine⟨?_,?_,?_⟩<;>first|omega|(show _<_;(try simp only[List.length_set]);omega)|exact leT rfl)|(simp only[show rI.d=(0:Int)from rfl];omega));done));(conv=>whnf))))
        refine LoopI.back (q.1 - 1, q.2.1 / 128, q.2.2.1 ++ [((q.2.1 % 128 + 128 : Nat) : Int)], cap') (hq.step g1 j1 j2) (by have := hq.pos; show q.1 - 1 < q.1; omega) (Sub.of [(8, 10)] [] rfl ?_)
        (repeat' (refine And.intro ?_ ?_)) <;> first | rfl | exact True.intro | exact shr7 _ | exact (shr7 _).symm | (show _ = _; simp) | omega
      have g1 : q.2.1 < 128 := by have := of_decide_eq_false g; omega
      ((conv=>whnf);(repeat(refine And.intro ?_ ?_;(focus((first|omega|exact⟨rfl,True.intro⟩|exact⟨rfl,rfl,True.intro⟩|rfl|(simp only[List.length_set];first|omega|(refine⟨?_,?_⟩<;>omega)|(refine⟨?_,?_,?_⟩<;>omega))|(intro hg;(try simp only[bB]at hg);first|omega|(refine⟨?_,?_⟩<;>omega)|(refine⟨?_,?_,?_⟩<;>first|omega|(show _<_;(try simp only[List.length_set]);omega)|exact leT rfl))|(refine⟨?_,?_⟩<;>omega)|(refine⟨?_,?_,?_⟩<;>first|omega|(show _<_;(try simp only[List.length_set]);omega)|exact leT rfl)|(simp only[show rI.d=(0:Int)from rfl];omega));done));(conv=>whnf))))
      refine EvBi.append (R := rU) (xs := q.2.2.1) tyok29 rfl tyok5 rfl (by decide) rfl rfl rfl hq.cap [(q.2.1 : Int)] (fun ρ W hp => hp.lit (R := rU) (ys := [(q.2.1 : Int)]) rfl (by decide) (by simp) (by decide) (by simp only [denL, den]; exact lit_byte g1)) (by show (_ + 1) * 1 ≤ _; omega) (by show _ + 1 ≤ _; omega) (fun c3 j1 j2 => ?_)
      have hfin := hq.fin g1
      rw [show q.2.2.1.length + [(q.2.1 : Int)].length = (q.2.2.1 ++ [(q.2.1 : Int)]).length by simp] at j1 ⊢
      rw [hfin] at j1 ⊢
      ((conv=>whnf);(repeat(refine And.intro ?_ ?_;(focus((first|omega|exact⟨rfl,True.intro⟩|exact⟨rfl,rfl,True.intro⟩|rfl|(simp only[List.length_set];first|omega|(refine⟨?_,?_⟩<;>omega)|(refine⟨?_,?_,?_⟩<;>omega))|(intro hg;(try simp only[bB]at hg);first|omega|(refine⟨?_,?_⟩<;>omega)|(refine⟨?_,?_,?_⟩<;>first|omega|(show _<_;(try simp only[List.length_set]);omega)|exact leT rfl))|(refine⟨?_,?_⟩<;>omega)|(refine⟨?_,?_,?_⟩<;>first|omega|(show _<_;(try simp only[List.length_set]);omega)|exact leT rfl)|(simp only[show rI.d=(0:Int)from rfl];omega));done));(conv=>whnf))))
      refine EvRet.back ⟨(y4 ++ encU (2 * ((es.getD (p.1 : Int).toNat rE.d).2).toNat), c3), ⟨rfl, j1, j2⟩, Sub.of [(8, 10)] [] rfl ?_⟩
      ((repeat' (refine And.intro ?_ ?_)) <;> first | rfl | exact True.intro | omega)
    intro x9 ⟨hy5, k5, mcc5⟩
    obtain ⟨y5, cc5⟩ := x9
    dsimp only at hy5 k5 mcc5 ⊢
    have zy5 : (y5).length ≤ (y4).length + 10 := by have hel := encF_len 10 (2 * ((es.getD (p.1 : Int).toNat rE.d).2).toNat); rw [hy5, List.length_append]; unfold encU; omega
    ((conv=>whnf);(repeat(refine And.intro ?_ ?_;(focus((first|omega|exact⟨rfl,True.intro⟩|exact⟨rfl,rfl,True.intro⟩|rfl|(simp only[List.length_set];first|omega|(refine⟨?_,?_⟩<;>omega)|(refine⟨?_,?_,?_⟩<;>omega))|(intro hg;(try simp only[bB]at hg);first|omega|(refine⟨?_,?_⟩<;>omega)|(refine⟨?_,?_,?_⟩<;>first|omega|(show _<_;(try simp only[List.length_set]);omega)|exact leT rfl))|(refine⟨?_,?_⟩<;>omega)|(refine⟨?_,?_,?_⟩<;>first|omega|(show _<_;(try simp only[List.length_set]);omega)|exact leT rfl)|(simp only[show rI.d=(0:Int)from rfl];omega));done));(conv=>whnf))))
    refine EvRet.back ?_
    ((conv=>whnf);(repeat(refine And.intro ?_ ?_;(focus((first|omega|exact⟨rfl,True.intro⟩|exact⟨rfl,rfl,True.intro⟩|rfl|(simp only[List.length_set];first|omega|(refine⟨?_,?_⟩<;>omega)|(refine⟨?_,?_,?_⟩<;>omega))|(intro hg;(try simp only[bB]at hg);first|omega|(refine⟨?_,?_⟩<;>omega)|(refine⟨?_,?_,?_⟩<;>first|omega|(show _<_;(try simp only[List.length_set]);omega)|exact leT rfl))|(refine⟨?_,?_⟩<;>omega)|(refine⟨?_,?_,?_⟩<;>first|omega|(show _<_;(try simp only[List.length_set]);omega)|exact leT rfl)|(simp only[show rI.d=(0:Int)from rfl];omega));done));(conv=>whnf))))
    have hfin : y5 = encI b ++ encI es.length ++ encL (es.take (p.1 + 1)) := by rw [hnx, hy5, ← hy4, hy3, hi2]; simp [encE, encT, encI]
    refine LoopI.back (p.1 + 1, y5, cc5) ⟨by show p.1 + 1 ≤ _; omega, hfin, by show y5.length ≤ 20 + 36 * (p.1 + 1); omega, k5, mcc5⟩ (by show es.length - (p.1 + 1) < es.length - p.1; omega) (Sub.of [(4, 8)] [] rfl ?_)
    ((repeat' (refine And.intro ?_ ?_)) <;> first | rfl | exact True.intro | omega)
  · simp only [decide_eq_false_iff_not] at g1
    have hi : p.1 = es.length := by omega
    rw [hi, List.take_length] at hi2
    ((conv=>whnf);(repeat(refine And.intro ?_ ?_;(focus((first|omega|exact⟨rfl,True.intro⟩|exact⟨rfl,rfl,True.intro⟩|rfl|(simp only[List.length_set];first|omega|(refine⟨?_,?_⟩<;>omega)|(refine⟨?_,?_,?_⟩<;>omega))|(intro hg;(try simp only[bB]at hg);first|omega|(refine⟨?_,?_⟩<;>omega)|(refine⟨?_,?_,?_⟩<;>first|omega|(show _<_;(try simp only[List.length_set]);omega)|exact leT rfl))|(refine⟨?_,?_⟩<;>omega)|(refine⟨?_,?_,?_⟩<;>first|omega|(show _<_;(try simp only[List.length_set]);omega)|exact leT rfl)|(simp only[show rI.d=(0:Int)from rfl];omega));done));(conv=>whnf))))
    refine EvCall.inline tabOk mixed Try.func19 rfl Try.ntmps19 Try.results19 Try.call19 rfl (fun ρ0 => ?_)
    ((conv=>whnf);(repeat(refine And.intro ?_ ?_;(focus((first|omega|exact⟨rfl,True.intro⟩|exact⟨rfl,rfl,True.intro⟩|rfl|(simp only[List.length_set];first|omega|(refine⟨?_,?_⟩<;>omega)|(refine⟨?_,?_,?_⟩<;>omega))|(intro hg;(try simp only[bB]at hg);first|omega|(refine⟨?_,?_⟩<;>omega)|(refine⟨?_,?_,?_⟩<;>first|omega|(show _<_;(try simp only[List.length_set]);omega)|exact leT rfl))|(refine⟨?_,?_⟩<;>omega)|(refine⟨?_,?_,?_⟩<;>first|omega|(show _<_;(try simp only[List.length_set]);omega)|exact leT rfl)|(simp only[show rI.d=(0:Int)from rfl];omega));done));(conv=>whnf))))
    refine EvCall.rows (R := rU) (ty := 5) (xs := p.2.1) Try.call64 (fun ρ W hp => cloneu_s _ p.2.1 W (hp.rowsIn (R := rU) (n := 4) (c := p.2.2) rfl (by decide) hi4 hi5 1) (by omega)) (fun cz z1 z2 => ?_)
    ((conv=>whnf);(repeat(refine And.intro ?_ ?_;(focus((first|omega|exact⟨rfl,True.intro⟩|exact⟨rfl,rfl,True.intro⟩|rfl|(simp only[List.length_set];first|omega|(refine⟨?_,?_⟩<;>omega)|(refine⟨?_,?_,?_⟩<;>omega))|(intro hg;(try simp only[bB]at hg);first|omega|(refine⟨?_,?_⟩<;>omega)|(refine⟨?_,?_,?_⟩<;>first|omega|(show _<_;(try simp only[List.length_set]);omega)|exact leT rfl))|(refine⟨?_,?_⟩<;>omega)|(refine⟨?_,?_,?_⟩<;>first|omega|(show _<_;(try simp only[List.length_set]);omega)|exact leT rfl)|(simp only[show rI.d=(0:Int)from rfl];omega));done));(conv=>whnf))))
    refine EvRet.back ?_
    ((conv=>whnf);(repeat(refine And.intro ?_ ?_;(focus((first|omega|exact⟨rfl,True.intro⟩|exact⟨rfl,rfl,True.intro⟩|rfl|(simp only[List.length_set];first|omega|(refine⟨?_,?_⟩<;>omega)|(refine⟨?_,?_,?_⟩<;>omega))|(intro hg;(try simp only[bB]at hg);first|omega|(refine⟨?_,?_⟩<;>omega)|(refine⟨?_,?_,?_⟩<;>first|omega|(show _<_;(try simp only[List.length_set]);omega)|exact leT rfl))|(refine⟨?_,?_⟩<;>omega)|(refine⟨?_,?_,?_⟩<;>first|omega|(show _<_;(try simp only[List.length_set]);omega)|exact leT rfl)|(simp only[show rI.d=(0:Int)from rfl];omega));done));(conv=>whnf))))
    exact EvRet.rows (R := rU) (ys := encLed b es) (by rw [hi2]; rfl) (by unfold encLed; rw [← hi2]; exact z1) hi2 rfl
end Go.Proofs.Ytebfhljamoapjaa
