
/- Texts with one byte changed; the law LabelsParse, walked. -/
import Derived.Test.YtebfhljamoapjaaDoorZc
import Derived.Laws.BytesArg
namespace Go.Proofs.YtebfhljamoapjaaDoor
open Go.RowKit
set_option linter.unusedVariables false
set_option linter.unusedSimpArgs false

theorem rowC_U1 (z : Int) : rowC rU [z] = [Value.int .u8 z] := rfl
section
variable {kp : Bool} {P : Program} {w : Ref} {L : List Ob} {nx : Nat} {k : SV → List Ob → Nat → Prop}
/-- The string of one byte. -/
theorem EvOp.str1 {env : Env} {cur : Pth} {o : Oper} {t u e : TypeId} {x : Operand} {n sz osz ocap : Nat} {ty : TypeId} {z : Int} (ht : P.underlying t = some (.slice e)) (he : P.underlying e = some (.int .u8)) (hu : P.underlying u = some .string) (ho : o.op = .convert t u x)
    (hx : evK env cur x (fun v => v = .s n sz 1 1)) (hn : fnd L n = some ⟨n, true, ty, osz, ocap, .cs [.v (.int .u8 z)]⟩) (h : k (.v (.string ⟨#[UInt8.ofNat z.toNat]⟩)) L nx) : EvOp kp P w env cur o L nx k := by
  refine ⟨fun ρ G a W hf hg hp => ?_⟩
  obtain ⟨v1, rfl, h1⟩ := evK_sound hx
  have e1 := (h1 ρ G nx a hf hg).1
  refine ⟨.string ⟨#[UInt8.ofNat z.toNat]⟩, W, ?_, fun _ => Below.refl _ _, ρ, .v (.string ⟨#[UInt8.ofNat z.toNat]⟩), L, nx, by simp [den], fun _ _ => rfl, Nat.le_refl _, rfl, hp, h⟩
  have hR := hp.lit (R := rU) (ys := [z]) (c := 1) (sz := sz) hn (by decide) (by simp) (by decide) rfl
  simp only [den] at e1 hR
  have h2 : (convert t u (.slice (ρ n) 1 1)).run P W = .ok (.string ⟨#[UInt8.ofNat z.toNat]⟩) W := by
    obtain ⟨A, c, e3, _, _, _, h4⟩ := hR
    obtain ⟨b, off, hA, hcell⟩ := h4 (by simp)
    simp only [Value.slice.injEq] at e3
    rw [e3.1, hA]
    refine run_convert_bytes_arg (P := P) W t e ht he b off 1 1 [z] rfl (fun i hi => ?_) u hu
    obtain rfl : i = 0 := by omega
    exact hcell.2 0 _ rfl
  simp [execOp, ho, e1, h2]
end
/-- A text with one byte put in, taken out or changed. -/
def mutR (s : ByteArray) (a b c : Int) : ByteArray :=
  let i := (arnd a ((s.size : Int) + 1)).toNat
  let u : ByteArray := ⟨#[UInt8.ofNat c.toNat]⟩
  if i = s.size ∨ arnd b 3 = 0 then s.extract 0 i ++ u ++ s.extract i s.size else if arnd b 3 = 1 then s.extract 0 i ++ s.extract (i + 1) s.size else s.extract 0 i ++ u ++ s.extract (i + 1) s.size
theorem mut_size (s : ByteArray) (a b c : Int) : (mutR s a b c).size ≤ s.size + 1 := by
  have h : (arnd a ((s.size : Int) + 1)).toNat ≤ s.size := by
    have := arnd_lt a ((s.size : Int) + 1) (by omega)
    omega
  have hu : (⟨#[UInt8.ofNat c.toNat]⟩ : ByteArray).size = 1 := rfl
  unfold mutR
  simp only
  split
  · simp only [ByteArray.size_append, ByteArray.size_extract, hu]; omega
  · split <;> simp only [ByteArray.size_append, ByteArray.size_extract, hu] <;> omega
set_option maxRecDepth 10000 in
theorem mutated_s (s : ByteArray) (a b c : Int) (w : World) (hs : s.size ≤ 900) (ha : I64 a) (hb : I64 b) : Con Tryd.prog 10 #[.string s, .int .i64 a, .int .i64 b, .int .u8 c] w (Ret w (.string (mutR s a b c))) := by
  obtain ⟨i, hi⟩ : ∃ i : Nat, arnd a ((s.size : Int) + 1) = (i : Int) := ⟨(arnd a ((s.size : Int) + 1)).toNat, by have := arnd_nn a ((s.size : Int) + 1) (by omega); omega⟩
  have hil : i ≤ s.size := by
    have := arnd_lt a ((s.size : Int) + 1) (by omega)
    omega
  obtain ⟨j, hj⟩ : ∃ j, arnd b 3 = j := ⟨_, rfl⟩
  have hm : mutR s a b c = if i = s.size ∨ j = 0 then s.extract 0 i ++ (⟨#[UInt8.ofNat c.toNat]⟩ : ByteArray) ++ s.extract i s.size else if j = 1 then s.extract 0 i ++ s.extract (i + 1) s.size else s.extract 0 i ++ (⟨#[UInt8.ofNat c.toNat]⟩ : ByteArray) ++ s.extract (i + 1) s.size := by
    unfold mutR
    simp only
    rw [hi, hj, Int.toNat_natCast]
  refine enter tabOk mixed Tryd.func10 rfl Tryd.ntmps10 Tryd.results10 [.v (.string s), .v (.int .i64 a), .v (.int .i64 b), .v (.int .u8 c)] (fun _ => none) [] 0 rfl rfl (hp0 _ _ _) ?_
  ((conv=>whnf);(repeat(refine And.intro ?_ ?_;(focus((first|omega|exact⟨rfl,True.intro⟩|exact⟨rfl,rfl,True.intro⟩|rfl|(simp only[List.length_set];first|omega|(refine⟨?_,?_⟩<;>omega)|(refine⟨?_,?_,?_⟩<;>omega))|(intro hg;(try simp only[bB]at hg);first|omega|(refine⟨?_,?_⟩<;>omega)|(refine⟨?_,?_,?_⟩<;>first|omega|(show _<_;(try simp only[List.length_set]);omega)|exact leT rfl))|(refine⟨?_,?_⟩<;>omega)|(refine⟨?_,?_,?_⟩<;>first|omega|(show _<_;(try simp only[List.length_set]);omega)|exact leT rfl)|(simp only[show rI.d=(0:Int)from rfl];omega));done));(conv=>whnf))))
  refine EvCall.plain Tryd.call12 (.v (.int .i64 (i : Int))) rfl (fun ρ W hp => by
    have := around_s a ((s.size : Int) + 1) W ha (by omega) (by omega)
    rw [hi] at this
    exact this) ?_
  ((conv=>whnf);(repeat(refine And.intro ?_ ?_;(focus((first|omega|exact⟨rfl,True.intro⟩|exact⟨rfl,rfl,True.intro⟩|rfl|(simp only[List.length_set];first|omega|(refine⟨?_,?_⟩<;>omega)|(refine⟨?_,?_,?_⟩<;>omega))|(intro hg;(try simp only[bB]at hg);first|omega|(refine⟨?_,?_⟩<;>omega)|(refine⟨?_,?_,?_⟩<;>first|omega|(show _<_;(try simp only[List.length_set]);omega)|exact leT rfl))|(refine⟨?_,?_⟩<;>omega)|(refine⟨?_,?_,?_⟩<;>first|omega|(show _<_;(try simp only[List.length_set]);omega)|exact leT rfl)|(simp only[show rI.d=(0:Int)from rfl];omega));done));(conv=>whnf))))
  refine EvOp.str1 (n := 0) Tryd.underlying39 Tryd.underlying5 Tryd.underlying9 rfl rfl rfl ?_
  ((conv=>whnf);(repeat(refine And.intro ?_ ?_;(focus((first|omega|exact⟨rfl,True.intro⟩|exact⟨rfl,rfl,True.intro⟩|rfl|(simp only[List.length_set];first|omega|(refine⟨?_,?_⟩<;>omega)|(refine⟨?_,?_,?_⟩<;>omega))|(intro hg;(try simp only[bB]at hg);first|omega|(refine⟨?_,?_⟩<;>omega)|(refine⟨?_,?_,?_⟩<;>first|omega|(show _<_;(try simp only[List.length_set]);omega)|exact leT rfl))|(refine⟨?_,?_⟩<;>omega)|(refine⟨?_,?_,?_⟩<;>first|omega|(show _<_;(try simp only[List.length_set]);omega)|exact leT rfl)|(simp only[show rI.d=(0:Int)from rfl];omega));done));(conv=>whnf))))
  refine EvCallC.plain Tryd.call12 (.v (.int .i64 j)) rfl (fun hc ρ W hp => by
    have := around_s b 3 W hb (by omega) (by omega)
    rw [hj] at this
    exact this) ?_
  ((conv=>whnf);(repeat(refine And.intro ?_ ?_;(focus((first|omega|exact⟨rfl,True.intro⟩|exact⟨rfl,rfl,True.intro⟩|rfl|(simp only[List.length_set];first|omega|(refine⟨?_,?_⟩<;>omega)|(refine⟨?_,?_,?_⟩<;>omega))|(intro hg;(try simp only[bB]at hg);first|omega|(refine⟨?_,?_⟩<;>omega)|(refine⟨?_,?_,?_⟩<;>first|omega|(show _<_;(try simp only[List.length_set]);omega)|exact leT rfl))|(refine⟨?_,?_⟩<;>omega)|(refine⟨?_,?_,?_⟩<;>first|omega|(show _<_;(try simp only[List.length_set]);omega)|exact leT rfl)|(simp only[show rI.d=(0:Int)from rfl];omega));done));(conv=>whnf))))
  have f1 : (s.extract 0 (Int.toNat (i : Int))).size ≤ 900 := by rw [ByteArray.size_extract]; omega
  have f2 : (s.extract 0 (Int.toNat (i : Int)) ++ (⟨#[UInt8.ofNat c.toNat]⟩ : ByteArray)).size ≤ 901 := by
    rw [ByteArray.size_append]
    exact Nat.add_le_add f1 (Nat.le_refl 1)
  have f3 : (s.extract (Int.toNat (i : Int)) s.size).size ≤ 900 := by rw [ByteArray.size_extract]; omega
  have f4 : (s.extract (Int.toNat ((i : Int) + 1)) s.size).size ≤ 900 := by rw [ByteArray.size_extract]; omega
  have f5 : (⟨#[UInt8.ofNat c.toNat]⟩ : ByteArray).size = 1 := rfl
  have f6 : s.extract (Int.toNat ((i : Int) + 1)) s.size = s.extract (i + 1) s.size := by rw [show Int.toNat ((i : Int) + 1) = i + 1 by omega]
  refine EvIf.split (fun g1 => ?_) (fun g1 => ?_)
  · simp only [Bool.or_eq_true, decide_eq_true_eq] at g1
    rw [if_pos (by omega)] at hm
    rw [hm]
    ((conv=>whnf);(repeat(refine And.intro ?_ ?_;(focus((first|omega|exact⟨rfl,True.intro⟩|exact⟨rfl,rfl,True.intro⟩|rfl|(simp only[List.length_set];first|omega|(refine⟨?_,?_⟩<;>omega)|(refine⟨?_,?_,?_⟩<;>omega))|(intro hg;(try simp only[bB]at hg);first|omega|(refine⟨?_,?_⟩<;>omega)|(refine⟨?_,?_,?_⟩<;>first|omega|(show _<_;(try simp only[List.length_set]);omega)|exact leT rfl))|(refine⟨?_,?_⟩<;>omega)|(refine⟨?_,?_,?_⟩<;>first|omega|(show _<_;(try simp only[List.length_set]);omega)|exact leT rfl)|(simp only[show rI.d=(0:Int)from rfl];omega));done));(conv=>whnf))))
    (refine EvDraw.one (.q 0 (.q 1 (.q 2 (.q 3 (.q 4 (.q 5 (.q 6 (.q 7 (.q 8 (.q 9 (.z))))))))))) (by kernel_rfl) ?_)
    ((conv=>whnf);(repeat(refine And.intro ?_ ?_;(focus((first|omega|exact⟨rfl,True.intro⟩|exact⟨rfl,rfl,True.intro⟩|rfl|(simp only[List.length_set];first|omega|(refine⟨?_,?_⟩<;>omega)|(refine⟨?_,?_,?_⟩<;>omega))|(intro hg;(try simp only[bB]at hg);first|omega|(refine⟨?_,?_⟩<;>omega)|(refine⟨?_,?_,?_⟩<;>first|omega|(show _<_;(try simp only[List.length_set]);omega)|exact leT rfl))|(refine⟨?_,?_⟩<;>omega)|(refine⟨?_,?_,?_⟩<;>first|omega|(show _<_;(try simp only[List.length_set]);omega)|exact leT rfl)|(simp only[show rI.d=(0:Int)from rfl];omega));done));(conv=>whnf))))
    exact EvRet.ret (fun _ => rfl)
  simp only [Bool.or_eq_false_iff, decide_eq_false_iff_not] at g1
  rw [if_neg (by omega)] at hm
  ((conv=>whnf);(repeat(refine And.intro ?_ ?_;(focus((first|omega|exact⟨rfl,True.intro⟩|exact⟨rfl,rfl,True.intro⟩|rfl|(simp only[List.length_set];first|omega|(refine⟨?_,?_⟩<;>omega)|(refine⟨?_,?_,?_⟩<;>omega))|(intro hg;(try simp only[bB]at hg);first|omega|(refine⟨?_,?_⟩<;>omega)|(refine⟨?_,?_,?_⟩<;>first|omega|(show _<_;(try simp only[List.length_set]);omega)|exact leT rfl))|(refine⟨?_,?_⟩<;>omega)|(refine⟨?_,?_,?_⟩<;>first|omega|(show _<_;(try simp only[List.length_set]);omega)|exact leT rfl)|(simp only[show rI.d=(0:Int)from rfl];omega));done));(conv=>whnf))))
  refine EvCall.plain Tryd.call12 (.v (.int .i64 j)) rfl (fun ρ W hp => by
    have := around_s b 3 W hb (by omega) (by omega)
    rw [hj] at this
    exact this) ?_
  ((conv=>whnf);(repeat(refine And.intro ?_ ?_;(focus((first|omega|exact⟨rfl,True.intro⟩|exact⟨rfl,rfl,True.intro⟩|rfl|(simp only[List.length_set];first|omega|(refine⟨?_,?_⟩<;>omega)|(refine⟨?_,?_,?_⟩<;>omega))|(intro hg;(try simp only[bB]at hg);first|omega|(refine⟨?_,?_⟩<;>omega)|(refine⟨?_,?_,?_⟩<;>first|omega|(show _<_;(try simp only[List.length_set]);omega)|exact leT rfl))|(refine⟨?_,?_⟩<;>omega)|(refine⟨?_,?_,?_⟩<;>first|omega|(show _<_;(try simp only[List.length_set]);omega)|exact leT rfl)|(simp only[show rI.d=(0:Int)from rfl];omega));done));(conv=>whnf))))
  refine EvIf.split (fun g2 => ?_) (fun g2 => ?_)
  · simp only [decide_eq_true_eq] at g2
    rw [if_pos g2, ← f6] at hm
    rw [hm]
    ((conv=>whnf);(repeat(refine And.intro ?_ ?_;(focus((first|omega|exact⟨rfl,True.intro⟩|exact⟨rfl,rfl,True.intro⟩|rfl|(simp only[List.length_set];first|omega|(refine⟨?_,?_⟩<;>omega)|(refine⟨?_,?_,?_⟩<;>omega))|(intro hg;(try simp only[bB]at hg);first|omega|(refine⟨?_,?_⟩<;>omega)|(refine⟨?_,?_,?_⟩<;>first|omega|(show _<_;(try simp only[List.length_set]);omega)|exact leT rfl))|(refine⟨?_,?_⟩<;>omega)|(refine⟨?_,?_,?_⟩<;>first|omega|(show _<_;(try simp only[List.length_set]);omega)|exact leT rfl)|(simp only[show rI.d=(0:Int)from rfl];omega));done));(conv=>whnf))))
    (refine EvDraw.one (.q 0 (.q 1 (.q 2 (.q 3 (.q 4 (.q 5 (.q 6 (.q 7 (.q 8 (.z)))))))))) (by kernel_rfl) ?_)
    ((conv=>whnf);(repeat(refine And.intro ?_ ?_;(focus((first|omega|exact⟨rfl,True.intro⟩|exact⟨rfl,rfl,True.intro⟩|rfl|(simp only[List.length_set];first|omega|(refine⟨?_,?_⟩<;>omega)|(refine⟨?_,?_,?_⟩<;>omega))|(intro hg;(try simp only[bB]at hg);first|omega|(refine⟨?_,?_⟩<;>omega)|(refine⟨?_,?_,?_⟩<;>first|omega|(show _<_;(try simp only[List.length_set]);omega)|exact leT rfl))|(refine⟨?_,?_⟩<;>omega)|(refine⟨?_,?_,?_⟩<;>first|omega|(show _<_;(try simp only[List.length_set]);omega)|exact leT rfl)|(simp only[show rI.d=(0:Int)from rfl];omega));done));(conv=>whnf))))
    exact EvRet.ret (fun _ => rfl)
  · simp only [decide_eq_false_iff_not] at g2
    rw [if_neg g2, ← f6] at hm
    rw [hm]
    ((conv=>whnf);(repeat(refine And.intro ?_ ?_;(focus((first|omega|exact⟨rfl,True.intro⟩|exact⟨rfl,rfl,True.intro⟩|rfl|(simp only[List.length_set];first|omega|(refine⟨?_,?_⟩<;>omega)|(refine⟨?_,?_,?_⟩<;>omega))|(intro hg;(try simp only[bB]at hg);first|omega|(refine⟨?_,?_⟩<;>omega)|(refine⟨?_,?_,?_⟩<;>first|omega|(show _<_;(try simp only[List.length_set]);omega)|exact leT rfl))|(refine⟨?_,?_⟩<;>omega)|(refine⟨?_,?_,?_⟩<;>first|omega|(show _<_;(try simp only[List.length_set]);omega)|exact leT rfl)|(simp only[show rI.d=(0:Int)from rfl];omega));done));(conv=>whnf))))
    (refine EvDraw.one (.q 0 (.q 1 (.q 2 (.q 3 (.q 4 (.q 5 (.q 6 (.q 7 (.q 8 (.q 9 (.q 10 (.z)))))))))))) (by kernel_rfl) ?_)
    ((conv=>whnf);(repeat(refine And.intro ?_ ?_;(focus((first|omega|exact⟨rfl,True.intro⟩|exact⟨rfl,rfl,True.intro⟩|rfl|(simp only[List.length_set];first|omega|(refine⟨?_,?_⟩<;>omega)|(refine⟨?_,?_,?_⟩<;>omega))|(intro hg;(try simp only[bB]at hg);first|omega|(refine⟨?_,?_⟩<;>omega)|(refine⟨?_,?_,?_⟩<;>first|omega|(show _<_;(try simp only[List.length_set]);omega)|exact leT rfl))|(refine⟨?_,?_⟩<;>omega)|(refine⟨?_,?_,?_⟩<;>first|omega|(show _<_;(try simp only[List.length_set]);omega)|exact leT rfl)|(simp only[show rI.d=(0:Int)from rfl];omega));done));(conv=>whnf))))
    exact EvRet.ret (fun _ => rfl)
set_option maxRecDepth 10000 in
theorem parses_s (s : ByteArray) (w : World) (hs : s.size ≤ 900) (hm : MaxL w) : Con Tryd.prog 9 #[.string s] w (Ret w (.bool true)) := by
  refine enter tabOk mixed Tryd.func9 rfl Tryd.ntmps9 Tryd.results9 [.v (.string s)] (fun _ => none) [] 0 rfl rfl (hp0 _ _ _) ?_
  ((conv=>whnf);(repeat(refine And.intro ?_ ?_;(focus((first|omega|exact⟨rfl,True.intro⟩|exact⟨rfl,rfl,True.intro⟩|rfl|(simp only[List.length_set];first|omega|(refine⟨?_,?_⟩<;>omega)|(refine⟨?_,?_,?_⟩<;>omega))|(intro hg;(try simp only[bB]at hg);first|omega|(refine⟨?_,?_⟩<;>omega)|(refine⟨?_,?_,?_⟩<;>first|omega|(show _<_;(try simp only[List.length_set]);omega)|exact leT rfl))|(refine⟨?_,?_⟩<;>omega)|(refine⟨?_,?_,?_⟩<;>first|omega|(show _<_;(try simp only[List.length_set]);omega)|exact leT rfl)|(simp only[show rI.d=(0:Int)from rfl];omega));done));(conv=>whnf))))
  refine EvCall.rowsE (R := rL) (ty := 42) (xs := (parseR s).1) (z := (parseR s).2) Tryd.call14 (fun ρ W hp => parse_s s W hs (hm.below hp.bel)) (fun ca ha1 ha2 => ?_)
  ((conv=>whnf);(repeat(refine And.intro ?_ ?_;(focus((first|omega|exact⟨rfl,True.intro⟩|exact⟨rfl,rfl,True.intro⟩|rfl|(simp only[List.length_set];first|omega|(refine⟨?_,?_⟩<;>omega)|(refine⟨?_,?_,?_⟩<;>omega))|(intro hg;(try simp only[bB]at hg);first|omega|(refine⟨?_,?_⟩<;>omega)|(refine⟨?_,?_,?_⟩<;>first|omega|(show _<_;(try simp only[List.length_set]);omega)|exact leT rfl))|(refine⟨?_,?_⟩<;>omega)|(refine⟨?_,?_,?_⟩<;>first|omega|(show _<_;(try simp only[List.length_set]);omega)|exact leT rfl)|(simp only[show rI.d=(0:Int)from rfl];omega));done));(conv=>whnf))))
  refine EvCall.rowsE (R := rL) (ty := 42) (xs := (parseR s).1) (z := (parseR s).2) Tryd.call21 (fun ρ W hp => ref_parse_s s W hs) (fun cb hb1 hb2 => ?_)
  generalize parseR s = x at *
  ((conv=>whnf);(repeat(refine And.intro ?_ ?_;(focus((first|omega|exact⟨rfl,True.intro⟩|exact⟨rfl,rfl,True.intro⟩|rfl|(simp only[List.length_set];first|omega|(refine⟨?_,?_⟩<;>omega)|(refine⟨?_,?_,?_⟩<;>omega))|(intro hg;(try simp only[bB]at hg);first|omega|(refine⟨?_,?_⟩<;>omega)|(refine⟨?_,?_,?_⟩<;>first|omega|(show _<_;(try simp only[List.length_set]);omega)|exact leT rfl))|(refine⟨?_,?_⟩<;>omega)|(refine⟨?_,?_,?_⟩<;>first|omega|(show _<_;(try simp only[List.length_set]);omega)|exact leT rfl)|(simp only[show rI.d=(0:Int)from rfl];omega));done));(conv=>whnf))))
  refine EvCallC.plain Tryd.call16 (.v (.bool (decide (x.1 = x.1)))) rfl (fun hc ρ W hp => same_s _ _ x.1 x.1 W (hp.rowsIn (R := rL) (n := 0) (c := ca) rfl (by decide) ha1 ha2 2) (hp.rowsIn (R := rL) (n := 1) (c := cb) rfl (by decide) hb1 hb2 2)) ?_
  ((conv=>whnf);(repeat(refine And.intro ?_ ?_;(focus((first|omega|exact⟨rfl,True.intro⟩|exact⟨rfl,rfl,True.intro⟩|rfl|(simp only[List.length_set];first|omega|(refine⟨?_,?_⟩<;>omega)|(refine⟨?_,?_,?_⟩<;>omega))|(intro hg;(try simp only[bB]at hg);first|omega|(refine⟨?_,?_⟩<;>omega)|(refine⟨?_,?_,?_⟩<;>first|omega|(show _<_;(try simp only[List.length_set]);omega)|exact leT rfl))|(refine⟨?_,?_⟩<;>omega)|(refine⟨?_,?_,?_⟩<;>first|omega|(show _<_;(try simp only[List.length_set]);omega)|exact leT rfl)|(simp only[show rI.d=(0:Int)from rfl];omega));done));(conv=>whnf))))
  exact EvRet.ret (fun ρ => by simp [den])
theorem jL_le {l : List Lb} (h : ∀ e ∈ l, e.1.size ≤ 17 ∧ e.2.size ≤ 17) : (jL l).length ≤ 38 * l.length := by
  match l with
  | [] => simp [jL]
  | [x] =>
    have := h x (by simp)
    show (eL x).length ≤ 38
    rw [eL_len]
    omega
  | x :: y :: r =>
    have h1 := h x (by simp)
    have h2 : (jL (x :: y :: r)).length = (eL x).length + ((jL (y :: r)).length + 1) := by
      show (eL x ++ 44 :: jL (y :: r)).length = _
      simp
    have h3 := jL_le (l := y :: r) (fun e he => h e (List.mem_cons_of_mem _ he))
    rw [h2, eL_len]
    simp only [List.length_cons] at h3 ⊢
    omega
theorem mem_17 {ls : List ByteArray} {i : Nat} (h : ∀ s ∈ ls, s.size ≤ 17) : (ls.getD i ByteArray.empty).size ≤ 17 := by
  by_cases hi : i < ls.length
  · rw [List.getD_eq_getElem?_getD, List.getElem?_eq_getElem hi]
    exact h _ (List.getElem_mem hi)
  · rw [List.getD_eq_getElem?_getD, List.getElem?_eq_none (by omega)]
    decide
theorem dirty_text (zs : List Int) : (textR (dirtyL zs)).size ≤ 800 := by
  have h1 := dirty_len zs
  have h2 : (jL (dirtyL zs)).length ≤ 38 * (dirtyL zs).length := jL_le fun e he => by
    simp only [dirtyL, List.mem_map] at he
    obtain ⟨i, _, rfl⟩ := he
    exact ⟨mem_17 (by decide), mem_17 (by decide)⟩
  have h3 := text_size (l := dirtyL zs) rfl
  omega
theorem set_text (zs : List Int) : (textR (setL zs)).size ≤ 800 := by
  have h1 : (setL zs).length ≤ 6 := setN_len zs 6
  have h2 : (jL (setL zs)).length ≤ 38 * (setL zs).length := by
    refine jL_le ?_
    have : ∀ i, ∀ e ∈ setN zs i, e.1.size ≤ 17 ∧ e.2.size ≤ 17 := by
      intro i
      induction i with
      | zero => intro e he; simp [setN] at he
      | succ i ih =>
        intro e he
        unfold setN at he
        split at he
        · rcases List.mem_append.1 he with h | h
          · exact ih e h
          · simp only [List.mem_singleton] at h
            subst h
            exact ⟨mem_17 (by decide), mem_17 (by decide)⟩
        · exact ih e he
    exact this 6
  have h3 := text_size (l := setL zs) rfl
  omega
set_option maxRecDepth 10000 in
theorem labelsparse_s (s : ByteArray) (V1 : Value) (zs : List Int) (a b c : Int) (w : World) (h1 : Ints w V1 zs) (ha : I64 a) (hb : I64 b) (hm : MaxL w) :
    Con Tryd.prog 3 #[.string s, V1, .int .i64 a, .int .i64 b, .int .u8 c] w (Ret w (.bool true)) := by
  obtain ⟨A1, c1, rfl, e1, e2⟩ := h1.form
  have hsh := short_size s 60
  obtain ⟨t, ht⟩ : ∃ t, shortS s 60 = t := ⟨_, rfl⟩
  rw [ht] at hsh
  have q1 : ((⟨#[123]⟩ : ByteArray) ++ t).size ≤ 61 := by
    rw [ByteArray.size_append]
    have : (⟨#[123]⟩ : ByteArray).size = 1 := rfl
    omega
  have q2 : ((⟨#[123]⟩ : ByteArray) ++ t ++ (⟨#[125]⟩ : ByteArray)).size ≤ 62 := by
    rw [ByteArray.size_append]
    exact Nat.add_le_add q1 (Nat.le_refl 1)
  have z1 : (⟨#[123]⟩ : ByteArray).size = 1 := rfl
  have z2 : (⟨#[125]⟩ : ByteArray).size = 1 := rfl
  have hdz := dirty_text zs
  have hsz := set_text zs
  have hdl := dirty_lbs zs
  have hsl := set_lbs zs
  refine enter tabOk mixed Tryd.func3 rfl Tryd.ntmps3 Tryd.results3 [.v (.string s), .s 0 1 zs.length c1, .v (.int .i64 a), .v (.int .i64 b), .v (.int .u8 c)] (fun _ => A1) [⟨0, false, 3, 1, c1, .rows Int rI (zs)⟩] 1 rfl rfl (.ro (hp0 _ _ _) _ rfl rfl rfl (ro_ints h1 rfl _)) ?_
  ((conv=>whnf);(repeat(refine And.intro ?_ ?_;(focus((first|omega|exact⟨rfl,True.intro⟩|exact⟨rfl,rfl,True.intro⟩|rfl|(simp only[List.length_set];first|omega|(refine⟨?_,?_⟩<;>omega)|(refine⟨?_,?_,?_⟩<;>omega))|(intro hg;(try simp only[bB]at hg);first|omega|(refine⟨?_,?_⟩<;>omega)|(refine⟨?_,?_,?_⟩<;>first|omega|(show _<_;(try simp only[List.length_set]);omega)|exact leT rfl))|(refine⟨?_,?_⟩<;>omega)|(refine⟨?_,?_,?_⟩<;>first|omega|(show _<_;(try simp only[List.length_set]);omega)|exact leT rfl)|(simp only[show rI.d=(0:Int)from rfl];omega));done));(conv=>whnf))))
  refine EvCall.plain Tryd.call5 (.v (.string t)) rfl (fun ρ W hp => by
    have := short_s s 60 W (by decide)
    rw [ht] at this
    exact this) ?_
  ((conv=>whnf);(repeat(refine And.intro ?_ ?_;(focus((first|omega|exact⟨rfl,True.intro⟩|exact⟨rfl,rfl,True.intro⟩|rfl|(simp only[List.length_set];first|omega|(refine⟨?_,?_⟩<;>omega)|(refine⟨?_,?_,?_⟩<;>omega))|(intro hg;(try simp only[bB]at hg);first|omega|(refine⟨?_,?_⟩<;>omega)|(refine⟨?_,?_,?_⟩<;>first|omega|(show _<_;(try simp only[List.length_set]);omega)|exact leT rfl))|(refine⟨?_,?_⟩<;>omega)|(refine⟨?_,?_,?_⟩<;>first|omega|(show _<_;(try simp only[List.length_set]);omega)|exact leT rfl)|(simp only[show rI.d=(0:Int)from rfl];omega));done));(conv=>whnf))))
  refine EvCall.rows (R := rL) (ty := 42) (xs := dirtyL zs) Tryd.call7 (fun ρ W hp => dirty_s _ zs W (hp.ints (n := 0) rfl e1 e2 h1.2)) (fun cb hb1 hb2 => ?_)
  generalize dirtyL zs = d at *
  ((conv=>whnf);(repeat(refine And.intro ?_ ?_;(focus((first|omega|exact⟨rfl,True.intro⟩|exact⟨rfl,rfl,True.intro⟩|rfl|(simp only[List.length_set];first|omega|(refine⟨?_,?_⟩<;>omega)|(refine⟨?_,?_,?_⟩<;>omega))|(intro hg;(try simp only[bB]at hg);first|omega|(refine⟨?_,?_⟩<;>omega)|(refine⟨?_,?_,?_⟩<;>first|omega|(show _<_;(try simp only[List.length_set]);omega)|exact leT rfl))|(refine⟨?_,?_⟩<;>omega)|(refine⟨?_,?_,?_⟩<;>first|omega|(show _<_;(try simp only[List.length_set]);omega)|exact leT rfl)|(simp only[show rI.d=(0:Int)from rfl];omega));done));(conv=>whnf))))
  refine EvCall.plain Tryd.call6 (.v (.string (textR d))) rfl (fun ρ W hp => ref_text_s _ d W (hp.rowsIn (R := rL) (n := 1) (c := cb) rfl (by decide) hb1 hb2 2) hdl) ?_
  ((conv=>whnf);(repeat(refine And.intro ?_ ?_;(focus((first|omega|exact⟨rfl,True.intro⟩|exact⟨rfl,rfl,True.intro⟩|rfl|(simp only[List.length_set];first|omega|(refine⟨?_,?_⟩<;>omega)|(refine⟨?_,?_,?_⟩<;>omega))|(intro hg;(try simp only[bB]at hg);first|omega|(refine⟨?_,?_⟩<;>omega)|(refine⟨?_,?_,?_⟩<;>first|omega|(show _<_;(try simp only[List.length_set]);omega)|exact leT rfl))|(refine⟨?_,?_⟩<;>omega)|(refine⟨?_,?_,?_⟩<;>first|omega|(show _<_;(try simp only[List.length_set]);omega)|exact leT rfl)|(simp only[show rI.d=(0:Int)from rfl];omega));done));(conv=>whnf))))
  refine EvCall.rows (R := rL) (ty := 42) (xs := setL zs) Tryd.call8 (fun ρ W hp => set_s _ zs W (hp.ints (n := 0) rfl e1 e2 h1.2)) (fun cc hc1 hc2 => ?_)
  generalize setL zs = g at *
  ((conv=>whnf);(repeat(refine And.intro ?_ ?_;(focus((first|omega|exact⟨rfl,True.intro⟩|exact⟨rfl,rfl,True.intro⟩|rfl|(simp only[List.length_set];first|omega|(refine⟨?_,?_⟩<;>omega)|(refine⟨?_,?_,?_⟩<;>omega))|(intro hg;(try simp only[bB]at hg);first|omega|(refine⟨?_,?_⟩<;>omega)|(refine⟨?_,?_,?_⟩<;>first|omega|(show _<_;(try simp only[List.length_set]);omega)|exact leT rfl))|(refine⟨?_,?_⟩<;>omega)|(refine⟨?_,?_,?_⟩<;>first|omega|(show _<_;(try simp only[List.length_set]);omega)|exact leT rfl)|(simp only[show rI.d=(0:Int)from rfl];omega));done));(conv=>whnf))))
  refine EvCall.plain Tryd.call6 (.v (.string (textR g))) rfl (fun ρ W hp => ref_text_s _ g W (hp.rowsIn (R := rL) (n := 2) (c := cc) rfl (by decide) hc1 hc2 2) hsl) ?_
  generalize textR d = td at *
  generalize textR g = tg at *
  have hmd := mut_size td a b c
  have hmg := mut_size tg a b c
  ((conv=>whnf);(repeat(refine And.intro ?_ ?_;(focus((first|omega|exact⟨rfl,True.intro⟩|exact⟨rfl,rfl,True.intro⟩|rfl|(simp only[List.length_set];first|omega|(refine⟨?_,?_⟩<;>omega)|(refine⟨?_,?_,?_⟩<;>omega))|(intro hg;(try simp only[bB]at hg);first|omega|(refine⟨?_,?_⟩<;>omega)|(refine⟨?_,?_,?_⟩<;>first|omega|(show _<_;(try simp only[List.length_set]);omega)|exact leT rfl))|(refine⟨?_,?_⟩<;>omega)|(refine⟨?_,?_,?_⟩<;>first|omega|(show _<_;(try simp only[List.length_set]);omega)|exact leT rfl)|(simp only[show rI.d=(0:Int)from rfl];omega));done));(conv=>whnf))))
  refine EvCall.plain Tryd.call9 (.v (.bool true)) rfl (fun ρ W hp => parses_s t W (by omega) (hm.below hp.bel)) ?_
  ((conv=>whnf);(repeat(refine And.intro ?_ ?_;(focus((first|omega|exact⟨rfl,True.intro⟩|exact⟨rfl,rfl,True.intro⟩|rfl|(simp only[List.length_set];first|omega|(refine⟨?_,?_⟩<;>omega)|(refine⟨?_,?_,?_⟩<;>omega))|(intro hg;(try simp only[bB]at hg);first|omega|(refine⟨?_,?_⟩<;>omega)|(refine⟨?_,?_,?_⟩<;>first|omega|(show _<_;(try simp only[List.length_set]);omega)|exact leT rfl))|(refine⟨?_,?_⟩<;>omega)|(refine⟨?_,?_,?_⟩<;>first|omega|(show _<_;(try simp only[List.length_set]);omega)|exact leT rfl)|(simp only[show rI.d=(0:Int)from rfl];omega));done));(conv=>whnf))))
  refine EvCallC.plain Tryd.call9 (.v (.bool true)) rfl (fun hc ρ W hp => parses_s _ W (by omega) (hm.below hp.bel)) ?_
  ((conv=>whnf);(repeat(refine And.intro ?_ ?_;(focus((first|omega|exact⟨rfl,True.intro⟩|exact⟨rfl,rfl,True.intro⟩|rfl|(simp only[List.length_set];first|omega|(refine⟨?_,?_⟩<;>omega)|(refine⟨?_,?_,?_⟩<;>omega))|(intro hg;(try simp only[bB]at hg);first|omega|(refine⟨?_,?_⟩<;>omega)|(refine⟨?_,?_,?_⟩<;>first|omega|(show _<_;(try simp only[List.length_set]);omega)|exact leT rfl))|(refine⟨?_,?_⟩<;>omega)|(refine⟨?_,?_,?_⟩<;>first|omega|(show _<_;(try simp only[List.length_set]);omega)|exact leT rfl)|(simp only[show rI.d=(0:Int)from rfl];omega));done));(conv=>whnf))))
  refine EvCallC.plain Tryd.call9 (.v (.bool true)) rfl (fun hc ρ W hp => parses_s td W (by omega) (hm.below hp.bel)) ?_
  ((conv=>whnf);(repeat(refine And.intro ?_ ?_;(focus((first|omega|exact⟨rfl,True.intro⟩|exact⟨rfl,rfl,True.intro⟩|rfl|(simp only[List.length_set];first|omega|(refine⟨?_,?_⟩<;>omega)|(refine⟨?_,?_,?_⟩<;>omega))|(intro hg;(try simp only[bB]at hg);first|omega|(refine⟨?_,?_⟩<;>omega)|(refine⟨?_,?_,?_⟩<;>first|omega|(show _<_;(try simp only[List.length_set]);omega)|exact leT rfl))|(refine⟨?_,?_⟩<;>omega)|(refine⟨?_,?_,?_⟩<;>first|omega|(show _<_;(try simp only[List.length_set]);omega)|exact leT rfl)|(simp only[show rI.d=(0:Int)from rfl];omega));done));(conv=>whnf))))
  refine EvCallC.plain Tryd.call9 (.v (.bool true)) rfl (fun hc ρ W hp => parses_s tg W (by omega) (hm.below hp.bel)) ?_
  ((conv=>whnf);(repeat(refine And.intro ?_ ?_;(focus((first|omega|exact⟨rfl,True.intro⟩|exact⟨rfl,rfl,True.intro⟩|rfl|(simp only[List.length_set];first|omega|(refine⟨?_,?_⟩<;>omega)|(refine⟨?_,?_,?_⟩<;>omega))|(intro hg;(try simp only[bB]at hg);first|omega|(refine⟨?_,?_⟩<;>omega)|(refine⟨?_,?_,?_⟩<;>first|omega|(show _<_;(try simp only[List.length_set]);omega)|exact leT rfl))|(refine⟨?_,?_⟩<;>omega)|(refine⟨?_,?_,?_⟩<;>first|omega|(show _<_;(try simp only[List.length_set]);omega)|exact leT rfl)|(simp only[show rI.d=(0:Int)from rfl];omega));done));(conv=>whnf))))
  refine EvCallC.plain Tryd.call10 (.v (.string (mutR td a b c))) rfl (fun hc ρ W hp => mutated_s td a b c W (by omega) ha hb) ?_
  ((conv=>whnf);(repeat(refine And.intro ?_ ?_;(focus((first|omega|exact⟨rfl,True.intro⟩|exact⟨rfl,rfl,True.intro⟩|rfl|(simp only[List.length_set];first|omega|(refine⟨?_,?_⟩<;>omega)|(refine⟨?_,?_,?_⟩<;>omega))|(intro hg;(try simp only[bB]at hg);first|omega|(refine⟨?_,?_⟩<;>omega)|(refine⟨?_,?_,?_⟩<;>first|omega|(show _<_;(try simp only[List.length_set]);omega)|exact leT rfl))|(refine⟨?_,?_⟩<;>omega)|(refine⟨?_,?_,?_⟩<;>first|omega|(show _<_;(try simp only[List.length_set]);omega)|exact leT rfl)|(simp only[show rI.d=(0:Int)from rfl];omega));done));(conv=>whnf))))
  refine EvCallC.plain Tryd.call9 (.v (.bool true)) rfl (fun hc ρ W hp => parses_s _ W (by omega) (hm.below hp.bel)) ?_
  ((conv=>whnf);(repeat(refine And.intro ?_ ?_;(focus((first|omega|exact⟨rfl,True.intro⟩|exact⟨rfl,rfl,True.intro⟩|rfl|(simp only[List.length_set];first|omega|(refine⟨?_,?_⟩<;>omega)|(refine⟨?_,?_,?_⟩<;>omega))|(intro hg;(try simp only[bB]at hg);first|omega|(refine⟨?_,?_⟩<;>omega)|(refine⟨?_,?_,?_⟩<;>first|omega|(show _<_;(try simp only[List.length_set]);omega)|exact leT rfl))|(refine⟨?_,?_⟩<;>omega)|(refine⟨?_,?_,?_⟩<;>first|omega|(show _<_;(try simp only[List.length_set]);omega)|exact leT rfl)|(simp only[show rI.d=(0:Int)from rfl];omega));done));(conv=>whnf))))
  refine EvCallC.plain Tryd.call10 (.v (.string (mutR tg a b c))) rfl (fun hc ρ W hp => mutated_s tg a b c W (by omega) ha hb) ?_
  ((conv=>whnf);(repeat(refine And.intro ?_ ?_;(focus((first|omega|exact⟨rfl,True.intro⟩|exact⟨rfl,rfl,True.intro⟩|rfl|(simp only[List.length_set];first|omega|(refine⟨?_,?_⟩<;>omega)|(refine⟨?_,?_,?_⟩<;>omega))|(intro hg;(try simp only[bB]at hg);first|omega|(refine⟨?_,?_⟩<;>omega)|(refine⟨?_,?_,?_⟩<;>first|omega|(show _<_;(try simp only[List.length_set]);omega)|exact leT rfl))|(refine⟨?_,?_⟩<;>omega)|(refine⟨?_,?_,?_⟩<;>first|omega|(show _<_;(try simp only[List.length_set]);omega)|exact leT rfl)|(simp only[show rI.d=(0:Int)from rfl];omega));done));(conv=>whnf))))
  refine EvCallC.plain Tryd.call9 (.v (.bool true)) rfl (fun hc ρ W hp => parses_s _ W (by omega) (hm.below hp.bel)) ?_
  ((conv=>whnf);(repeat(refine And.intro ?_ ?_;(focus((first|omega|exact⟨rfl,True.intro⟩|exact⟨rfl,rfl,True.intro⟩|rfl|(simp only[List.length_set];first|omega|(refine⟨?_,?_⟩<;>omega)|(refine⟨?_,?_,?_⟩<;>omega))|(intro hg;(try simp only[bB]at hg);first|omega|(refine⟨?_,?_⟩<;>omega)|(refine⟨?_,?_,?_⟩<;>first|omega|(show _<_;(try simp only[List.length_set]);omega)|exact leT rfl))|(refine⟨?_,?_⟩<;>omega)|(refine⟨?_,?_,?_⟩<;>first|omega|(show _<_;(try simp only[List.length_set]);omega)|exact leT rfl)|(simp only[show rI.d=(0:Int)from rfl];omega));done));(conv=>whnf))))
  refine EvCallC.plain Tryd.call11 (.v (.bool true)) rfl (fun hc ρ W hp => lives5_s W) ?_
  ((conv=>whnf);(repeat(refine And.intro ?_ ?_;(focus((first|omega|exact⟨rfl,True.intro⟩|exact⟨rfl,rfl,True.intro⟩|rfl|(simp only[List.length_set];first|omega|(refine⟨?_,?_⟩<;>omega)|(refine⟨?_,?_,?_⟩<;>omega))|(intro hg;(try simp only[bB]at hg);first|omega|(refine⟨?_,?_⟩<;>omega)|(refine⟨?_,?_,?_⟩<;>first|omega|(show _<_;(try simp only[List.length_set]);omega)|exact leT rfl))|(refine⟨?_,?_⟩<;>omega)|(refine⟨?_,?_,?_⟩<;>first|omega|(show _<_;(try simp only[List.length_set]);omega)|exact leT rfl)|(simp only[show rI.d=(0:Int)from rfl];omega));done));(conv=>whnf))))
  exact EvRet.ret (fun ρ => rfl)
theorem walk_LabelsParse (w : World) (s : ByteArray) (V1 : Value) (zs : List Int) (a b c : Int) (h1 : Ints w V1 zs) (ha : I64 a) (hb : I64 b) (hm : MaxL w) :
    Calls Tryd.prog 3 #[.string s, V1, .int .i64 a, .int .i64 b, .int .u8 c] w fun e w' => e = .returned (.bool true) ∧ Below w.heap.size w w' := (labelsparse_s s V1 zs a b c w h1 ha hb hm).out
end Go.Proofs.YtebfhljamoapjaaDoor
