
/- Claims: Of, Valid, Implies, Meet, Same. slices.Repeat of one int. Claims: Bands. Claims: Same, and the example of the section. -/
import Derived.Test.YtpnngbfmmjjnaaaDcB
import Derived.Test.YtpnngbfmmjjnaaaSyC
namespace Go.Proofs.Ytpnngbfmmjjnaaa
open Go.RowKit
set_option linter.unusedVariables false
set_option linter.unusedSimpArgs false

/-- A claim. -/
structure Cl where
  f : Int
  t : Int
  lo : Int
  hi : Int
  deriving DecidableEq
def cl0 : Cl := ⟨0, 0, 0, 0⟩
def clA (c : Cl) : Array Value := #[.int .i64 c.f, .int .i64 c.t, .int .i64 c.lo, .int .i64 c.hi]
def clS (c : Cl) : List SV := [.v (.int .i64 c.f), .v (.int .i64 c.t), .v (.int .i64 c.lo), .v (.int .i64 c.hi)]
def ClI (c : Cl) : Prop := I64 c.f ∧ I64 c.t ∧ I64 c.lo ∧ I64 c.hi
def ofC (cs : List Value) : Option Cl :=
  match cs with
  | [.int .i64 a, .int .i64 b, .int .i64 c, .int .i64 d] => some ⟨a, b, c, d⟩
  | _ => none
theorem ofC_law (cs : List Value) (x : Cl) (h : ofC cs = some x) : [Value.int .i64 x.f, Value.int .i64 x.t, Value.int .i64 x.lo, Value.int .i64 x.hi] = cs := by
  unfold ofC at h
  split at h
  · simp at h
    subst h
    rfl
  · cases h
def rC : RowS Cl := { cols := [fun c => .int .i64 c.f, fun c => .int .i64 c.t, fun c => .int .i64 c.lo, fun c => .int .i64 c.hi], d := cl0, of := ofC, law := fun cs x h => ofC_law cs x h, one := fun x f hf => by simp at hf; rcases hf with rfl | rfl | rfl | rfl <;> rfl }

/-- What Of returns. -/
def ofR (d : Dc) (a b x : Int) : Cl × Int :=
  if validCode d ≠ 0 then (cl0, validCode d)
  else if x < -1073741824 ∨ 1073741824 < x ∨ a < 0 ∨ b < a ∨ 1048576 < b then (cl0, 1)
  else if min b d.last < max a d.first then (cl0, 9)
  else (⟨max a d.first, min b d.last, x + min (min 0 (d.down * (min b d.last - max a d.first))) (-d.up * (min b d.last - max a d.first)),
    x + max (max 0 (d.up * (min b d.last - max a d.first))) (-d.down * (min b d.last - max a d.first))⟩, 0)
theorem ret_of {w : Ref} {L : List Ob} {nx : Nat} {r : Cl × Int} {c : Cl} {e : Int} (h : r = (c, e)) : EvRet w (Ret w.toWorld (.tuple #[.agg (clA r.1), .int .i64 r.2])) (.t [.a (clS c), .v (.int .i64 e)]) L nx := EvRet.ret (fun _ => by rw [h]; rfl)
theorem of_low (d : Dc) (n x : Int) (hn : 0 ≤ n) : min (min x (lowV d 0 n x)) (lowV d n 0 x) = x + min (min 0 (d.down * n)) (-d.up * n) := by
  have h1 : lowV d 0 n x = x + d.down * n := by simp [lowV, hn]
  have h2 : lowV d n 0 x = x + -d.up * n := by
    by_cases h : n ≤ 0
    · obtain rfl : n = 0 := by omega
      simp [lowV]
    · have := Int.neg_mul d.up n; simp [lowV, h]; omega
  rw [h1, h2]
  omega
theorem of_high (d : Dc) (n x : Int) (hn : 0 ≤ n) : max (max x (highV d 0 n x)) (highV d n 0 x) = x + max (max 0 (d.up * n)) (-d.down * n) := by
  have h1 : highV d 0 n x = x + d.up * n := by simp [highV, hn]
  have h2 : highV d n 0 x = x + -d.down * n := by
    by_cases h : n ≤ 0
    · obtain rfl : n = 0 := by omega
      simp [highV]
    · have := Int.neg_mul d.down n; simp [highV, h]; omega
  rw [h1, h2]
  omega
def validB (d : Dc) (c : Cl) : Bool := decide (d.first ≤ c.f) && decide (c.f ≤ c.t) && decide (c.t ≤ d.last) && decide (-1099511627776 ≤ c.lo) && decide (c.lo ≤ c.hi) && decide (c.hi ≤ 1099511627776)
theorem valid_iff (d : Dc) (c : Cl) : validB d c = true ↔ (d.first ≤ c.f ∧ c.f ≤ c.t ∧ c.t ≤ d.last ∧ -1099511627776 ≤ c.lo ∧ c.lo ≤ c.hi ∧ c.hi ≤ 1099511627776) := by
  simp [validB, Bool.and_eq_true, and_assoc]
set_option maxRecDepth 10000 in
theorem valid_s (nm : ByteArray) (A : Option Addr) (ln c : Nat) (d : Dc) (x : Cl) (w : World) : Con Try.prog 65 #[.agg (dcCells nm (.slice A ln c) d), .agg (clA x)] w (Ret w (.bool (validB d x))) := by
  refine enter tabOk mixed Try.func65 rfl Try.ntmps65 Try.results65 [.a (dcS nm (.v (.slice A ln c)) d), .a (clS x)] (fun _ => none) [] 0 rfl rfl (hp0 _ _ _) ?_
  ((conv=>whnf);repeat(refine And.intro (by omega) ?_;(conv=>whnf)))
  exact EvRet.ret (fun _ => rfl)
set_option maxRecDepth 10000 in
theorem ref_valid_s (nm : ByteArray) (A : Option Addr) (ln c : Nat) (d : Dc) (x : Cl) (w : World) : Con Try.prog 94 #[.agg (dcCells nm (.slice A ln c) d), .agg (clA x)] w (Ret w (.bool (validB d x))) := by
  refine enter tabOk mixed Try.func94 rfl Try.ntmps94 Try.results94 [.a (dcS nm (.v (.slice A ln c)) d), .a (clS x)] (fun _ => none) [] 0 rfl rfl (hp0 _ _ _) ?_
  ((conv=>whnf);repeat(refine And.intro (by omega) ?_;(conv=>whnf)))
  exact EvRet.ret (fun _ => rfl)
end Go.Proofs.Ytpnngbfmmjjnaaa
namespace Go.Proofs.Ytpnngbfmmjjnaaa
open Go.RowKit
set_option linter.unusedVariables false
set_option linter.unusedSimpArgs false

theorem and_one : IntKind.u64.wrap ((BitVec.ofInt IntKind.u64.bits 1 &&& BitVec.ofInt IntKind.u64.bits 4294967295).toNat : Int) = 1 := by decide +kernel
theorem and_zero : IntKind.u64.wrap ((BitVec.ofInt IntKind.u64.bits 0 &&& BitVec.ofInt IntKind.u64.bits 4294967295).toNat : Int) = 0 := by decide +kernel
theorem u64_in (z : Int) (h : 0 ≤ z ∧ z < 18446744073709551616) : IntKind.u64.wrap z = z := by
  simp only [IntKind.wrap, IntKind.bits, IntKind.signed]
  simp
  omega
theorem and_mask (y : Int) (h : 0 ≤ y ∧ y < 4294967296) : IntKind.u64.wrap ((BitVec.ofInt IntKind.u64.bits y &&& BitVec.ofInt IntKind.u64.bits 4294967295).toNat : Int) = y := by
  obtain ⟨n, rfl⟩ := Int.eq_ofNat_of_zero_le h.1
  have e : (BitVec.ofInt IntKind.u64.bits (n : Int) &&& BitVec.ofInt IntKind.u64.bits 4294967295).toNat = n := by
    have h1 : (BitVec.ofInt 64 (n : Int)).toNat = n := by simp [BitVec.toNat_ofInt]; omega
    have h2 : (BitVec.ofInt 64 (4294967295 : Int)).toNat = 2 ^ 32 - 1 := by decide
    show (BitVec.ofInt 64 (n : Int) &&& BitVec.ofInt 64 4294967295).toNat = n
    rw [BitVec.toNat_and, h1, h2, Nat.and_two_pow_sub_one_eq_mod]
    omega
  rw [e]
  exact u64_in _ (by omega)
theorem shr_small (y : Int) (h : 0 ≤ y ∧ y < 4294967296) : y.fdiv (2 ^ (min (Int.toNat 32) IntKind.u64.bits)) = 0 := by
  have : (2 : Int) ^ (min (Int.toNat 32) IntKind.u64.bits) = 4294967296 := by decide
  rw [this, Int.fdiv_eq_ediv_of_nonneg _ (by omega)]
  omega
set_option maxRecDepth 10000 in
theorem mul64_s (y : Int) (w : World) (h : 0 ≤ y ∧ y < 4294967296) : Con Try.prog 82 #[.int .u64 1, .int .u64 y] w (Ret w (.tuple #[.int .u64 0, .int .u64 y])) := by
  refine enter tabOk mixed Try.func82 rfl Try.ntmps82 Try.results82 [.v (.int .u64 1), .v (.int .u64 y)] (fun _ => none) [] 0 rfl rfl (hp0 _ _ _) ?_
  ((conv=>whnf);repeat(refine And.intro (by omega) ?_;(conv=>whnf)))
  refine EvRet.ret (fun ρ => ?_)
  simp only [den, denL, and_one, and_mask y h, shr_small 1 (by omega), shr_small y h, Int.zero_mul, Int.one_mul, Int.mul_zero, u64_in y (by omega), u64_in 0 (by omega), Int.zero_add, Int.add_zero, and_zero, shr_small 0 (by omega)]
theorem mul_s (y : Int) (w : World) (h : 0 ≤ y ∧ y < 4294967296) : Con Try.prog 67 #[.int .u64 1, .int .u64 y] w (Ret w (.tuple #[.int .u64 0, .int .u64 y])) := by
  refine enter tabOk mixed Try.func67 rfl Try.ntmps67 Try.results67 [.v (.int .u64 1), .v (.int .u64 y)] (fun _ => none) [] 0 rfl rfl (hp0 _ _ _) ?_
  ((conv=>whnf);repeat(refine And.intro (by omega) ?_;(conv=>whnf)))
  refine EvIf.neg rfl ?_
  ((conv=>whnf);repeat(refine And.intro (by omega) ?_;(conv=>whnf)))
  refine EvCall.plain Try.call82 (.t [.v (.int .u64 0), .v (.int .u64 y)]) rfl (fun ρ W hp => mul64_s y W h) ?_
  ((conv=>whnf);repeat(refine And.intro (by omega) ?_;(conv=>whnf)))
  exact EvRet.ret (fun ρ => rfl)
/-- The first k of n are x. -/
def repL (x : Int) (n k : Nat) : List Int := List.replicate k x ++ List.replicate (n - k) 0
theorem repL_len (x : Int) (n k : Nat) (h : k ≤ n) : (repL x n k).length = n := by simp [repL]; omega
theorem repL_splice (x : Int) (n k m : Nat) (h : k + m ≤ n) : splice (repL x n k) k (List.replicate m x) = repL x n (k + m) := by
  have e1 : (List.replicate k x ++ List.replicate (n - k) (0 : Int)).take k = List.replicate k x := by rw [List.take_append]; simp
  have e2 : (List.replicate k x ++ List.replicate (n - k) (0 : Int)).drop (k + m) = List.replicate (n - (k + m)) 0 := by
    have e4 : n - k - m = n - (k + m) := by omega
    rw [List.drop_append, List.drop_replicate, List.drop_replicate, List.length_replicate]
    rw [show k - (k + m) = 0 by omega, show n - k - (k + m - k) = n - (k + m) by omega]
    rfl
  simp only [splice, repL, List.length_replicate, e1, e2, List.replicate_append_replicate]
theorem repL_first (x : Int) (n : Nat) : splice (List.replicate n (0 : Int)) 0 (([x] : List Int).take (min 1 n)) = repL x n (min 1 n) := by
  cases n with
  | zero => rfl
  | succ n =>
    have : min 1 (n + 1) = 1 := by omega
    rw [this]
    have := repL_splice x (n + 1) 0 1 (by omega)
    simpa [repL] using this
set_option maxRecDepth 10000 in
theorem repeat_s (v : Value) (x : Int) (n : Nat) (w : World) (h : RowsIn rI w v [x]) (hn : n ≤ 1000000) : Con Try.prog 50 #[v, .int .i64 (n : Int)] w (RetRows rI 3 w (List.replicate n x)) := by
  obtain ⟨A, c, rfl, e1, e2⟩ := h.form
  have hm : ∀ W, Con Try.prog 67 #[.int .u64 (IntKind.u64.wrap ((1 : Nat) : Int)), .int .u64 (IntKind.u64.wrap (n : Int))] W (Ret W (.tuple #[.int .u64 0, .int .u64 (n : Int)])) := fun W => by
    rw [u64_in (n : Int) (by omega), u64_in ((1 : Nat) : Int) (by omega)]
    exact mul_s n W (by omega)
  refine enter tabOk mixed Try.func50 rfl Try.ntmps50 Try.results50 [.s 0 1 1 c, .v (.int .i64 (n : Int))] (fun _ => A) [⟨0, false, 3, 1, c, .rows Int rI [x]⟩] 1 rfl rfl (.ro (hp0 _ _ _) _ rfl rfl rfl (ro_rows h rfl _)) ?_
  ((conv=>whnf);repeat(refine And.intro (by omega) ?_;(conv=>whnf)))
  refine EvIf.neg (by simp) ?_
  ((conv=>whnf);repeat(refine And.intro (by omega) ?_;(conv=>whnf)))
  refine EvCall.plain Try.call67 (.t [.v (.int .u64 0), .v (.int .u64 (n : Int))]) rfl (fun ρ W hp => hm W) ?_
  ((conv=>whnf);repeat(refine And.intro (by omega) ?_;(conv=>whnf)))
  refine EvIf.neg (by simp; omega) ?_
  ((conv=>whnf);repeat(refine And.intro (by omega) ?_;(conv=>whnf)))
  refine EvMake.full (R := rI) tyok22 rfl tyok3 rfl (by decide) 0 rfl n (by show 8 * n ≤ _; omega) (by omega) ?_
  ((conv=>whnf);repeat(refine And.intro (by omega) ?_;(conv=>whnf)))
  refine EvBi.copy (R := rI) (eo := none) tyok22 rfl tyok3 rfl (by decide) rfl (by simp) [x] (fun ρ W hp => hp.rowsIn (R := rI) (n := 0) rfl (by decide) e1 e2 1) ?_
  rw [show (Option.getD none 0 : Nat) = 0 from rfl, show ([x] : List Int).length = 1 from rfl, repL_first]
  ((conv=>whnf);repeat(refine And.intro (by omega) ?_;(conv=>whnf)))
  refine EvLoop.inv (α := Nat) (fun k => k ≤ n ∧ (k = 0 → n = 0)) (fun k => n - k) (fun k => [(8, [], .v (.int .i64 (k : Int))), (7, [], .s 1 1 n n)]) (fun k => [⟨1, true, 3, 1, n, .rows Int rI (repL x n k)⟩]) 2 (min 1 n) ⟨by omega, by omega⟩ (Sub.of [] [] rfl ?_) ?_
  · ((repeat' (refine And.intro ?_ ?_)) <;> first | rfl | exact True.intro | omega)
  intro k ⟨hk, hk0⟩
  have hl := repL_len x n k hk
  ((conv=>whnf);repeat(refine And.intro (by omega) ?_;(conv=>whnf)))
  refine EvIf.split (fun h1 => ?_) (fun h1 => ?_)
  · simp only [decide_eq_true_eq] at h1
    ((conv=>whnf);repeat(refine And.intro (by omega) ?_;(conv=>whnf)))
    (refine EvDraw.one (.q 0 (.q 1 (.q 2 (.q 3 (.q 4 (.q 5 (.q 6 (.n 7 true (.q 8 (.q 9 (.z))) (.e))))))))) (by kernel_rfl) ?_)
    ((conv=>whnf);repeat(refine And.intro (by omega) ?_;(conv=>whnf)))
    have hcl : n - k + k = n := by omega
    have ho : (sOff (Option.getD none 0) n (Int.toNat (k : Int)) : Nat) = k := by simp [sOff]; omega
    rw [ho, Int.toNat_natCast]
    refine EvBi.copy (R := rI) (eo := some k) tyok22 rfl tyok3 rfl (by decide) rfl (by rw [hl]; simp; omega) (List.replicate k x) (fun ρ W hp => by
      have h5 := (hp.rowsIn (R := rI) (n := 1) rfl (by decide) (show (repL x n k).length ≤ n by omega) (by omega) 1)
      have h6 := h5.cut k n (by omega) hk (Nat.le_refl _)
      have h7 : (repL x n k).take k = List.replicate k x := by rw [repL, List.take_append]; simp
      rw [h7] at h6
      exact h6) ?_
    rw [show (Option.getD (some k) 0 : Nat) = k from rfl, List.length_replicate, List.take_replicate, repL_splice x n k _ (by omega)]
    ((conv=>whnf);repeat(refine And.intro (by omega) ?_;(conv=>whnf)))
    refine LoopI.back (k + min (min k (n - k)) k) ⟨by omega, by omega⟩ (by omega) (Sub.of [] [] rfl ?_)
    ((repeat' (refine And.intro ?_ ?_)) <;> first | rfl | exact True.intro | omega)
  · simp only [decide_eq_false_iff_not] at h1
    obtain rfl : k = n := by omega
    ((conv=>whnf);repeat(refine And.intro (by omega) ?_;(conv=>whnf)))
    exact EvRet.rows (R := rI) (by simp) (by simp) (by simp [repL]) rfl
end Go.Proofs.Ytpnngbfmmjjnaaa
namespace Go.Proofs.Ytpnngbfmmjjnaaa
open Go.RowKit
set_option linter.unusedVariables false
set_option linter.unusedSimpArgs false

def lowB (d : Dc) (l : List Cl) (t : Int) : Int := l.foldl (fun a c => if c.f ≤ t ∧ t ≤ c.t then max a c.lo else a) d.lo
def highB (d : Dc) (l : List Cl) (t : Int) : Int := l.foldl (fun a c => if c.f ≤ t ∧ t ≤ c.t then min a c.hi else a) d.hi
def lastC (out : List Cl) : Cl := out.getD (out.length - 1) cl0
def addR (out : List Cl) (t lo hi : Int) : List Cl :=
  if 0 < out.length ∧ (lastC out).lo = lo ∧ (lastC out).hi = hi then out.set (out.length - 1) ⟨(lastC out).f, t, (lastC out).lo, (lastC out).hi⟩ else out ++ [⟨t, t, lo, hi⟩]
def runsR (d : Dc) (l : List Cl) : Nat → Option (List Cl)
  | 0 => some []
  | n + 1 => (runsR d l n).bind fun out => if highB d l (d.first + n) < lowB d l (d.first + n) then none else some (addR out (d.first + n) (lowB d l (d.first + n)) (highB d l (d.first + n)))
def bandsR (d : Dc) (l : List Cl) : List Cl × Int :=
  if validCode d ≠ 0 then ([], validCode d)
  else if 4096 < l.length then ([], 4)
  else if ¬ (∀ c ∈ l, validB d c = true) then ([], 1)
  else match runsR d l (d.last - d.first + 1).toNat with
    | none => ([], 13)
    | some out => (out, 0)
theorem lowB_snoc (d : Dc) (l : List Cl) (c : Cl) (t : Int) : lowB d (l ++ [c]) t = if c.f ≤ t ∧ t ≤ c.t then max (lowB d l t) c.lo else lowB d l t := by simp [lowB, List.foldl_append]
theorem highB_snoc (d : Dc) (l : List Cl) (c : Cl) (t : Int) : highB d (l ++ [c]) t = if c.f ≤ t ∧ t ≤ c.t then min (highB d l t) c.hi else highB d l t := by simp [highB, List.foldl_append]
theorem addR_len (out : List Cl) (t lo hi : Int) : (addR out t lo hi).length ≤ out.length + 1 ∧ 0 < (addR out t lo hi).length := by
  unfold addR
  split
  · simp; omega
  · simp
theorem addR_last (out : List Cl) (t lo hi : Int) : (lastC (addR out t lo hi)).t = t := by
  unfold addR
  split
  · rename_i h
    simp only [lastC, List.length_set]
    rw [List.getD_eq_getElem?_getD, List.getElem?_set_self (by omega)]
    rfl
  · simp [lastC]
theorem runs_len (d : Dc) (l : List Cl) : ∀ (n : Nat) (out : List Cl), runsR d l n = some out → out.length ≤ n ∧ (0 < n → 0 < out.length ∧ (lastC out).t = d.first + n - 1)
  | 0, out, h => by
    simp only [runsR, Option.some.injEq] at h
    subst h
    simp
  | n + 1, out, h => by
    simp only [runsR] at h
    cases hr : runsR d l n with
    | none => rw [hr] at h; cases h
    | some o =>
      rw [hr, Option.bind_some] at h
      split at h
      · cases h
      · simp only [Option.some.injEq] at h
        have h1 := (runs_len d l n o hr).1
        have h2 := addR_len o (d.first + n) (lowB d l (d.first + n)) (highB d l (d.first + n))
        have h3 := addR_last o (d.first + n) (lowB d l (d.first + n)) (highB d l (d.first + n))
        rw [h] at h2 h3
        refine ⟨by omega, fun _ => ⟨h2.2, ?_⟩⟩
        rw [h3]
        omega
/-- The first j of n are f's, the others g's. -/
def mixL (f g : Nat → Int) (n j : Nat) : List Int := (List.range n).map fun i => if i < j then f i else g i
theorem mixL_len (f g : Nat → Int) (n j : Nat) : (mixL f g n j).length = n := by simp [mixL]
theorem mixL_get (f g : Nat → Int) (n j i : Nat) (z : Int) (h : i < n) : (mixL f g n j).getD i z = if i < j then f i else g i := by
  simp [mixL, List.getD_eq_getElem?_getD, List.getElem?_range h]
theorem mixL_set (f g : Nat → Int) (n j : Nat) (h : j < n) : (mixL f g n j).set j (f j) = mixL f g n (j + 1) := by
  apply List.ext_getElem
  · simp [mixL]
  · intro i h1 h2
    simp only [mixL, List.getElem_set, List.getElem_map, List.getElem_range]
    by_cases hij : j = i
    · subst hij; simp
    · rw [if_neg hij]
      by_cases h3 : i < j
      · rw [if_pos h3, if_pos (by omega)]
      · rw [if_neg h3, if_neg (by omega)]
theorem mixL_congr (f g f' g' : Nat → Int) (n j j' : Nat) (h : ∀ i, i < n → (if i < j then f i else g i) = (if i < j' then f' i else g' i)) : mixL f g n j = mixL f' g' n j' := by
  simp only [mixL]
  apply List.map_congr_left
  intro i hi
  exact h i (List.mem_range.1 hi)
theorem mixL_rep (f g : Nat → Int) (n : Nat) (x : Int) (h : ∀ i, i < n → g i = x) : List.replicate n x = mixL f g n 0 := by
  apply List.ext_getElem
  · simp [mixL]
  · intro i h1 h2
    simp [mixL] at h2 ⊢
    exact (h i h2).symm
def loS (d : Dc) (l : List Cl) (k : Nat) (i : Nat) : Int := lowB d (l.take k) (d.first + i)
def hiS (d : Dc) (l : List Cl) (k : Nat) (i : Nat) : Int := highB d (l.take k) (d.first + i)
theorem take_snoc (l : List Cl) (k : Nat) (h : k < l.length) : l.take (k + 1) = l.take k ++ [l.getD k cl0] := by
  rw [List.take_add_one, List.getElem?_eq_getElem h, List.getD_eq_getElem?_getD, List.getElem?_eq_getElem h]
  rfl
theorem loS_succ (d : Dc) (l : List Cl) (k i : Nat) (h : k < l.length) : loS d l (k + 1) i = if (l.getD k cl0).f ≤ d.first + i ∧ d.first + i ≤ (l.getD k cl0).t then max (loS d l k i) (l.getD k cl0).lo else loS d l k i := by
  simp only [loS, take_snoc l k h, lowB_snoc]
theorem hiS_succ (d : Dc) (l : List Cl) (k i : Nat) (h : k < l.length) : hiS d l (k + 1) i = if (l.getD k cl0).f ≤ d.first + i ∧ d.first + i ≤ (l.getD k cl0).t then min (hiS d l k i) (l.getD k cl0).hi else hiS d l k i := by
  simp only [hiS, take_snoc l k h, highB_snoc]
set_option maxRecDepth 10000 in
theorem bands_s (V v : Value) (d : Dc) (l : List Cl) (w : World) (h : DeclIs w V d) (hI : DcI d) (hv : RowsIn rC w v l) :
    Con Try.prog 42 #[V, v] w (RetRowsE rC 62 w (bandsR d l).1 (bandsR d l).2) := by
  have hD := h
  obtain ⟨nm, A, c, lb, rfl, hnm, hl, hS⟩ := h
  obtain ⟨A1, c1, rfl, e1, e2⟩ := hv.form
  refine enter tabOk mixed Try.func42 rfl Try.ntmps42 Try.results42 [.a (dcS nm (.v (.slice A lb.length c)) d), .s 0 4 l.length c1] (fun _ => A1) [⟨0, false, 62, 4, c1, .rows Cl rC l⟩] 1 rfl rfl (.ro (hp0 _ _ _) _ rfl rfl rfl (ro_rows hv rfl _)) ?_
  ((conv=>whnf);repeat(refine And.intro (by omega) ?_;(conv=>whnf)))
  refine EvCall.plain Try.call55 (.v (.int .i64 (validCode d))) rfl (fun ρ W hp => decl_valid_s _ d W (hD.below hp.bel) hI) ?_
  ((conv=>whnf);repeat(refine And.intro (by omega) ?_;(conv=>whnf)))
  refine EvIf.split (fun h1 => ?_) (fun h1 => ?_)
  · simp only [Bool.not_eq_true', decide_eq_false_iff_not] at h1
    ((conv=>whnf);repeat(refine And.intro (by omega) ?_;(conv=>whnf)))
    exact EvRet.rowsE_nil (by simp [bandsR, h1]) (by simp [bandsR, h1])
  simp only [Bool.not_eq_false', decide_eq_true_eq] at h1
  have hbd := valid_bounds h1
  ((conv=>whnf);repeat(refine And.intro (by omega) ?_;(conv=>whnf)))
  refine EvIf.split (fun h2 => ?_) (fun h2 => ?_)
  · simp only [decide_eq_true_eq] at h2
    ((conv=>whnf);repeat(refine And.intro (by omega) ?_;(conv=>whnf)))
    exact EvRet.rowsE_nil (by simp only [bandsR]; rw [if_neg (by simpa using h1), if_pos (by omega)]) (by simp only [bandsR]; rw [if_neg (by simpa using h1), if_pos (by omega)])
  simp only [decide_eq_false_iff_not] at h2
  ((conv=>whnf);repeat(refine And.intro (by omega) ?_;(conv=>whnf)))
  refine EvLoop.inv (α := Nat) (fun i => i ≤ l.length ∧ ∀ j, j < i → validB d (l.getD j cl0) = true) (fun i => l.length - i) (fun i => [(29, [], .v (.int .i64 (i : Int))), (28, [], .v (.int .i64 (l.length : Int))), (27, [], .s 0 4 l.length c1), (5, [], .v (.int .i64 0)), (4, [], .v (.slice none 0 0)), (2, [], .p 1 0), (1, [], .s 0 4 l.length c1)])
    (fun i => [⟨1, true, 27, 12, 1, .cs (dcS nm (.v (.slice A lb.length c)) d)⟩, ⟨0, false, 62, 4, c1, .rows Cl rC l⟩]) 2 0 ⟨by omega, fun j hj => by omega⟩ (Sub.of [] [] rfl ?_) ?_
  · ((repeat' (refine And.intro ?_ ?_)) <;> first | rfl | exact True.intro | omega)
  intro i ⟨hi, hi2⟩
  ((conv=>whnf);repeat(refine And.intro (by omega) ?_;(conv=>whnf)))
  refine EvIf.split (fun h3 => ?_) (fun h3 => ?_)
  · simp only [decide_eq_true_eq] at h3
    ((conv=>whnf);(repeat(refine And.intro ?_ ?_;(focus((first|omega|exact⟨rfl,True.intro⟩|exact⟨rfl,rfl,True.intro⟩|rfl|(simp only[List.length_set];first|omega|(refine⟨?_,?_⟩<;>omega)|(refine⟨?_,?_,?_⟩<;>omega))|(intro hg;(try simp only[bB]at hg);first|omega|(refine⟨?_,?_⟩<;>omega)|(refine⟨?_,?_,?_⟩<;>first|omega|(show _<_;(try simp only[List.length_set]);omega)|exact leT rfl))|(refine⟨?_,?_⟩<;>omega)|(refine⟨?_,?_,?_⟩<;>first|omega|(show _<_;(try simp only[List.length_set]);omega)|exact leT rfl)|(simp only[show rI.d=(0:Int)from rfl];omega));done));(conv=>whnf))))
    refine EvCall.plain Try.call65 (.v (.bool (validB d (l.getD i cl0)))) rfl (fun ρ W hp => valid_s nm A lb.length c d (l.getD i cl0) W) ?_
    ((conv=>whnf);repeat(refine And.intro (by omega) ?_;(conv=>whnf)))
    refine EvIf.split (fun h4 => ?_) (fun h4 => ?_)
    · simp only [Bool.not_eq_true'] at h4
      ((conv=>whnf);repeat(refine And.intro (by omega) ?_;(conv=>whnf)))
      have hb : bandsR d l = ([], 1) := by
        simp only [bandsR]
        rw [if_neg (by simpa using h1), if_neg (by omega), if_pos]
        intro hall
        have h5 := hall (l.getD i cl0) (by rw [List.getD_eq_getElem?_getD, List.getElem?_eq_getElem (by omega)]; simp)
        rw [h5] at h4
        cases h4
      rw [hb]
      exact EvRet.rowsE_nil rfl rfl
    simp only [Bool.not_eq_false'] at h4
    ((conv=>whnf);repeat(refine And.intro (by omega) ?_;(conv=>whnf)))
    refine LoopI.back (i + 1) ⟨by omega, fun j hj => ?_⟩ (by omega) (Sub.of [] [] rfl ?_)
    · by_cases hji : j = i
      · rw [hji]; exact h4
      · exact hi2 j (by omega)
    · ((repeat' (refine And.intro ?_ ?_)) <;> first | rfl | exact True.intro | omega)
  simp only [decide_eq_false_iff_not] at h3
  obtain rfl : i = l.length := by omega
  ((conv=>whnf);repeat(refine And.intro (by omega) ?_;(conv=>whnf)))
  refine EvCall.plain Try.call56 (.v (.int .i64 (d.last - d.first + 1))) rfl (fun ρ W hp => span_s nm A lb.length c d W (by omega) (by omega)) ?_
  ((conv=>whnf);repeat(refine And.intro (by omega) ?_;(conv=>whnf)))
  have hall : ∀ c ∈ l, validB d c = true := fun c hc => by
    obtain ⟨j, hj, rfl⟩ := List.getElem_of_mem hc
    have := hi2 j hj
    rwa [List.getD_eq_getElem?_getD, List.getElem?_eq_getElem hj] at this
  obtain ⟨sp, hsp⟩ : ∃ sp : Nat, d.last - d.first + 1 = (sp : Int) := ⟨(d.last - d.first + 1).toNat, by omega⟩
  have hrep : ∀ (n : Nat) (L : List Ob) (nx : Nat) (ρ : Rho) (W : World) (x : Int), fnd L n = some ⟨n, true, 3, 1, 1, .cs [.v (.int .i64 x)]⟩ → Hp (refOf w) ρ L nx W → Con Try.prog 50 (denL ρ [.s n 1 1 1, .v (.int .i64 (d.last - d.first + 1))]).toArray W (RetRows rI 3 W (List.replicate sp x)) := by
    intro n L nx ρ W x hf hp
    rw [hsp]
    exact repeat_s _ x sp W (hp.lit (R := rI) (ys := [x]) (sz := 1) (c := 1) hf (by decide) (by simp) (by omega) rfl) (by omega)
  refine EvDraw.meet (.q 0 (.q 1 (.q 3 (.q 5 (.q 6 (.q 8 (.n 2 false (.n 4 false (.n 7 false (.n 9 true (.q 10 (.n 11 false (.n 12 true (.z) (.e)) (.e))) (.n 11 false (.n 9 true (.q 10 (.n 12 true (.z) (.e))) (.e)) (.e))) (.n 11 false (.n 7 false (.n 9 true (.q 10 (.n 12 true (.z) (.e))) (.e)) (.e)) (.e))) (.n 7 false (.n 4 false (.n 9 true (.q 10 (.n 11 false (.n 12 true (.z) (.e)) (.e))) (.n 11 false (.n 9 true (.q 10 (.n 12 true (.z) (.e))) (.e)) (.e))) (.n 11 false (.n 4 false (.n 9 true (.q 10 (.n 12 true (.z) (.e))) (.e)) (.e)) (.e))) (.n 11 false (.n 4 false (.n 7 false (.n 9 true (.q 10 (.n 12 true (.z) (.e))) (.e)) (.e)) (.n 7 false (.n 4 false (.n 9 true (.q 10 (.n 12 true (.z) (.e))) (.e)) (.e)) (.e))) (.e)))) (.n 7 false (.n 2 false (.n 4 false (.n 9 true (.q 10 (.n 11 false (.n 12 true (.z) (.e)) (.e))) (.n 11 false (.n 9 true (.q 10 (.n 12 true (.z) (.e))) (.e)) (.e))) (.n 11 false (.n 4 false (.n 9 true (.q 10 (.n 12 true (.z) (.e))) (.e)) (.e)) (.e))) (.n 11 false (.n 2 false (.n 4 false (.n 9 true (.q 10 (.n 12 true (.z) (.e))) (.e)) (.e)) (.e)) (.e))) (.n 11 false (.n 2 false (.n 4 false (.n 7 false (.n 9 true (.q 10 (.n 12 true (.z) (.e))) (.e)) (.e)) (.n 7 false (.n 4 false (.n 9 true (.q 10 (.n 12 true (.z) (.e))) (.e)) (.e)) (.e))) (.n 7 false (.n 2 false (.n 4 false (.n 9 true (.q 10 (.n 12 true (.z) (.e))) (.e)) (.e)) (.e)) (.e))) (.e)))))))))) (by kernel_rfl) (α := Nat × Nat) (fun p => (sp ≤ p.1 ∧ p.1 ≤ 9223372036854775807) ∧ (sp ≤ p.2 ∧ p.2 ≤ 9223372036854775807))
    (fun p => [(10, [], .p 2 0), (9, [], .v (.int .i64 (sp : Int))), (5, [], .v (.int .i64 0)), (4, [], .v (.slice none 0 0)), (2, [], .p 1 0), (1, [], .s 0 4 l.length c1)])
    (fun p => [⟨2, true, 103, 2, 1, .cs [.s 3 1 sp p.1, .s 4 1 sp p.2]⟩, ⟨3, true, 3, 1, p.1, .rows Int rI (List.replicate sp d.lo)⟩, ⟨4, true, 3, 1, p.2, .rows Int rI (List.replicate sp d.hi)⟩, ⟨1, true, 27, 12, 1, .cs (dcS nm (.v (.slice A lb.length c)) d)⟩, ⟨0, false, 62, 4, c1, .rows Cl rC l⟩]) 7 ?_ ?_
  · ((conv=>whnf);repeat(refine And.intro (by omega) ?_;(conv=>whnf)))
    refine And.intro ?_ ?_
    · ((conv=>whnf);repeat(refine And.intro (by omega) ?_;(conv=>whnf)))
      refine And.intro ?_ ?_
      · ((conv=>whnf);repeat(refine And.intro (by omega) ?_;(conv=>whnf)))
        refine EvCall.rows (R := rI) (ty := 3) (xs := List.replicate sp d.lo) Try.call50 (fun ρ W hp => hrep _ _ _ ρ W d.lo rfl hp) (fun cl hc1 hc2 => ?_)
        rw [List.length_replicate] at hc1 ⊢
        ((conv=>whnf);repeat(refine And.intro (by omega) ?_;(conv=>whnf)))
        refine And.intro ?_ ?_
        · ((conv=>whnf);repeat(refine And.intro (by omega) ?_;(conv=>whnf)))
          refine And.intro ?_ ?_
          · ((conv=>whnf);repeat(refine And.intro (by omega) ?_;(conv=>whnf)))
            refine EvCall.rows (R := rI) (ty := 3) (xs := List.replicate sp d.hi) Try.call50 (fun ρ W hp => hrep _ _ _ ρ W d.hi rfl hp) (fun ch hc3 hc4 => ?_)
            rw [List.length_replicate] at hc3 ⊢
            ((conv=>whnf);repeat(refine And.intro (by omega) ?_;(conv=>whnf)))
            refine Exists.intro (cl, ch) (And.intro ⟨⟨hc1, hc2⟩, hc3, hc4⟩ (Sub.of [(2, 6), (3, 3), (4, 5)] [] rfl ?_))
            ((repeat' (refine And.intro ?_ ?_)) <;> first | rfl | exact True.intro | omega)
          ((conv=>whnf);repeat(refine And.intro (by omega) ?_;(conv=>whnf)))
          refine EvCall.rows (R := rI) (ty := 3) (xs := List.replicate sp d.hi) Try.call50 (fun ρ W hp => hrep _ _ _ ρ W d.hi rfl hp) (fun ch hc3 hc4 => ?_)
          rw [List.length_replicate] at hc3 ⊢
          ((conv=>whnf);repeat(refine And.intro (by omega) ?_;(conv=>whnf)))
          refine Exists.intro (cl, ch) (And.intro ⟨⟨hc1, hc2⟩, hc3, hc4⟩ (Sub.of [(2, 5), (3, 3), (4, 6)] [] rfl ?_))
          ((repeat' (refine And.intro ?_ ?_)) <;> first | rfl | exact True.intro | omega)
        ((conv=>whnf);repeat(refine And.intro (by omega) ?_;(conv=>whnf)))
        refine EvCall.rows (R := rI) (ty := 3) (xs := List.replicate sp d.hi) Try.call50 (fun ρ W hp => hrep _ _ _ ρ W d.hi rfl hp) (fun ch hc3 hc4 => ?_)
        rw [List.length_replicate] at hc3 ⊢
        ((conv=>whnf);repeat(refine And.intro (by omega) ?_;(conv=>whnf)))
        refine Exists.intro (cl, ch) (And.intro ⟨⟨hc1, hc2⟩, hc3, hc4⟩ (Sub.of [(2, 4), (3, 3), (4, 6)] [] rfl ?_))
        ((repeat' (refine And.intro ?_ ?_)) <;> first | rfl | exact True.intro | omega)
      ((conv=>whnf);repeat(refine And.intro (by omega) ?_;(conv=>whnf)))
      refine And.intro ?_ ?_
      · ((conv=>whnf);repeat(refine And.intro (by omega) ?_;(conv=>whnf)))
        refine And.intro ?_ ?_
        · ((conv=>whnf);repeat(refine And.intro (by omega) ?_;(conv=>whnf)))
          refine EvCall.rows (R := rI) (ty := 3) (xs := List.replicate sp d.lo) Try.call50 (fun ρ W hp => hrep _ _ _ ρ W d.lo rfl hp) (fun cl hc1 hc2 => ?_)
          rw [List.length_replicate] at hc1 ⊢
          ((conv=>whnf);repeat(refine And.intro (by omega) ?_;(conv=>whnf)))
          refine And.intro ?_ ?_
          · ((conv=>whnf);repeat(refine And.intro (by omega) ?_;(conv=>whnf)))
            refine EvCall.rows (R := rI) (ty := 3) (xs := List.replicate sp d.hi) Try.call50 (fun ρ W hp => hrep _ _ _ ρ W d.hi rfl hp) (fun ch hc3 hc4 => ?_)
            rw [List.length_replicate] at hc3 ⊢
            ((conv=>whnf);repeat(refine And.intro (by omega) ?_;(conv=>whnf)))
            refine Exists.intro (cl, ch) (And.intro ⟨⟨hc1, hc2⟩, hc3, hc4⟩ (Sub.of [(2, 6), (3, 4), (4, 5)] [] rfl ?_))
            ((repeat' (refine And.intro ?_ ?_)) <;> first | rfl | exact True.intro | omega)
          ((conv=>whnf);repeat(refine And.intro (by omega) ?_;(conv=>whnf)))
          refine EvCall.rows (R := rI) (ty := 3) (xs := List.replicate sp d.hi) Try.call50 (fun ρ W hp => hrep _ _ _ ρ W d.hi rfl hp) (fun ch hc3 hc4 => ?_)
          rw [List.length_replicate] at hc3 ⊢
          ((conv=>whnf);repeat(refine And.intro (by omega) ?_;(conv=>whnf)))
          refine Exists.intro (cl, ch) (And.intro ⟨⟨hc1, hc2⟩, hc3, hc4⟩ (Sub.of [(2, 5), (3, 4), (4, 6)] [] rfl ?_))
          ((repeat' (refine And.intro ?_ ?_)) <;> first | rfl | exact True.intro | omega)
        ((conv=>whnf);repeat(refine And.intro (by omega) ?_;(conv=>whnf)))
        refine EvCall.rows (R := rI) (ty := 3) (xs := List.replicate sp d.lo) Try.call50 (fun ρ W hp => hrep _ _ _ ρ W d.lo rfl hp) (fun cl hc1 hc2 => ?_)
        rw [List.length_replicate] at hc1 ⊢
        ((conv=>whnf);repeat(refine And.intro (by omega) ?_;(conv=>whnf)))
        refine EvCall.rows (R := rI) (ty := 3) (xs := List.replicate sp d.hi) Try.call50 (fun ρ W hp => hrep _ _ _ ρ W d.hi rfl hp) (fun ch hc3 hc4 => ?_)
        rw [List.length_replicate] at hc3 ⊢
        ((conv=>whnf);repeat(refine And.intro (by omega) ?_;(conv=>whnf)))
        refine Exists.intro (cl, ch) (And.intro ⟨⟨hc1, hc2⟩, hc3, hc4⟩ (Sub.of [(2, 4), (3, 5), (4, 6)] [] rfl ?_))
        ((repeat' (refine And.intro ?_ ?_)) <;> first | rfl | exact True.intro | omega)
      ((conv=>whnf);repeat(refine And.intro (by omega) ?_;(conv=>whnf)))
      refine And.intro ?_ ?_
      · ((conv=>whnf);repeat(refine And.intro (by omega) ?_;(conv=>whnf)))
        refine EvCall.rows (R := rI) (ty := 3) (xs := List.replicate sp d.lo) Try.call50 (fun ρ W hp => hrep _ _ _ ρ W d.lo rfl hp) (fun cl hc1 hc2 => ?_)
        rw [List.length_replicate] at hc1 ⊢
        ((conv=>whnf);repeat(refine And.intro (by omega) ?_;(conv=>whnf)))
        refine EvCall.rows (R := rI) (ty := 3) (xs := List.replicate sp d.hi) Try.call50 (fun ρ W hp => hrep _ _ _ ρ W d.hi rfl hp) (fun ch hc3 hc4 => ?_)
        rw [List.length_replicate] at hc3 ⊢
        ((conv=>whnf);repeat(refine And.intro (by omega) ?_;(conv=>whnf)))
        refine Exists.intro (cl, ch) (And.intro ⟨⟨hc1, hc2⟩, hc3, hc4⟩ (Sub.of [(2, 3), (3, 4), (4, 6)] [] rfl ?_))
        ((repeat' (refine And.intro ?_ ?_)) <;> first | rfl | exact True.intro | omega)
      ((conv=>whnf);repeat(refine And.intro (by omega) ?_;(conv=>whnf)))
      refine EvCall.rows (R := rI) (ty := 3) (xs := List.replicate sp d.lo) Try.call50 (fun ρ W hp => hrep _ _ _ ρ W d.lo rfl hp) (fun cl hc1 hc2 => ?_)
      rw [List.length_replicate] at hc1 ⊢
      ((conv=>whnf);repeat(refine And.intro (by omega) ?_;(conv=>whnf)))
      refine EvCall.rows (R := rI) (ty := 3) (xs := List.replicate sp d.hi) Try.call50 (fun ρ W hp => hrep _ _ _ ρ W d.hi rfl hp) (fun ch hc3 hc4 => ?_)
      rw [List.length_replicate] at hc3 ⊢
      ((conv=>whnf);repeat(refine And.intro (by omega) ?_;(conv=>whnf)))
      refine Exists.intro (cl, ch) (And.intro ⟨⟨hc1, hc2⟩, hc3, hc4⟩ (Sub.of [(2, 3), (3, 5), (4, 6)] [] rfl ?_))
      ((repeat' (refine And.intro ?_ ?_)) <;> first | rfl | exact True.intro | omega)
    ((conv=>whnf);repeat(refine And.intro (by omega) ?_;(conv=>whnf)))
    refine And.intro ?_ ?_
    · ((conv=>whnf);repeat(refine And.intro (by omega) ?_;(conv=>whnf)))
      refine And.intro ?_ ?_
      · ((conv=>whnf);repeat(refine And.intro (by omega) ?_;(conv=>whnf)))
        refine And.intro ?_ ?_
        · ((conv=>whnf);repeat(refine And.intro (by omega) ?_;(conv=>whnf)))
          refine EvCall.rows (R := rI) (ty := 3) (xs := List.replicate sp d.lo) Try.call50 (fun ρ W hp => hrep _ _ _ ρ W d.lo rfl hp) (fun cl hc1 hc2 => ?_)
          rw [List.length_replicate] at hc1 ⊢
          ((conv=>whnf);repeat(refine And.intro (by omega) ?_;(conv=>whnf)))
          refine And.intro ?_ ?_
          · ((conv=>whnf);repeat(refine And.intro (by omega) ?_;(conv=>whnf)))
            refine EvCall.rows (R := rI) (ty := 3) (xs := List.replicate sp d.hi) Try.call50 (fun ρ W hp => hrep _ _ _ ρ W d.hi rfl hp) (fun ch hc3 hc4 => ?_)
            rw [List.length_replicate] at hc3 ⊢
            ((conv=>whnf);repeat(refine And.intro (by omega) ?_;(conv=>whnf)))
            refine Exists.intro (cl, ch) (And.intro ⟨⟨hc1, hc2⟩, hc3, hc4⟩ (Sub.of [(2, 6), (3, 4), (4, 5)] [] rfl ?_))
            ((repeat' (refine And.intro ?_ ?_)) <;> first | rfl | exact True.intro | omega)
          ((conv=>whnf);repeat(refine And.intro (by omega) ?_;(conv=>whnf)))
          refine EvCall.rows (R := rI) (ty := 3) (xs := List.replicate sp d.hi) Try.call50 (fun ρ W hp => hrep _ _ _ ρ W d.hi rfl hp) (fun ch hc3 hc4 => ?_)
          rw [List.length_replicate] at hc3 ⊢
          ((conv=>whnf);repeat(refine And.intro (by omega) ?_;(conv=>whnf)))
          refine Exists.intro (cl, ch) (And.intro ⟨⟨hc1, hc2⟩, hc3, hc4⟩ (Sub.of [(2, 5), (3, 4), (4, 6)] [] rfl ?_))
          ((repeat' (refine And.intro ?_ ?_)) <;> first | rfl | exact True.intro | omega)
        ((conv=>whnf);repeat(refine And.intro (by omega) ?_;(conv=>whnf)))
        refine EvCall.rows (R := rI) (ty := 3) (xs := List.replicate sp d.lo) Try.call50 (fun ρ W hp => hrep _ _ _ ρ W d.lo rfl hp) (fun cl hc1 hc2 => ?_)
        rw [List.length_replicate] at hc1 ⊢
        ((conv=>whnf);repeat(refine And.intro (by omega) ?_;(conv=>whnf)))
        refine EvCall.rows (R := rI) (ty := 3) (xs := List.replicate sp d.hi) Try.call50 (fun ρ W hp => hrep _ _ _ ρ W d.hi rfl hp) (fun ch hc3 hc4 => ?_)
        rw [List.length_replicate] at hc3 ⊢
        ((conv=>whnf);repeat(refine And.intro (by omega) ?_;(conv=>whnf)))
        refine Exists.intro (cl, ch) (And.intro ⟨⟨hc1, hc2⟩, hc3, hc4⟩ (Sub.of [(2, 4), (3, 5), (4, 6)] [] rfl ?_))
        ((repeat' (refine And.intro ?_ ?_)) <;> first | rfl | exact True.intro | omega)
      ((conv=>whnf);repeat(refine And.intro (by omega) ?_;(conv=>whnf)))
      refine EvCall.rows (R := rI) (ty := 3) (xs := List.replicate sp d.lo) Try.call50 (fun ρ W hp => hrep _ _ _ ρ W d.lo rfl hp) (fun cl hc1 hc2 => ?_)
      rw [List.length_replicate] at hc1 ⊢
      ((conv=>whnf);repeat(refine And.intro (by omega) ?_;(conv=>whnf)))
      refine EvCall.rows (R := rI) (ty := 3) (xs := List.replicate sp d.hi) Try.call50 (fun ρ W hp => hrep _ _ _ ρ W d.hi rfl hp) (fun ch hc3 hc4 => ?_)
      rw [List.length_replicate] at hc3 ⊢
      ((conv=>whnf);repeat(refine And.intro (by omega) ?_;(conv=>whnf)))
      refine Exists.intro (cl, ch) (And.intro ⟨⟨hc1, hc2⟩, hc3, hc4⟩ (Sub.of [(2, 3), (3, 5), (4, 6)] [] rfl ?_))
      ((repeat' (refine And.intro ?_ ?_)) <;> first | rfl | exact True.intro | omega)
    ((conv=>whnf);repeat(refine And.intro (by omega) ?_;(conv=>whnf)))
    refine And.intro ?_ ?_
    · ((conv=>whnf);repeat(refine And.intro (by omega) ?_;(conv=>whnf)))
      refine And.intro ?_ ?_
      · ((conv=>whnf);repeat(refine And.intro (by omega) ?_;(conv=>whnf)))
        refine EvCall.rows (R := rI) (ty := 3) (xs := List.replicate sp d.lo) Try.call50 (fun ρ W hp => hrep _ _ _ ρ W d.lo rfl hp) (fun cl hc1 hc2 => ?_)
        rw [List.length_replicate] at hc1 ⊢
        ((conv=>whnf);repeat(refine And.intro (by omega) ?_;(conv=>whnf)))
        refine EvCall.rows (R := rI) (ty := 3) (xs := List.replicate sp d.hi) Try.call50 (fun ρ W hp => hrep _ _ _ ρ W d.hi rfl hp) (fun ch hc3 hc4 => ?_)
        rw [List.length_replicate] at hc3 ⊢
        ((conv=>whnf);repeat(refine And.intro (by omega) ?_;(conv=>whnf)))
        refine Exists.intro (cl, ch) (And.intro ⟨⟨hc1, hc2⟩, hc3, hc4⟩ (Sub.of [(2, 2), (3, 4), (4, 6)] [] rfl ?_))
        ((repeat' (refine And.intro ?_ ?_)) <;> first | rfl | exact True.intro | omega)
      ((conv=>whnf);repeat(refine And.intro (by omega) ?_;(conv=>whnf)))
      refine EvCall.rows (R := rI) (ty := 3) (xs := List.replicate sp d.lo) Try.call50 (fun ρ W hp => hrep _ _ _ ρ W d.lo rfl hp) (fun cl hc1 hc2 => ?_)
      rw [List.length_replicate] at hc1 ⊢
      ((conv=>whnf);repeat(refine And.intro (by omega) ?_;(conv=>whnf)))
      refine EvCall.rows (R := rI) (ty := 3) (xs := List.replicate sp d.hi) Try.call50 (fun ρ W hp => hrep _ _ _ ρ W d.hi rfl hp) (fun ch hc3 hc4 => ?_)
      rw [List.length_replicate] at hc3 ⊢
      ((conv=>whnf);repeat(refine And.intro (by omega) ?_;(conv=>whnf)))
      refine Exists.intro (cl, ch) (And.intro ⟨⟨hc1, hc2⟩, hc3, hc4⟩ (Sub.of [(2, 2), (3, 5), (4, 6)] [] rfl ?_))
      ((repeat' (refine And.intro ?_ ?_)) <;> first | rfl | exact True.intro | omega)
    ((conv=>whnf);repeat(refine And.intro (by omega) ?_;(conv=>whnf)))
    refine EvCall.rows (R := rI) (ty := 3) (xs := List.replicate sp d.lo) Try.call50 (fun ρ W hp => hrep _ _ _ ρ W d.lo rfl hp) (fun cl hc1 hc2 => ?_)
    rw [List.length_replicate] at hc1 ⊢
    ((conv=>whnf);repeat(refine And.intro (by omega) ?_;(conv=>whnf)))
    refine EvCall.rows (R := rI) (ty := 3) (xs := List.replicate sp d.hi) Try.call50 (fun ρ W hp => hrep _ _ _ ρ W d.hi rfl hp) (fun ch hc3 hc4 => ?_)
    rw [List.length_replicate] at hc3 ⊢
    ((conv=>whnf);repeat(refine And.intro (by omega) ?_;(conv=>whnf)))
    refine Exists.intro (cl, ch) (And.intro ⟨⟨hc1, hc2⟩, hc3, hc4⟩ (Sub.of [(2, 2), (3, 5), (4, 6)] [] rfl ?_))
    ((repeat' (refine And.intro ?_ ?_)) <;> first | rfl | exact True.intro | omega)
  · rintro ⟨p1, p2⟩ ⟨⟨q1, q2⟩, q3, q4⟩
    ((conv=>whnf);repeat(refine And.intro (by omega) ?_;(conv=>whnf)))
    have hcl0 : ∀ k, k < l.length → validB d (l.getD k cl0) = true := fun k hk => hi2 k hk
    refine EvLoop.inv (α := Nat) (fun k => k ≤ l.length) (fun k => l.length - k) (fun k => [(53, [], .v (.int .i64 (k : Int))), (52, [], .v (.int .i64 (l.length : Int))), (51, [], .s 0 4 l.length c1), (10, [], .p 2 0), (9, [], .v (.int .i64 (sp : Int))), (5, [], .v (.int .i64 0)), (4, [], .v (.slice none 0 0)), (2, [], .p 1 0)])
      (fun k => [⟨2, true, 103, 2, 1, .cs [.s 3 1 sp p1, .s 4 1 sp p2]⟩, ⟨3, true, 3, 1, p1, .rows Int rI (mixL (loS d l (k + 1)) (loS d l k) sp 0)⟩, ⟨4, true, 3, 1, p2, .rows Int rI (mixL (hiS d l (k + 1)) (hiS d l k) sp 0)⟩, ⟨1, true, 27, 12, 1, .cs (dcS nm (.v (.slice A lb.length c)) d)⟩, ⟨0, false, 62, 4, c1, .rows Cl rC l⟩]) 7 0 (by omega) (Sub.of [] [] rfl ?_) ?_
    · rw [mixL_rep (loS d l (0 + 1)) (loS d l 0) sp d.lo (fun i hi => by simp [loS, lowB]), mixL_rep (hiS d l (0 + 1)) (hiS d l 0) sp d.hi (fun i hi => by simp [hiS, highB])]
      ((repeat' (refine And.intro ?_ ?_)) <;> first | rfl | exact True.intro | omega)
    intro k hk
    ((conv=>whnf);repeat(refine And.intro (by omega) ?_;(conv=>whnf)))
    refine EvIf.split (fun h5 => ?_) (fun h5 => ?_)
    · simp only [decide_eq_true_eq] at h5
      have hvk := (valid_iff _ _).1 (hcl0 k (by omega))
      have hvk' : d.first ≤ (l.getD (Int.toNat (k : Int)) rC.d).f ∧ (l.getD (Int.toNat (k : Int)) rC.d).f ≤ (l.getD (Int.toNat (k : Int)) rC.d).t ∧ (l.getD (Int.toNat (k : Int)) rC.d).t ≤ d.last := ⟨hvk.1, hvk.2.1, hvk.2.2.1⟩
      obtain ⟨a, ha⟩ : ∃ a : Nat, (l.getD k cl0).f - d.first = (a : Int) := ⟨((l.getD k cl0).f - d.first).toNat, by omega⟩
      obtain ⟨b, hb⟩ : ∃ b : Nat, (l.getD k cl0).t - d.first = (b : Int) := ⟨((l.getD k cl0).t - d.first).toNat, by omega⟩
      ((conv=>whnf);(repeat(refine And.intro ?_ ?_;(focus((first|omega|exact⟨rfl,True.intro⟩|exact⟨rfl,rfl,True.intro⟩|rfl|(simp only[List.length_set];first|omega|(refine⟨?_,?_⟩<;>omega)|(refine⟨?_,?_,?_⟩<;>omega))|(intro hg;(try simp only[bB]at hg);first|omega|(refine⟨?_,?_⟩<;>omega)|(refine⟨?_,?_,?_⟩<;>first|omega|(show _<_;(try simp only[List.length_set]);omega)|exact leT rfl))|(refine⟨?_,?_⟩<;>omega)|(refine⟨?_,?_,?_⟩<;>first|omega|(show _<_;(try simp only[List.length_set]);omega)|exact leT rfl)|(simp only[show rI.d=(0:Int)from rfl];omega));done));(conv=>whnf))))
      refine EvLoop.inv (α := Nat) (fun j => a ≤ j ∧ j ≤ b + 1) (fun j => b + 1 - j) (fun j => [(13, [], .v (.int .i64 (j : Int))), (12, [], .p 7 0), (53, [], .v (.int .i64 (k : Int))), (52, [], .v (.int .i64 (l.length : Int))), (51, [], .s 0 4 l.length c1), (10, [], .p 2 0), (9, [], .v (.int .i64 (sp : Int))), (5, [], .v (.int .i64 0)), (4, [], .v (.slice none 0 0)), (2, [], .p 1 0)])
        (fun j => [⟨7, true, 62, 4, 1, .cs (clS (l.getD k cl0))⟩, ⟨2, true, 103, 2, 1, .cs [.s 3 1 sp p1, .s 4 1 sp p2]⟩, ⟨3, true, 3, 1, p1, .rows Int rI (mixL (loS d l (k + 1)) (loS d l k) sp j)⟩, ⟨4, true, 3, 1, p2, .rows Int rI (mixL (hiS d l (k + 1)) (hiS d l k) sp j)⟩, ⟨1, true, 27, 12, 1, .cs (dcS nm (.v (.slice A lb.length c)) d)⟩, ⟨0, false, 62, 4, c1, .rows Cl rC l⟩]) 8 a ⟨by omega, by omega⟩ (Sub.of [] [] rfl ?_) ?_
      · have g1 : mixL (loS d l (k + 1)) (loS d l k) sp 0 = mixL (loS d l (k + 1)) (loS d l k) sp a := mixL_congr _ _ _ _ _ _ _ fun i hi => by
          rw [if_neg (by omega), loS_succ d l k i (by omega)]
          split
          · rw [if_neg (by omega)]
          · rfl
        have g2 : mixL (hiS d l (k + 1)) (hiS d l k) sp 0 = mixL (hiS d l (k + 1)) (hiS d l k) sp a := mixL_congr _ _ _ _ _ _ _ fun i hi => by
          rw [if_neg (by omega), hiS_succ d l k i (by omega)]
          split
          · rw [if_neg (by omega)]
          · rfl
        rw [g1, g2]
        (repeat' (refine And.intro ?_ ?_)) <;> first | exact ha.symm | exact ha | rfl | trivial | omega
      intro j ⟨hj1, hj2⟩
      have hll := mixL_len (loS d l (k + 1)) (loS d l k) sp j
      have hlh := mixL_len (hiS d l (k + 1)) (hiS d l k) sp j
      ((conv=>whnf);repeat(refine And.intro (by omega) ?_;(conv=>whnf)))
      refine EvIf.split (fun h6 => ?_) (fun h6 => ?_)
      · simp only [decide_eq_true_eq] at h6
        have hjb : j ≤ b := by omega
        ((conv=>whnf);repeat(refine And.intro (by omega) ?_;(conv=>whnf)))
        (refine EvDraw.one (.q 0 (.q 1 (.q 2 (.q 3 (.q 4 (.q 5 (.q 6 (.q 7 (.q 8 (.q 9 (.q 10 (.q 11 (.n 12 true (.z) (.e)))))))))))))) (by kernel_rfl) ?_)
        ((conv=>whnf);(repeat(refine And.intro ?_ ?_;(focus((first|omega|exact⟨rfl,True.intro⟩|exact⟨rfl,rfl,True.intro⟩|rfl|(simp only[List.length_set];first|omega|(refine⟨?_,?_⟩<;>omega)|(refine⟨?_,?_,?_⟩<;>omega))|(intro hg;(try simp only[bB]at hg);first|omega|(refine⟨?_,?_⟩<;>omega)|(refine⟨?_,?_,?_⟩<;>first|omega|(show _<_;(try simp only[List.length_set]);omega)|exact leT rfl))|(refine⟨?_,?_⟩<;>omega)|(refine⟨?_,?_,?_⟩<;>first|omega|(show _<_;(try simp only[List.length_set]);omega)|exact leT rfl)|(simp only[show rI.d=(0:Int)from rfl];omega));done));(conv=>whnf))))
        (refine EvDraw.one (.q 0 (.q 1 (.q 2 (.q 3 (.q 4 (.q 5 (.q 6 (.q 7 (.q 8 (.q 9 (.q 10 (.q 11 (.n 12 true (.z) (.e)))))))))))))) (by kernel_rfl) ?_)
        ((conv=>whnf);(repeat(refine And.intro ?_ ?_;(focus((first|omega|exact⟨rfl,True.intro⟩|exact⟨rfl,rfl,True.intro⟩|rfl|(simp only[List.length_set];first|omega|(refine⟨?_,?_⟩<;>omega)|(refine⟨?_,?_,?_⟩<;>omega))|(intro hg;(try simp only[bB]at hg);first|omega|(refine⟨?_,?_⟩<;>omega)|(refine⟨?_,?_,?_⟩<;>first|omega|(show _<_;(try simp only[List.length_set]);omega)|exact leT rfl))|(refine⟨?_,?_⟩<;>omega)|(refine⟨?_,?_,?_⟩<;>first|omega|(show _<_;(try simp only[List.length_set]);omega)|exact leT rfl)|(simp only[show rI.d=(0:Int)from rfl];omega));done));(conv=>whnf))))
        have hc : (l.getD k cl0).f ≤ d.first + (j : Int) ∧ d.first + (j : Int) ≤ (l.getD k cl0).t := by omega
        have g1 : (mixL (loS d l (k + 1)) (loS d l k) sp j).set j (max ((mixL (loS d l (k + 1)) (loS d l k) sp j).getD j 0) (l.getD k cl0).lo) = mixL (loS d l (k + 1)) (loS d l k) sp (j + 1) := by
          rw [mixL_get _ _ _ _ _ _ (by omega), if_neg (by omega), ← mixL_set _ _ _ _ (by omega), loS_succ d l k j (by omega), if_pos hc]
        have g2 : (mixL (hiS d l (k + 1)) (hiS d l k) sp j).set j (min ((mixL (hiS d l (k + 1)) (hiS d l k) sp j).getD j 0) (l.getD k cl0).hi) = mixL (hiS d l (k + 1)) (hiS d l k) sp (j + 1) := by
          rw [mixL_get _ _ _ _ _ _ (by omega), if_neg (by omega), ← mixL_set _ _ _ _ (by omega), hiS_succ d l k j (by omega), if_pos hc]
        refine LoopI.back (j + 1) ⟨by omega, by omega⟩ (by omega) (Sub.of [] [] rfl ?_)
        (repeat' (refine And.intro ?_ ?_)) <;> first | exact congrArg (Ct.rows Int rI) g1 | exact congrArg (Ct.rows Int rI) g2 | exact congrArg (Ct.rows Int rI) g1.symm | exact congrArg (Ct.rows Int rI) g2.symm | rfl | trivial | omega
      · simp only [decide_eq_false_iff_not] at h6
        obtain rfl : j = b + 1 := by omega
        ((conv=>whnf);repeat(refine And.intro (by omega) ?_;(conv=>whnf)))
        have g1 : mixL (loS d l (k + 1)) (loS d l k) sp (b + 1) = mixL (loS d l (k + 1 + 1)) (loS d l (k + 1)) sp 0 := mixL_congr _ _ _ _ _ _ _ fun i hi => by
          rw [if_neg (by omega : ¬ i < 0), loS_succ d l k i (by omega)]
          split
          · rfl
          · rw [if_neg (by omega)]
        have g2 : mixL (hiS d l (k + 1)) (hiS d l k) sp (b + 1) = mixL (hiS d l (k + 1 + 1)) (hiS d l (k + 1)) sp 0 := mixL_congr _ _ _ _ _ _ _ fun i hi => by
          rw [if_neg (by omega : ¬ i < 0), hiS_succ d l k i (by omega)]
          split
          · rfl
          · rw [if_neg (by omega)]
        refine LoopI.back (k + 1) (by omega) (by omega) (Sub.of [] [] rfl ?_)
        (repeat' (refine And.intro ?_ ?_)) <;> first | exact congrArg (Ct.rows Int rI) g1 | exact congrArg (Ct.rows Int rI) g2 | exact congrArg (Ct.rows Int rI) g1.symm | exact congrArg (Ct.rows Int rI) g2.symm | rfl | trivial | omega
    · simp only [decide_eq_false_iff_not] at h5
      obtain rfl : k = l.length := by omega
      ((conv=>whnf);repeat(refine And.intro (by omega) ?_;(conv=>whnf)))
      refine EvLoop.inv (α := Nat × List Cl × Nat) (fun p => p.1 ≤ sp ∧ runsR d l p.1 = some p.2.1 ∧ p.2.1.length ≤ p.2.2 ∧ p.2.2 ≤ 9223372036854775807) (fun p => sp - p.1) (fun p => [(97, [], .v (.int .i64 (p.1 : Int))), (96, [], .v (.int .i64 (sp : Int))), (14, [], .s 7 4 p.2.1.length p.2.2), (10, [], .p 2 0), (5, [], .v (.int .i64 0)), (4, [], .v (.slice none 0 0)), (2, [], .p 1 0)])
        (fun p => [⟨7, true, 62, 4, p.2.2, .rows Cl rC p.2.1⟩, ⟨2, true, 103, 2, 1, .cs [.s 3 1 sp p1, .s 4 1 sp p2]⟩, ⟨3, true, 3, 1, p1, .rows Int rI (mixL (loS d l (l.length + 1)) (loS d l l.length) sp 0)⟩, ⟨4, true, 3, 1, p2, .rows Int rI (mixL (hiS d l (l.length + 1)) (hiS d l l.length) sp 0)⟩, ⟨1, true, 27, 12, 1, .cs (dcS nm (.v (.slice A lb.length c)) d)⟩]) 8 (0, [], 0) ⟨by simp, rfl, by simp, by decide⟩ (Sub.of [] [7] rfl ?_) ?_
      · ((repeat' (refine And.intro ?_ ?_)) <;> first | rfl | exact True.intro | omega)
      intro p ⟨hi1, hi3, hi4, hi5⟩
      have hll := mixL_len (loS d l (l.length + 1)) (loS d l l.length) sp 0
      have hlh := mixL_len (hiS d l (l.length + 1)) (hiS d l l.length) sp 0
      ((conv=>whnf);repeat(refine And.intro (by omega) ?_;(conv=>whnf)))
      refine EvIf.split (fun h6 => ?_) (fun h6 => ?_)
      · simp only [decide_eq_true_eq] at h6
        have hlo : (mixL (loS d l (l.length + 1)) (loS d l l.length) sp 0).getD (Int.toNat (p.1 : Int)) rI.d = lowB d l (d.first + p.1) := by
          show (mixL (loS d l (l.length + 1)) (loS d l l.length) sp 0).getD p.1 0 = _
          rw [mixL_get _ _ _ _ _ _ (by omega), if_neg (by omega)]
          simp [loS]
        have hhi : (mixL (hiS d l (l.length + 1)) (hiS d l l.length) sp 0).getD (Int.toNat (p.1 : Int)) rI.d = highB d l (d.first + p.1) := by
          show (mixL (hiS d l (l.length + 1)) (hiS d l l.length) sp 0).getD p.1 0 = _
          rw [mixL_get _ _ _ _ _ _ (by omega), if_neg (by omega)]
          simp [hiS]
        ((conv=>whnf);repeat(refine And.intro (by omega) ?_;(conv=>whnf)))
        (refine EvDraw.one (.q 0 (.q 1 (.q 2 (.q 3 (.q 4 (.q 5 (.q 6 (.q 7 (.q 8 (.q 9 (.q 10 (.q 11 (.z))))))))))))) (by kernel_rfl) ?_)
        ((conv=>whnf);(repeat(refine And.intro ?_ ?_;(focus((first|omega|exact⟨rfl,True.intro⟩|exact⟨rfl,rfl,True.intro⟩|rfl|(simp only[List.length_set];first|omega|(refine⟨?_,?_⟩<;>omega)|(refine⟨?_,?_,?_⟩<;>omega))|(intro hg;(try simp only[bB]at hg);first|omega|(refine⟨?_,?_⟩<;>omega)|(refine⟨?_,?_,?_⟩<;>first|omega|(show _<_;(try simp only[List.length_set]);omega)|exact leT rfl))|(refine⟨?_,?_⟩<;>omega)|(refine⟨?_,?_,?_⟩<;>first|omega|(show _<_;(try simp only[List.length_set]);omega)|exact leT rfl)|(simp only[show rI.d=(0:Int)from rfl];omega));done));(conv=>whnf))))
        rw [hlo, hhi]
        refine EvIf.split (fun h7 => ?_) (fun h7 => ?_)
        · simp only [decide_eq_true_eq] at h7
          ((conv=>whnf);repeat(refine And.intro (by omega) ?_;(conv=>whnf)))
          have hn : ∀ n, p.1 + 1 ≤ n → runsR d l n = none := by
            intro n
            induction n with
            | zero => intro h; omega
            | succ n ih =>
              intro h
              by_cases hpn : p.1 = n
              · rw [← hpn]; simp only [runsR, hi3]; rw [Option.bind_some, if_pos h7]
              · simp only [runsR, ih (by omega)]; rfl
          have hb : bandsR d l = ([], 13) := by
            simp only [bandsR]
            rw [if_neg (by simpa using h1), if_neg (by omega), if_neg (by simpa using hall), hsp, Int.toNat_natCast, hn sp (by omega)]
          rw [hb]
          exact EvRet.rowsE_nil rfl rfl
        simp only [decide_eq_false_iff_not] at h7
        have hrl := runs_len d l p.1 p.2.1 hi3
        have hbd2 : d.first + p.1 ≤ 1048576 := by omega
        have hrs : runsR d l (p.1 + 1) = some (addR p.2.1 (d.first + p.1) (lowB d l (d.first + p.1)) (highB d l (d.first + p.1))) := by
          simp only [runsR, hi3]; rw [Option.bind_some, if_neg h7]
        have hxx : (p.2.1.getD (Int.toNat ((p.2.1.length : Int) - 1)) rC.d) = lastC p.2.1 := by
          show _ = p.2.1.getD (p.2.1.length - 1) cl0
          congr 1
          omega
        ((conv=>whnf);(repeat(refine And.intro ?_ ?_;(focus((first|omega|exact⟨rfl,True.intro⟩|exact⟨rfl,rfl,True.intro⟩|rfl|(simp only[List.length_set];first|omega|(refine⟨?_,?_⟩<;>omega)|(refine⟨?_,?_,?_⟩<;>omega))|(intro hg;(try simp only[bB]at hg);first|omega|(refine⟨?_,?_⟩<;>omega)|(refine⟨?_,?_,?_⟩<;>first|omega|(show _<_;(try simp only[List.length_set]);omega)|exact leT rfl))|(refine⟨?_,?_⟩<;>omega)|(refine⟨?_,?_,?_⟩<;>first|omega|(show _<_;(try simp only[List.length_set]);omega)|exact leT rfl)|(simp only[show rI.d=(0:Int)from rfl];omega));done));(conv=>whnf))))
        rw [hxx]
        refine EvIf.split (fun h8 => ?_) (fun h8 => ?_)
        · simp only [Bool.and_eq_true, decide_eq_true_eq] at h8
          have hlt := (hrl.2 (by omega)).2
          have hlt' : (p.2.1.getD (Int.toNat ((p.2.1.length : Int) - 1)) rC.d).t = d.first + p.1 - 1 := by rw [hxx]; exact hlt
          have hA : addR p.2.1 (d.first + p.1) (lowB d l (d.first + p.1)) (highB d l (d.first + p.1)) = p.2.1.set (Int.toNat ((p.2.1.length : Int) - 1)) ⟨(p.2.1.getD (Int.toNat ((p.2.1.length : Int) - 1)) rC.d).f, (p.2.1.getD (Int.toNat ((p.2.1.length : Int) - 1)) rC.d).t + 1, (p.2.1.getD (Int.toNat ((p.2.1.length : Int) - 1)) rC.d).lo, (p.2.1.getD (Int.toNat ((p.2.1.length : Int) - 1)) rC.d).hi⟩ := by
            rw [hxx, addR, if_pos ⟨by omega, h8.1.2, h8.2⟩, hlt, show Int.toNat ((p.2.1.length : Int) - 1) = p.2.1.length - 1 by omega, show d.first + (p.1 : Int) - 1 + 1 = d.first + p.1 by omega]
          rw [hA] at hrs
          ((conv=>whnf);(repeat(refine And.intro ?_ ?_;(focus((first|omega|exact⟨rfl,True.intro⟩|exact⟨rfl,rfl,True.intro⟩|rfl|(simp only[List.length_set];first|omega|(refine⟨?_,?_⟩<;>omega)|(refine⟨?_,?_,?_⟩<;>omega))|(intro hg;(try simp only[bB]at hg);first|omega|(refine⟨?_,?_⟩<;>omega)|(refine⟨?_,?_,?_⟩<;>first|omega|(show _<_;(try simp only[List.length_set]);omega)|exact leT rfl))|(refine⟨?_,?_⟩<;>omega)|(refine⟨?_,?_,?_⟩<;>first|omega|(show _<_;(try simp only[List.length_set]);omega)|exact leT rfl)|(simp only[show rI.d=(0:Int)from rfl];omega));done));(conv=>whnf))))
          refine LoopI.back (p.1 + 1, _, p.2.2) ⟨by show p.1 + 1 ≤ sp; omega, hrs, by simpa using hi4, hi5⟩ (by show sp - (p.1 + 1) < sp - p.1; omega) (Sub.of [] [] rfl ?_)
          (repeat' (refine And.intro ?_ ?_)) <;> first | rfl | trivial | exact List.length_set .. | exact (List.length_set ..).symm | omega
        · simp only [Bool.and_eq_false_iff, decide_eq_false_iff_not] at h8
          have hA : addR p.2.1 (d.first + p.1) (lowB d l (d.first + p.1)) (highB d l (d.first + p.1)) = p.2.1 ++ [⟨d.first + p.1, d.first + p.1, lowB d l (d.first + p.1), highB d l (d.first + p.1)⟩] := by
            rw [addR, if_neg]
            rintro ⟨q1, q2, q3⟩
            rcases h8 with (h8 | h8) | h8
            · omega
            · exact h8 q2
            · exact h8 q3
          rw [hA] at hrs
          ((conv=>whnf);repeat(refine And.intro (by omega) ?_;(conv=>whnf)))
          refine EvBi.append (R := rC) tyok29 rfl tyok62 rfl (by decide) rfl rfl rfl hi4 [⟨d.first + p.1, d.first + p.1, lowB d l (d.first + p.1), highB d l (d.first + p.1)⟩] (fun ρ W hp => hp.lit (R := rC) (ys := [⟨d.first + p.1, d.first + p.1, lowB d l (d.first + p.1), highB d l (d.first + p.1)⟩]) rfl (by decide) (by simp) (by omega) rfl) (by show (_ + 1) * 32 ≤ _; omega) (by show _ + 1 ≤ _; omega) (fun cap' hq1 hq2 => ?_)
          ((conv=>whnf);repeat(refine And.intro (by omega) ?_;(conv=>whnf)))
          refine LoopI.back (p.1 + 1, _, cap') ⟨by show p.1 + 1 ≤ sp; omega, hrs, by simpa using hq1, hq2⟩ (by show sp - (p.1 + 1) < sp - p.1; omega) (Sub.of [(7, 9)] [] rfl ?_)
          (repeat' (refine And.intro ?_ ?_)) <;> first | rfl | trivial | exact List.length_append .. | exact (List.length_append ..).symm | omega
      · simp only [decide_eq_false_iff_not] at h6
        obtain ⟨i, out, cp⟩ := p
        obtain rfl : i = sp := by simp only at h6 hi1; omega
        ((conv=>whnf);repeat(refine And.intro (by omega) ?_;(conv=>whnf)))
        have hb : bandsR d l = (out, 0) := by
          simp only [bandsR]
          rw [if_neg (by simpa using h1), if_neg (by omega), if_neg (by simpa using hall), hsp, Int.toNat_natCast]
          simp only [hi3]
        rw [hb]
        exact EvRet.rowsE rfl hi4 rfl rfl rfl
end Go.Proofs.Ytpnngbfmmjjnaaa
namespace Go.Proofs.Ytpnngbfmmjjnaaa
open Go.RowKit
set_option linter.unusedVariables false
set_option linter.unusedSimpArgs false

theorem cl_ext {x y : Cl} (h1 : x.f = y.f) (h2 : x.t = y.t) (h3 : x.lo = y.lo) (h4 : x.hi = y.hi) : x = y := by
  cases x
  cases y
  simp_all
theorem eq_of_getD {a b : List Cl} (hl : a.length = b.length) (h : ∀ j, j < a.length → a.getD j cl0 = b.getD j cl0) : a = b := by
  apply List.ext_getElem hl
  intro i h1 h2
  have := h i h1
  simpa [List.getD_eq_getElem?_getD, List.getElem?_eq_getElem h1, List.getElem?_eq_getElem h2] using this
set_option maxRecDepth 10000 in
theorem same_s (v1 v2 : Value) (a b : List Cl) (w : World) (h1 : RowsIn rC w v1 a) (h2 : RowsIn rC w v2 b) : Con Try.prog 35 #[v1, v2] w (Ret w (.bool (decide (a = b)))) := by
  obtain ⟨A1, c1, rfl, e1, e2⟩ := h1.form
  obtain ⟨A2, c2, rfl, e3, e4⟩ := h2.form
  refine enter tabOk mixed Try.func35 rfl Try.ntmps35 Try.results35 [.s 0 4 a.length c1, .s 1 4 b.length c2] (fun n => if n = 0 then A1 else A2) [⟨1, false, 62, 4, c2, .rows Cl rC b⟩, ⟨0, false, 62, 4, c1, .rows Cl rC a⟩] 2 rfl rfl (.ro (.ro (hp0 _ _ _) _ rfl rfl rfl (ro_rows h1 rfl _)) _ rfl rfl rfl (ro_rows h2 rfl _)) ?_
  ((conv=>whnf);repeat(refine And.intro (by omega) ?_;(conv=>whnf)))
  refine EvIf.split (fun g1 => ?_) (fun g1 => ?_)
  · simp only [Bool.not_eq_true', decide_eq_false_iff_not] at g1
    ((conv=>whnf);repeat(refine And.intro (by omega) ?_;(conv=>whnf)))
    refine EvRet.ret (fun ρ => ?_)
    have : ¬ a = b := fun h => g1 (by rw [h])
    simp [den, this]
  simp only [Bool.not_eq_false', decide_eq_true_eq] at g1
  ((conv=>whnf);repeat(refine And.intro (by omega) ?_;(conv=>whnf)))
  refine EvLoop.inv (α := Nat) (fun i => i ≤ a.length ∧ ∀ j, j < i → a.getD j cl0 = b.getD j cl0) (fun i => a.length - i) (fun i => [(5, [], .v (.int .i64 (i : Int))), (0, [], .s 0 4 a.length c1), (1, [], .s 1 4 b.length c2)])
    (fun i => [⟨1, false, 62, 4, c2, .rows Cl rC b⟩, ⟨0, false, 62, 4, c1, .rows Cl rC a⟩]) 2 0 ⟨by omega, fun j hj => by omega⟩ (Sub.of [] [] rfl ?_) ?_
  · ((repeat' (refine And.intro ?_ ?_)) <;> first | rfl | exact True.intro | omega)
  intro i ⟨hi, hi2⟩
  ((conv=>whnf);repeat(refine And.intro (by omega) ?_;(conv=>whnf)))
  refine EvIf.split (fun g2 => ?_) (fun g2 => ?_)
  · simp only [decide_eq_true_eq] at g2
    ((conv=>whnf);repeat(refine And.intro (by omega) ?_;(conv=>whnf)))
    (refine EvDraw.one (.q 0 (.q 1 (.q 2 (.q 3 (.q 4 (.q 5 (.q 6 (.q 7 (.q 8 (.z)))))))))) (by kernel_rfl) ?_)
    ((conv=>whnf);(repeat(refine And.intro ?_ ?_;(focus((first|omega|exact⟨rfl,True.intro⟩|exact⟨rfl,rfl,True.intro⟩|rfl|(simp only[List.length_set];first|omega|(refine⟨?_,?_⟩<;>omega)|(refine⟨?_,?_,?_⟩<;>omega))|(intro hg;(try simp only[bB]at hg);first|omega|(refine⟨?_,?_⟩<;>omega)|(refine⟨?_,?_,?_⟩<;>first|omega|(show _<_;(try simp only[List.length_set]);omega)|exact leT rfl))|(refine⟨?_,?_⟩<;>omega)|(refine⟨?_,?_,?_⟩<;>first|omega|(show _<_;(try simp only[List.length_set]);omega)|exact leT rfl)|(simp only[show rI.d=(0:Int)from rfl];omega));done));(conv=>whnf))))
    refine EvIf.split (fun g3 => ?_) (fun g3 => ?_)
    · ((conv=>whnf);repeat(refine And.intro (by omega) ?_;(conv=>whnf)))
      refine EvRet.ret (fun ρ => ?_)
      have : ¬ a = b := fun h => by subst h; simp at g3
      simp [den, this]
    · simp only [Bool.not_eq_false', Bool.and_eq_true, decide_eq_true_eq] at g3
      ((conv=>whnf);repeat(refine And.intro (by omega) ?_;(conv=>whnf)))
      refine LoopI.back (i + 1) ⟨by omega, fun j hj => ?_⟩ (by omega) (Sub.of [] [] rfl ?_)
      · by_cases hji : j = i
        · subst hji
          exact cl_ext g3.1 g3.2.1 g3.2.2.1 g3.2.2.2.1
        · exact hi2 j (by omega)
      · ((repeat' (refine And.intro ?_ ?_)) <;> first | rfl | exact True.intro | omega)
  · simp only [decide_eq_false_iff_not] at g2
    obtain rfl : i = a.length := by omega
    ((conv=>whnf);repeat(refine And.intro (by omega) ?_;(conv=>whnf)))
    refine EvRet.ret (fun ρ => ?_)
    simp [den, eq_of_getD (by omega) hi2]
def dEx : Dc := ⟨0, 0, 0, 0, 20, -1, 2, 0, 9, 0⟩
def nmA : ByteArray := ⟨#[97]⟩
end Go.Proofs.Ytpnngbfmmjjnaaa
