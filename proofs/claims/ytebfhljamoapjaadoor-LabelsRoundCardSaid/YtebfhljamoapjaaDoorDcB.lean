
/- Pick, Bound, Labels of the references. Decl, Bent, Valid, Low, High. Bent, Valid, Low, High, Span. -/
import Derived.Test.YtebfhljamoapjaaDoorDcA
import Derived.Test.YtebfhljamoapjaaDoorTab
import Derived.Test.YtebfhljamoapjaaDoorSyC
namespace Go.Proofs.YtebfhljamoapjaaDoor
open Go.RowKit
set_option linter.unusedVariables false
set_option linter.unusedSimpArgs false

def pick (zs : List Int) (i : Nat) (m : Int) : Int := if i < zs.length then arnd (zs.getD i 0) m else 0
theorem pick_nn (zs : List Int) (i : Nat) (m : Int) (h : 1 ≤ m) : 0 ≤ pick zs i m := by
  unfold pick
  split
  · exact arnd_nn _ _ h
  · omega
theorem pick_lt (zs : List Int) (i : Nat) (m : Int) (h : 1 ≤ m) : pick zs i m < m := by
  unfold pick
  split
  · exact arnd_lt _ _ h
  · omega
theorem Ints.i64 {w : World} {v : Value} {zs : List Int} (h : Ints w v zs) {k : Nat} (hk : k < zs.length) : I64 (zs.getD k 0) := by
  rw [List.getD_eq_getElem?_getD, List.getElem?_eq_getElem hk]
  exact h.2 _ (List.getElem_mem _)
theorem ret_of_eq {w : World} {v : Value} {e : Ending} {w' : World} (h : e = .returned v ∧ w' = w) : Ret w v e w' := ⟨h.1, by rw [h.2]; exact Below.refl _ _⟩
theorem around_s (n m : Int) (w : World) (hn : I64 n) (hm : 1 ≤ m) (hm2 : m ≤ 9223372036854775807) : Con Tryd.prog 12 #[.int .i64 n, .int .i64 m] w (Ret w (.int .i64 (arnd n m))) :=
  ⟨(around_any n m w hn hm hm2).mono fun _ _ h => ret_of_eq h⟩

theorem pick_s (v : Value) (zs : List Int) (i m : Int) (w : World) (h : Ints w v zs) (hm : 1 ≤ m) (hm2 : m ≤ 9223372036854775807) (hi : 0 ≤ i) : Con Tryd.prog 20 #[v, .int .i64 i, .int .i64 m] w (Ret w (.int .i64 (pick zs i.toNat m))) := by
  obtain ⟨A, c, rfl, e1, e2⟩ := h.form
  refine enter tabOk mixed Tryd.func20 rfl Tryd.ntmps20 Tryd.results20 [.s 0 1 zs.length c, .v (.int .i64 i), .v (.int .i64 m)] (fun _ => A) [⟨0, false, 3, 1, c, .rows Int rI zs⟩] 1 rfl rfl (.ro (hp0 _ _ _) _ rfl rfl rfl (ro_ints h rfl _)) ?_
  ((conv=>whnf);(repeat(refine And.intro ?_ ?_;(focus((first|omega|exact⟨rfl,True.intro⟩|exact⟨rfl,rfl,True.intro⟩|rfl|(simp only[List.length_set];first|omega|(refine⟨?_,?_⟩<;>omega)|(refine⟨?_,?_,?_⟩<;>omega))|(intro hg;(try simp only[bB]at hg);first|omega|(refine⟨?_,?_⟩<;>omega)|(refine⟨?_,?_,?_⟩<;>first|omega|(show _<_;(try simp only[List.length_set]);omega)|exact leT rfl))|(refine⟨?_,?_⟩<;>omega)|(refine⟨?_,?_,?_⟩<;>first|omega|(show _<_;(try simp only[List.length_set]);omega)|exact leT rfl)|(simp only[show rI.d=(0:Int)from rfl];omega));done));(conv=>whnf))))
  refine EvIf.split (fun h1 => ?_) (fun h1 => ?_)
  · simp only [Bool.or_eq_true, decide_eq_true_eq] at h1
    ((conv=>whnf);(repeat(refine And.intro ?_ ?_;(focus((first|omega|exact⟨rfl,True.intro⟩|exact⟨rfl,rfl,True.intro⟩|rfl|(simp only[List.length_set];first|omega|(refine⟨?_,?_⟩<;>omega)|(refine⟨?_,?_,?_⟩<;>omega))|(intro hg;(try simp only[bB]at hg);first|omega|(refine⟨?_,?_⟩<;>omega)|(refine⟨?_,?_,?_⟩<;>first|omega|(show _<_;(try simp only[List.length_set]);omega)|exact leT rfl))|(refine⟨?_,?_⟩<;>omega)|(refine⟨?_,?_,?_⟩<;>first|omega|(show _<_;(try simp only[List.length_set]);omega)|exact leT rfl)|(simp only[show rI.d=(0:Int)from rfl];omega));done));(conv=>whnf))))
    refine EvRet.ret (fun ρ => ?_)
    rw [pick, if_neg (by omega)]
    rfl
  · simp only [Bool.or_eq_false_iff, decide_eq_false_iff_not] at h1
    ((conv=>whnf);(repeat(refine And.intro ?_ ?_;(focus((first|omega|exact⟨rfl,True.intro⟩|exact⟨rfl,rfl,True.intro⟩|rfl|(simp only[List.length_set];first|omega|(refine⟨?_,?_⟩<;>omega)|(refine⟨?_,?_,?_⟩<;>omega))|(intro hg;(try simp only[bB]at hg);first|omega|(refine⟨?_,?_⟩<;>omega)|(refine⟨?_,?_,?_⟩<;>first|omega|(show _<_;(try simp only[List.length_set]);omega)|exact leT rfl))|(refine⟨?_,?_⟩<;>omega)|(refine⟨?_,?_,?_⟩<;>first|omega|(show _<_;(try simp only[List.length_set]);omega)|exact leT rfl)|(simp only[show rI.d=(0:Int)from rfl];omega));done));(conv=>whnf))))
    refine EvCall.plain Tryd.call12 (.v (.int .i64 (arnd (zs.getD i.toNat 0) m))) rfl (fun ρ W hp => around_s _ _ _ (h.i64 (by omega)) hm hm2) ?_
    ((conv=>whnf);(repeat(refine And.intro ?_ ?_;(focus((first|omega|exact⟨rfl,True.intro⟩|exact⟨rfl,rfl,True.intro⟩|rfl|(simp only[List.length_set];first|omega|(refine⟨?_,?_⟩<;>omega)|(refine⟨?_,?_,?_⟩<;>omega))|(intro hg;(try simp only[bB]at hg);first|omega|(refine⟨?_,?_⟩<;>omega)|(refine⟨?_,?_,?_⟩<;>first|omega|(show _<_;(try simp only[List.length_set]);omega)|exact leT rfl))|(refine⟨?_,?_⟩<;>omega)|(refine⟨?_,?_,?_⟩<;>first|omega|(show _<_;(try simp only[List.length_set]);omega)|exact leT rfl)|(simp only[show rI.d=(0:Int)from rfl];omega));done));(conv=>whnf))))
    refine EvRet.ret (fun ρ => ?_)
    rw [pick, if_pos (by omega)]
    rfl
def bnd (n m : Int) : Int := arnd n (2 * m + 1) - m
theorem bnd_in (n m : Int) (h : 0 ≤ m) : -m ≤ bnd n m ∧ bnd n m ≤ m := by
  have a0 := arnd_nn n (2 * m + 1) (by omega)
  have a1 := arnd_lt n (2 * m + 1) (by omega)
  unfold bnd
  omega
/-! labels -/
def ofL (cs : List Value) : Option (ByteArray × ByteArray) :=
  match cs with
  | [.string a, .string b] => some (a, b)
  | _ => none
theorem ofL_law (cs : List Value) (x : ByteArray × ByteArray) (h : ofL cs = some x) : [Value.string x.1, Value.string x.2] = cs := by
  unfold ofL at h
  split at h
  · simp at h
    subst h
    rfl
  · cases h
def rL : RowS (ByteArray × ByteArray) := { cols := [fun e => .string e.1, fun e => .string e.2], d := (ByteArray.empty, ByteArray.empty), of := ofL, law := fun cs x h => ofL_law cs x h, one := fun x f hf => by simp at hf; rcases hf with rfl | rfl <;> rfl }
theorem rowC_lab (l : List (ByteArray × ByteArray)) : rowC rL l = labCells l := rfl

def sHost : ByteArray := ⟨#[104, 111, 115, 116]⟩
def sZone : ByteArray := ⟨#[122, 111, 110, 101]⟩
def sA : ByteArray := ⟨#[97]⟩
def sB : ByteArray := ⟨#[98]⟩
def sX : ByteArray := ⟨#[120]⟩
theorem lab0 : LabSet [] := ⟨by simp, by simp, by simp, by simp, by simp⟩
theorem nm1 : nameB sHost = true := by decide +kernel
theorem nm2 : nameB sZone = true := by decide +kernel
theorem vl1 : valueB sA = true := by decide +kernel
theorem vl2 : valueB sB = true := by decide +kernel
theorem vl3 : valueB sX = true := by decide +kernel
theorem one_set (n v : ByteArray) (hn : nameB n = true) (hv : valueB v = true) (hf : v.toList ≠ []) : LabSet [(n, v)] := by
  refine ⟨by simp, ?_, ?_, ?_, ?_⟩
  · intro i h; simp at h; subst h; exact hn
  · intro i h; simp at h; subst h; exact hv
  · intro i h; simp at h; subst h; exact hf
  · intro i j hij h; simp at h; omega
theorem lab3 : LabSet [(sHost, sB), (sZone, sX)] := by
  refine ⟨by simp, ?_, ?_, ?_, ?_⟩
  · intro i h; simp at h
    rcases (show i = 0 ∨ i = 1 by omega) with rfl | rfl
    · exact nm1
    · exact nm2
  · intro i h; simp at h
    rcases (show i = 0 ∨ i = 1 by omega) with rfl | rfl
    · exact vl2
    · exact vl3
  · intro i h; simp at h
    rcases (show i = 0 ∨ i = 1 by omega) with rfl | rfl
    · exact (by decide +kernel : sB.toList ≠ [])
    · exact (by decide +kernel : sX.toList ≠ [])
  · intro i j hij h; simp at h
    obtain rfl : i = 0 := by omega
    obtain rfl : j = 1 := by omega
    exact (by decide +kernel : Op.bytesLess sHost.toList sZone.toList = true)
/-- What Labels returns. -/
def labsOf (n : Int) : List (ByteArray × ByteArray) := if arnd n 4 = 1 then [(sHost, sA)] else if arnd n 4 = 2 then [(sHost, sB)] else if arnd n 4 = 3 then [(sHost, sB), (sZone, sX)] else []
theorem labsOf_set (n : Int) : LabSet (labsOf n) := by
  unfold labsOf
  split
  · exact one_set _ _ nm1 vl1 (by decide +kernel)
  · split
    · exact one_set _ _ nm1 vl2 (by decide +kernel)
    · split
      · exact lab3
      · exact lab0
theorem EvRet.rows_lit {w : Ref} {L : List Ob} {nx : Nat} {α : Type} {R : RowS α} {ty : TypeId} {ys : List α} {n len cap sz : Nat} {cs : List SV} (hl : len = ys.length) (hc : ys.length ≤ cap) (hn : fnd L n = some ⟨n, true, ty, R.cols.length, cap, .cs cs⟩) (hy : ∀ ρ : Rho, denL ρ cs = rowC R ys) : EvRet w (RetRows R ty w.toWorld ys) (.s n sz len cap) L nx := by
  subst hl
  obtain ⟨_, l1, l2, hL, _⟩ := fnd_split hn
  refine ⟨fun ρ W hp _ => ⟨ρ n, cap, by simp [den], hp.bel, hc, ?_⟩⟩
  have h1 := hp.obj _ (show (⟨n, true, ty, R.cols.length, cap, .cs cs⟩ : Ob) ∈ L by rw [hL]; simp)
  simp only [ObOk, if_true] at h1
  have e1 : (Ct.cs cs).cells ρ = rowC R ys := hy ρ
  have e2 : (Ct.rows α R ys).cells (fun _ => ρ n) = rowC R ys := rfl
  unfold OwnOk at *
  simp only [e1, e2] at *
  exact h1
end Go.Proofs.YtebfhljamoapjaaDoor
namespace Go.Proofs.YtebfhljamoapjaaDoor
open Go.RowKit
set_option linter.unusedVariables false
set_option linter.unusedSimpArgs false

/-- The numbers of a declaration. -/
structure Dc where
  u0 : Int
  u1 : Int
  u2 : Int
  lo : Int
  hi : Int
  down : Int
  up : Int
  first : Int
  last : Int
  budget : Int
def dcCells (nm : ByteArray) (v : Value) (d : Dc) : Array Value :=
  #[.string nm, v, .int .i64 d.u0, .int .i64 d.u1, .int .i64 d.u2, .int .i64 d.lo, .int .i64 d.hi, .int .i64 d.down, .int .i64 d.up, .int .i64 d.first, .int .i64 d.last, .int .i64 d.budget]
def dcS (nm : ByteArray) (v : SV) (d : Dc) : List SV :=
  [.v (.string nm), v, .v (.int .i64 d.u0), .v (.int .i64 d.u1), .v (.int .i64 d.u2), .v (.int .i64 d.lo), .v (.int .i64 d.hi), .v (.int .i64 d.down), .v (.int .i64 d.up), .v (.int .i64 d.first), .v (.int .i64 d.last), .v (.int .i64 d.budget)]
/-- A declaration with a name and a label set that are valid. -/
def DeclIs (w : World) (V : Value) (d : Dc) : Prop :=
  ∃ nm A c l, V = .agg (dcCells nm (.slice A (List.length l) c) d) ∧ nameB nm = true ∧ LabSet l ∧ RowsIn rL w (.slice A l.length c) l
theorem DeclIs.below {w w' : World} {V : Value} {d : Dc} (h : DeclIs w V d) (hb : Below w.heap.size w w') : DeclIs w' V d := by
  obtain ⟨nm, A, c, l, h1, h2, h3, h4⟩ := h
  exact ⟨nm, A, c, l, h1, h2, h3, h4.below hb⟩
def declOf (zs : List Int) : Dc := {
  u0 := 1
  u1 := 0
  u2 := 0
  lo := pick zs 0 10 - 9
  hi := pick zs 0 10 - 9 + pick zs 5 17
  down := pick zs 1 5 - 3
  up := pick zs 1 5 - 3 + pick zs 6 4
  first := pick zs 2 7
  last := pick zs 2 7 + pick zs 7 14
  budget := pick zs 8 40 }
def sCpu : ByteArray := ⟨#[99, 112, 117]⟩
def sMem : ByteArray := ⟨#[109, 101, 109]⟩
theorem nmCpu : nameB sCpu = true := by decide +kernel
theorem nmMem : nameB sMem = true := by decide +kernel
/-- A declaration comes back; its labels are a slice of its own. -/
def RetDecl (w : World) (d : Dc) (e : Ending) (w' : World) : Prop :=
  ∃ nm A c l, e = .returned (.agg (dcCells nm (.slice A (List.length l) c) d)) ∧ nameB nm = true ∧ LabSet l ∧ Below w.heap.size w w' ∧ l.length ≤ c ∧ OwnOk w.heap.size (fun _ => A) ⟨0, true, 42, 2, c, .rows _ rL l⟩ w'
theorem EvCall.decl {kp : Bool} {P : Program} {w : Ref} {f : FuncId} {args : List SV} {L : List Ob} {nx : Nat} {k : SV → List Ob → Nat → Prop} {d : Dc} (ent : ∀ args W, (callFunc f args).run P W = .ok (.enter f args) W)
    (h : ∀ ρ W, Hp w ρ L nx W → Con P f (denL ρ args).toArray W (RetDecl W d))
    (hk : ∀ nm l c, nameB nm = true → LabSet l → l.length ≤ c → c ≤ 9223372036854775807 → k (.a (dcS nm (.s nx 2 l.length c) d)) (⟨nx, true, 42, 2, c, .rows _ rL l⟩ :: L) (nx + 1)) : EvCall kp P w f args L nx k := by
  refine ⟨ent, fun ρ W hp _ => (h ρ W hp).out.mono fun e W' he => ?_⟩
  obtain ⟨nm, A, c, l, he, hnm, hl, hb, hc, hok⟩ := he
  have hcm : c ≤ 9223372036854775807 := by
    rcases hok with ⟨_, _, hx⟩ | ⟨_, _, _, _, _, hx, _⟩
    · simp only at hx; omega
    · simpa [maxLen] using hx
  refine ⟨_, he, fun _ => hb, upd ρ nx A, .a (dcS nm (.s nx 2 l.length c) d), _, nx + 1, ?_, agree_upd ρ nx A, by omega, ?_, ?_, hk nm l c hnm hl hc hcm⟩
  · simp [den, dcS, denL, dcCells, upd_same]
  · simp [SV.lt, dcS, ltL, blt_iff]
  · exact hp.new hb _ A rfl rfl rfl (OwnOk.rename (o := ⟨0, true, 42, 2, c, .rows _ rL l⟩) (n := nx) rfl (upd_same _ _ _) hok)
/-- A declaration whose labels are an object of the walk's. -/
theorem Hp.decl {w : Ref} {ρ : Rho} {L : List Ob} {nx : Nat} {W : World} (h : Hp w ρ L nx W) {nm : ByteArray} {l : List (ByteArray × ByteArray)} {n c : Nat} {d : Dc} (hnm : nameB nm = true) (hl : LabSet l) (hc : l.length ≤ c) (hm : c ≤ 9223372036854775807)
    (hf : fnd L n = some ⟨n, true, 42, 2, c, .rows _ rL l⟩) : DeclIs W (den ρ (.a (dcS nm (.s n 2 l.length c) d))) d :=
  ⟨nm, ρ n, c, l, rfl, hnm, hl, h.rowsIn hf (by decide) hc hm 2⟩

theorem EvRet.decl {w : Ref} {L : List Ob} {nx : Nat} {nm : ByteArray} {l : List (ByteArray × ByteArray)} {n c : Nat} {d d' : Dc} (hnm : nameB nm = true) (hl : LabSet l) (hc : l.length ≤ c) (hd : d = d')
    (hf : fnd L n = some ⟨n, true, 42, 2, c, .rows _ rL l⟩) : EvRet w (RetDecl w.toWorld d') (.a (dcS nm (.s n 2 l.length c) d)) L nx := by
  subst hd
  obtain ⟨_, l1, l2, hL, _⟩ := fnd_split hf
  refine ⟨fun ρ W hp _ => ⟨nm, ρ n, c, l, rfl, hnm, hl, hp.bel, hc, ?_⟩⟩
  have h1 := hp.obj _ (show (⟨n, true, 42, 2, c, .rows _ rL l⟩ : Ob) ∈ L by rw [hL]; simp)
  simp only [ObOk, if_true] at h1
  exact OwnOk.rename (o := ⟨n, true, 42, 2, c, .rows _ rL l⟩) (n := 0) rfl rfl h1

end Go.Proofs.YtebfhljamoapjaaDoor
namespace Go.Proofs.YtebfhljamoapjaaDoor
open Go.RowKit
set_option linter.unusedVariables false
set_option linter.unusedSimpArgs false

def bent (d : Dc) (k n : Int) : Dc :=
  if k = 0 then { d with u0 := n } else if k = 1 then { d with u1 := n } else if k = 2 then { d with u2 := n } else if k = 3 then { d with lo := n } else if k = 4 then { d with hi := n }
  else if k = 5 then { d with down := n } else if k = 6 then { d with up := n } else if k = 7 then { d with first := n } else if k = 8 then { d with last := n } else { d with budget := n }
/-- What Valid returns for a declaration whose name and labels are valid. -/
def badRange (d : Dc) : Prop := d.lo < -1073741824 ∨ d.hi < d.lo ∨ 1073741824 < d.hi ∨ d.down < -1048576 ∨ d.up < d.down ∨ 1048576 < d.up ∨ d.budget < 0 ∨ 1073741824 < d.budget
def badUnit (d : Dc) : Prop := d.u0 < -3 ∨ 3 < d.u0 ∨ d.u1 < -3 ∨ 3 < d.u1 ∨ d.u2 < -3 ∨ 3 < d.u2
def badLife (d : Dc) : Prop := d.first < 0 ∨ d.last < d.first ∨ 1048576 < d.last ∨ 4096 ≤ d.last - d.first
instance (d : Dc) : Decidable (badRange d) := by unfold badRange; infer_instance
instance (d : Dc) : Decidable (badUnit d) := by unfold badUnit; infer_instance
instance (d : Dc) : Decidable (badLife d) := by unfold badLife; infer_instance
def validCode (d : Dc) : Int := if badRange d then 5 else if badUnit d ∨ badLife d then 4 else 0
theorem vc0 {d : Dc} (h1 : ¬ badRange d) (h2 : ¬ badUnit d) (h3 : ¬ badLife d) : validCode d = 0 := by simp [validCode, h1, h2, h3]
theorem vc5 {d : Dc} (h1 : badRange d) : validCode d = 5 := by simp [validCode, h1]
theorem vc4 {d : Dc} (h1 : ¬ badRange d) (h2 : badUnit d ∨ badLife d) : validCode d = 4 := by
  unfold validCode
  rw [if_neg h1, if_pos h2]
theorem valid_bounds {d : Dc} (h : validCode d = 0) : (-1073741824 ≤ d.lo ∧ d.lo ≤ d.hi ∧ d.hi ≤ 1073741824 ∧ -1048576 ≤ d.down ∧ d.down ≤ d.up ∧ d.up ≤ 1048576) ∧ (0 ≤ d.first ∧ d.first ≤ d.last ∧ d.last ≤ 1048576 ∧ d.last - d.first < 4096) := by
  unfold validCode at h
  split at h
  · omega
  · split at h
    · omega
    · rename_i h1 h2
      simp only [badRange, badLife, badUnit] at h1 h2
      omega
/-- Each number is an int of Go's. -/
def DcI (d : Dc) : Prop := I64 d.u0 ∧ I64 d.u1 ∧ I64 d.u2 ∧ I64 d.lo ∧ I64 d.hi ∧ I64 d.down ∧ I64 d.up ∧ I64 d.first ∧ I64 d.last ∧ I64 d.budget
theorem ret_code {w : Ref} {L : List Ob} {nx : Nat} {a b : Int} (h : b = a) : EvRet w (Ret w.toWorld (.int .i64 b)) (.v (.int .i64 a)) L nx := EvRet.ret (fun _ => by rw [h]; rfl)

def lowV (d : Dc) (s t x : Int) : Int := if s ≤ t then x + d.down * (t - s) else x - d.up * (s - t)
def highV (d : Dc) (s t x : Int) : Int := if s ≤ t then x + d.up * (t - s) else x - d.down * (s - t)
/-- Small enough that no sum leaves 64 bits. -/
def DcS (d : Dc) : Prop := -1048576 ≤ d.down ∧ d.down ≤ 1048576 ∧ -1048576 ≤ d.up ∧ d.up ≤ 1048576
theorem mul_bd {a n A N : Int} (h1 : -A ≤ a) (h2 : a ≤ A) (h3 : 0 ≤ n) (h4 : n ≤ N) (hA : 0 ≤ A) : -(A * N) ≤ a * n ∧ a * n ≤ A * N := by
  have h5 : A * n ≤ A * N := Int.mul_le_mul_of_nonneg_left h4 hA
  have h6 : a * n ≤ A * n := Int.mul_le_mul_of_nonneg_right h2 h3
  have h7 : -A * n ≤ a * n := Int.mul_le_mul_of_nonneg_right h1 h3
  have h8 : -A * n = -(A * n) := Int.neg_mul A n
  omega
end Go.Proofs.YtebfhljamoapjaaDoor
