
/- Pick, Bound, Labels of the references. Decl, Bent, Valid, Low, High. Bent, Valid, Low, High, Span. -/
import Derived.Test.YtpnngbfmmjjnaaaDcA
import Derived.Test.YtpnngbfmmjjnaaaTab
import Derived.Test.YtpnngbfmmjjnaaaSyC
namespace Go.Proofs.Ytpnngbfmmjjnaaa
open Go.RowKit
set_option linter.unusedVariables false
set_option linter.unusedSimpArgs false

def pick (zs : List Int) (i : Nat) (m : Int) : Int := if i < zs.length then arnd (zs.getD i 0) m else 0
theorem pick_nn (zs : List Int) (i : Nat) (m : Int) (h : 1 ≤ m) : 0 ≤ pick zs i m := by
  unfold pick
  split
  · exact arnd_nn _ _ h
  · omega
theorem pick_lt (zs : List Int) (i : Nat) (m : Int) (h : 1 ≤ m) : pick zs i m < m := by
  unfold pick
  split
  · exact arnd_lt _ _ h
  · omega
theorem Ints.i64 {w : World} {v : Value} {zs : List Int} (h : Ints w v zs) {k : Nat} (hk : k < zs.length) : I64 (zs.getD k 0) := by
  rw [List.getD_eq_getElem?_getD, List.getElem?_eq_getElem hk]
  exact h.2 _ (List.getElem_mem _)
theorem ret_of_eq {w : World} {v : Value} {e : Ending} {w' : World} (h : e = .returned v ∧ w' = w) : Ret w v e w' := ⟨h.1, by rw [h.2]; exact Below.refl _ _⟩
theorem around_s (n m : Int) (w : World) (hn : I64 n) (hm : 1 ≤ m) (hm2 : m ≤ 9223372036854775807) : Con Try.prog 17 #[.int .i64 n, .int .i64 m] w (Ret w (.int .i64 (arnd n m))) :=
  ⟨(around_any n m w hn hm hm2).mono fun _ _ h => ret_of_eq h⟩

theorem pick_s (v : Value) (zs : List Int) (i m : Int) (w : World) (h : Ints w v zs) (hm : 1 ≤ m) (hm2 : m ≤ 9223372036854775807) (hi : 0 ≤ i) : Con Try.prog 38 #[v, .int .i64 i, .int .i64 m] w (Ret w (.int .i64 (pick zs i.toNat m))) := by
  obtain ⟨A, c, rfl, e1, e2⟩ := h.form
  refine enter tabOk mixed Try.func38 rfl Try.ntmps38 Try.results38 [.s 0 1 zs.length c, .v (.int .i64 i), .v (.int .i64 m)] (fun _ => A) [⟨0, false, 3, 1, c, .rows Int rI zs⟩] 1 rfl rfl (.ro (hp0 _ _ _) _ rfl rfl rfl (ro_ints h rfl _)) ?_
  ((conv=>whnf);(repeat(refine And.intro ?_ ?_;(focus((first|omega|exact⟨rfl,True.intro⟩|exact⟨rfl,rfl,True.intro⟩|rfl|(simp only[List.length_set];first|omega|(refine⟨?_,?_⟩<;>omega)|(refine⟨?_,?_,?_⟩<;>omega))|(intro hg;(try simp only[bB]at hg);first|omega|(refine⟨?_,?_⟩<;>omega)|(refine⟨?_,?_,?_⟩<;>first|omega|(show _<_;(try simp only[List.length_set]);omega)|exact leT rfl))|(refine⟨?_,?_⟩<;>omega)|(refine⟨?_,?_,?_⟩<;>first|omega|(show _<_;(try simp only[List.length_set]);omega)|exact leT rfl)|(simp only[show rI.d=(0:Int)from rfl];omega));done));(conv=>whnf))))
  refine EvIf.split (fun h1 => ?_) (fun h1 => ?_)
  · simp only [Bool.or_eq_true, decide_eq_true_eq] at h1
    ((conv=>whnf);(repeat(refine And.intro ?_ ?_;(focus((first|omega|exact⟨rfl,True.intro⟩|exact⟨rfl,rfl,True.intro⟩|rfl|(simp only[List.length_set];first|omega|(refine⟨?_,?_⟩<;>omega)|(refine⟨?_,?_,?_⟩<;>omega))|(intro hg;(try simp only[bB]at hg);first|omega|(refine⟨?_,?_⟩<;>omega)|(refine⟨?_,?_,?_⟩<;>first|omega|(show _<_;(try simp only[List.length_set]);omega)|exact leT rfl))|(refine⟨?_,?_⟩<;>omega)|(refine⟨?_,?_,?_⟩<;>first|omega|(show _<_;(try simp only[List.length_set]);omega)|exact leT rfl)|(simp only[show rI.d=(0:Int)from rfl];omega));done));(conv=>whnf))))
    refine EvRet.ret (fun ρ => ?_)
    rw [pick, if_neg (by omega)]
    rfl
  · simp only [Bool.or_eq_false_iff, decide_eq_false_iff_not] at h1
    ((conv=>whnf);(repeat(refine And.intro ?_ ?_;(focus((first|omega|exact⟨rfl,True.intro⟩|exact⟨rfl,rfl,True.intro⟩|rfl|(simp only[List.length_set];first|omega|(refine⟨?_,?_⟩<;>omega)|(refine⟨?_,?_,?_⟩<;>omega))|(intro hg;(try simp only[bB]at hg);first|omega|(refine⟨?_,?_⟩<;>omega)|(refine⟨?_,?_,?_⟩<;>first|omega|(show _<_;(try simp only[List.length_set]);omega)|exact leT rfl))|(refine⟨?_,?_⟩<;>omega)|(refine⟨?_,?_,?_⟩<;>first|omega|(show _<_;(try simp only[List.length_set]);omega)|exact leT rfl)|(simp only[show rI.d=(0:Int)from rfl];omega));done));(conv=>whnf))))
    refine EvCall.plain Try.call17 (.v (.int .i64 (arnd (zs.getD i.toNat 0) m))) rfl (fun ρ W hp => around_s _ _ _ (h.i64 (by omega)) hm hm2) ?_
    ((conv=>whnf);(repeat(refine And.intro ?_ ?_;(focus((first|omega|exact⟨rfl,True.intro⟩|exact⟨rfl,rfl,True.intro⟩|rfl|(simp only[List.length_set];first|omega|(refine⟨?_,?_⟩<;>omega)|(refine⟨?_,?_,?_⟩<;>omega))|(intro hg;(try simp only[bB]at hg);first|omega|(refine⟨?_,?_⟩<;>omega)|(refine⟨?_,?_,?_⟩<;>first|omega|(show _<_;(try simp only[List.length_set]);omega)|exact leT rfl))|(refine⟨?_,?_⟩<;>omega)|(refine⟨?_,?_,?_⟩<;>first|omega|(show _<_;(try simp only[List.length_set]);omega)|exact leT rfl)|(simp only[show rI.d=(0:Int)from rfl];omega));done));(conv=>whnf))))
    refine EvRet.ret (fun ρ => ?_)
    rw [pick, if_pos (by omega)]
    rfl
def bnd (n m : Int) : Int := arnd n (2 * m + 1) - m
theorem bnd_in (n m : Int) (h : 0 ≤ m) : -m ≤ bnd n m ∧ bnd n m ≤ m := by
  have a0 := arnd_nn n (2 * m + 1) (by omega)
  have a1 := arnd_lt n (2 * m + 1) (by omega)
  unfold bnd
  omega
/-! labels -/
def ofL (cs : List Value) : Option (ByteArray × ByteArray) :=
  match cs with
  | [.string a, .string b] => some (a, b)
  | _ => none
theorem ofL_law (cs : List Value) (x : ByteArray × ByteArray) (h : ofL cs = some x) : [Value.string x.1, Value.string x.2] = cs := by
  unfold ofL at h
  split at h
  · simp at h
    subst h
    rfl
  · cases h
def rL : RowS (ByteArray × ByteArray) := { cols := [fun e => .string e.1, fun e => .string e.2], d := (ByteArray.empty, ByteArray.empty), of := ofL, law := fun cs x h => ofL_law cs x h, one := fun x f hf => by simp at hf; rcases hf with rfl | rfl <;> rfl }
theorem rowC_lab (l : List (ByteArray × ByteArray)) : rowC rL l = labCells l := rfl

def sHost : ByteArray := ⟨#[104, 111, 115, 116]⟩
def sZone : ByteArray := ⟨#[122, 111, 110, 101]⟩
def sA : ByteArray := ⟨#[97]⟩
def sB : ByteArray := ⟨#[98]⟩
def sX : ByteArray := ⟨#[120]⟩
theorem lab0 : LabSet [] := ⟨by simp, by simp, by simp, by simp, by simp⟩
theorem nm1 : nameB sHost = true := by decide +kernel
theorem nm2 : nameB sZone = true := by decide +kernel
theorem vl1 : valueB sA = true := by decide +kernel
theorem vl2 : valueB sB = true := by decide +kernel
theorem vl3 : valueB sX = true := by decide +kernel
theorem one_set (n v : ByteArray) (hn : nameB n = true) (hv : valueB v = true) (hf : v.toList ≠ []) : LabSet [(n, v)] := by
  refine ⟨by simp, ?_, ?_, ?_, ?_⟩
  · intro i h; simp at h; subst h; exact hn
  · intro i h; simp at h; subst h; exact hv
  · intro i h; simp at h; subst h; exact hf
  · intro i j hij h; simp at h; omega
theorem lab3 : LabSet [(sHost, sB), (sZone, sX)] := by
  refine ⟨by simp, ?_, ?_, ?_, ?_⟩
  · intro i h; simp at h
    rcases (show i = 0 ∨ i = 1 by omega) with rfl | rfl
    · exact nm1
    · exact nm2
  · intro i h; simp at h
    rcases (show i = 0 ∨ i = 1 by omega) with rfl | rfl
    · exact vl2
    · exact vl3
  · intro i h; simp at h
    rcases (show i = 0 ∨ i = 1 by omega) with rfl | rfl
    · exact (by decide +kernel : sB.toList ≠ [])
    · exact (by decide +kernel : sX.toList ≠ [])
  · intro i j hij h; simp at h
    obtain rfl : i = 0 := by omega
    obtain rfl : j = 1 := by omega
    exact (by decide +kernel : Op.bytesLess sHost.toList sZone.toList = true)
/-- What Labels returns. -/
def labsOf (n : Int) : List (ByteArray × ByteArray) := if arnd n 4 = 1 then [(sHost, sA)] else if arnd n 4 = 2 then [(sHost, sB)] else if arnd n 4 = 3 then [(sHost, sB), (sZone, sX)] else []
theorem labsOf_set (n : Int) : LabSet (labsOf n) := by
  unfold labsOf
  split
  · exact one_set _ _ nm1 vl1 (by decide +kernel)
  · split
    · exact one_set _ _ nm1 vl2 (by decide +kernel)
    · split
      · exact lab3
      · exact lab0
theorem EvRet.rows_lit {w : Ref} {L : List Ob} {nx : Nat} {α : Type} {R : RowS α} {ty : TypeId} {ys : List α} {n len cap sz : Nat} {cs : List SV} (hl : len = ys.length) (hc : ys.length ≤ cap) (hn : fnd L n = some ⟨n, true, ty, R.cols.length, cap, .cs cs⟩) (hy : ∀ ρ : Rho, denL ρ cs = rowC R ys) : EvRet w (RetRows R ty w.toWorld ys) (.s n sz len cap) L nx := by
  subst hl
  obtain ⟨_, l1, l2, hL, _⟩ := fnd_split hn
  refine ⟨fun ρ W hp _ => ⟨ρ n, cap, by simp [den], hp.bel, hc, ?_⟩⟩
  have h1 := hp.obj _ (show (⟨n, true, ty, R.cols.length, cap, .cs cs⟩ : Ob) ∈ L by rw [hL]; simp)
  simp only [ObOk, if_true] at h1
  have e1 : (Ct.cs cs).cells ρ = rowC R ys := hy ρ
  have e2 : (Ct.rows α R ys).cells (fun _ => ρ n) = rowC R ys := rfl
  unfold OwnOk at *
  simp only [e1, e2] at *
  exact h1
theorem labels_s (n : Int) (w : World) (hn : I64 n) : Con Try.prog 39 #[.int .i64 n] w (RetRows rL 101 w (labsOf n)) := by
  have a0 := arnd_nn n 4 (by omega)
  have a1 := arnd_lt n 4 (by omega)
  refine enter tabOk mixed Try.func39 rfl Try.ntmps39 Try.results39 [.v (.int .i64 n)] (fun _ => none) [] 0 rfl rfl (hp0 _ _ _) ?_
  ((conv=>whnf);(repeat(refine And.intro ?_ ?_;(focus((first|omega|exact⟨rfl,True.intro⟩|exact⟨rfl,rfl,True.intro⟩|rfl|(simp only[List.length_set];first|omega|(refine⟨?_,?_⟩<;>omega)|(refine⟨?_,?_,?_⟩<;>omega))|(intro hg;(try simp only[bB]at hg);first|omega|(refine⟨?_,?_⟩<;>omega)|(refine⟨?_,?_,?_⟩<;>first|omega|(show _<_;(try simp only[List.length_set]);omega)|exact leT rfl))|(refine⟨?_,?_⟩<;>omega)|(refine⟨?_,?_,?_⟩<;>first|omega|(show _<_;(try simp only[List.length_set]);omega)|exact leT rfl)|(simp only[show rI.d=(0:Int)from rfl];omega));done));(conv=>whnf))))
  refine EvCall.plain Try.call17 (.v (.int .i64 (arnd n 4))) rfl (fun ρ W hp => around_s _ _ _ hn (by omega) (by omega)) ?_
  ((conv=>whnf);(repeat(refine And.intro ?_ ?_;(focus((first|omega|exact⟨rfl,True.intro⟩|exact⟨rfl,rfl,True.intro⟩|rfl|(simp only[List.length_set];first|omega|(refine⟨?_,?_⟩<;>omega)|(refine⟨?_,?_,?_⟩<;>omega))|(intro hg;(try simp only[bB]at hg);first|omega|(refine⟨?_,?_⟩<;>omega)|(refine⟨?_,?_,?_⟩<;>first|omega|(show _<_;(try simp only[List.length_set]);omega)|exact leT rfl))|(refine⟨?_,?_⟩<;>omega)|(refine⟨?_,?_,?_⟩<;>first|omega|(show _<_;(try simp only[List.length_set]);omega)|exact leT rfl)|(simp only[show rI.d=(0:Int)from rfl];omega));done));(conv=>whnf))))
  refine EvIf.split (fun h1 => ?_) (fun h1 => ?_)
  · ((conv=>whnf);(repeat(refine And.intro ?_ ?_;(focus((first|omega|exact⟨rfl,True.intro⟩|exact⟨rfl,rfl,True.intro⟩|rfl|(simp only[List.length_set];first|omega|(refine⟨?_,?_⟩<;>omega)|(refine⟨?_,?_,?_⟩<;>omega))|(intro hg;(try simp only[bB]at hg);first|omega|(refine⟨?_,?_⟩<;>omega)|(refine⟨?_,?_,?_⟩<;>first|omega|(show _<_;(try simp only[List.length_set]);omega)|exact leT rfl))|(refine⟨?_,?_⟩<;>omega)|(refine⟨?_,?_,?_⟩<;>first|omega|(show _<_;(try simp only[List.length_set]);omega)|exact leT rfl)|(simp only[show rI.d=(0:Int)from rfl];omega));done));(conv=>whnf))))
    simp only [decide_eq_true_eq] at h1
    have : labsOf n = [(sHost, sA)] := by simp [labsOf, h1]
    rw [this]
    exact EvRet.rows_lit rfl (by decide) rfl (fun ρ => rfl)
  · ((conv=>whnf);(repeat(refine And.intro ?_ ?_;(focus((first|omega|exact⟨rfl,True.intro⟩|exact⟨rfl,rfl,True.intro⟩|rfl|(simp only[List.length_set];first|omega|(refine⟨?_,?_⟩<;>omega)|(refine⟨?_,?_,?_⟩<;>omega))|(intro hg;(try simp only[bB]at hg);first|omega|(refine⟨?_,?_⟩<;>omega)|(refine⟨?_,?_,?_⟩<;>first|omega|(show _<_;(try simp only[List.length_set]);omega)|exact leT rfl))|(refine⟨?_,?_⟩<;>omega)|(refine⟨?_,?_,?_⟩<;>first|omega|(show _<_;(try simp only[List.length_set]);omega)|exact leT rfl)|(simp only[show rI.d=(0:Int)from rfl];omega));done));(conv=>whnf))))
    simp only [decide_eq_false_iff_not] at h1
    refine EvIf.split (fun h2 => ?_) (fun h2 => ?_)
    · ((conv=>whnf);(repeat(refine And.intro ?_ ?_;(focus((first|omega|exact⟨rfl,True.intro⟩|exact⟨rfl,rfl,True.intro⟩|rfl|(simp only[List.length_set];first|omega|(refine⟨?_,?_⟩<;>omega)|(refine⟨?_,?_,?_⟩<;>omega))|(intro hg;(try simp only[bB]at hg);first|omega|(refine⟨?_,?_⟩<;>omega)|(refine⟨?_,?_,?_⟩<;>first|omega|(show _<_;(try simp only[List.length_set]);omega)|exact leT rfl))|(refine⟨?_,?_⟩<;>omega)|(refine⟨?_,?_,?_⟩<;>first|omega|(show _<_;(try simp only[List.length_set]);omega)|exact leT rfl)|(simp only[show rI.d=(0:Int)from rfl];omega));done));(conv=>whnf))))
      simp only [decide_eq_true_eq] at h2
      have : labsOf n = [(sHost, sB)] := by simp [labsOf, h2]
      rw [this]
      exact EvRet.rows_lit rfl (by decide) rfl (fun ρ => rfl)
    · ((conv=>whnf);(repeat(refine And.intro ?_ ?_;(focus((first|omega|exact⟨rfl,True.intro⟩|exact⟨rfl,rfl,True.intro⟩|rfl|(simp only[List.length_set];first|omega|(refine⟨?_,?_⟩<;>omega)|(refine⟨?_,?_,?_⟩<;>omega))|(intro hg;(try simp only[bB]at hg);first|omega|(refine⟨?_,?_⟩<;>omega)|(refine⟨?_,?_,?_⟩<;>first|omega|(show _<_;(try simp only[List.length_set]);omega)|exact leT rfl))|(refine⟨?_,?_⟩<;>omega)|(refine⟨?_,?_,?_⟩<;>first|omega|(show _<_;(try simp only[List.length_set]);omega)|exact leT rfl)|(simp only[show rI.d=(0:Int)from rfl];omega));done));(conv=>whnf))))
      simp only [decide_eq_false_iff_not] at h2
      refine EvIf.split (fun h3 => ?_) (fun h3 => ?_)
      · ((conv=>whnf);(repeat(refine And.intro ?_ ?_;(focus((first|omega|exact⟨rfl,True.intro⟩|exact⟨rfl,rfl,True.intro⟩|rfl|(simp only[List.length_set];first|omega|(refine⟨?_,?_⟩<;>omega)|(refine⟨?_,?_,?_⟩<;>omega))|(intro hg;(try simp only[bB]at hg);first|omega|(refine⟨?_,?_⟩<;>omega)|(refine⟨?_,?_,?_⟩<;>first|omega|(show _<_;(try simp only[List.length_set]);omega)|exact leT rfl))|(refine⟨?_,?_⟩<;>omega)|(refine⟨?_,?_,?_⟩<;>first|omega|(show _<_;(try simp only[List.length_set]);omega)|exact leT rfl)|(simp only[show rI.d=(0:Int)from rfl];omega));done));(conv=>whnf))))
        simp only [decide_eq_true_eq] at h3
        have : labsOf n = [(sHost, sB), (sZone, sX)] := by simp [labsOf, h3]
        rw [this]
        exact EvRet.rows_lit rfl (by decide) rfl (fun ρ => rfl)
      · ((conv=>whnf);(repeat(refine And.intro ?_ ?_;(focus((first|omega|exact⟨rfl,True.intro⟩|exact⟨rfl,rfl,True.intro⟩|rfl|(simp only[List.length_set];first|omega|(refine⟨?_,?_⟩<;>omega)|(refine⟨?_,?_,?_⟩<;>omega))|(intro hg;(try simp only[bB]at hg);first|omega|(refine⟨?_,?_⟩<;>omega)|(refine⟨?_,?_,?_⟩<;>first|omega|(show _<_;(try simp only[List.length_set]);omega)|exact leT rfl))|(refine⟨?_,?_⟩<;>omega)|(refine⟨?_,?_,?_⟩<;>first|omega|(show _<_;(try simp only[List.length_set]);omega)|exact leT rfl)|(simp only[show rI.d=(0:Int)from rfl];omega));done));(conv=>whnf))))
        simp only [decide_eq_false_iff_not] at h3
        exact EvRet.rows_nil (by simp [labsOf, h1, h2, h3])
end Go.Proofs.Ytpnngbfmmjjnaaa
namespace Go.Proofs.Ytpnngbfmmjjnaaa
open Go.RowKit
set_option linter.unusedVariables false
set_option linter.unusedSimpArgs false

/-- The numbers of a declaration. -/
structure Dc where
  u0 : Int
  u1 : Int
  u2 : Int
  lo : Int
  hi : Int
  down : Int
  up : Int
  first : Int
  last : Int
  budget : Int
def dcCells (nm : ByteArray) (v : Value) (d : Dc) : Array Value :=
  #[.string nm, v, .int .i64 d.u0, .int .i64 d.u1, .int .i64 d.u2, .int .i64 d.lo, .int .i64 d.hi, .int .i64 d.down, .int .i64 d.up, .int .i64 d.first, .int .i64 d.last, .int .i64 d.budget]
def dcS (nm : ByteArray) (v : SV) (d : Dc) : List SV :=
  [.v (.string nm), v, .v (.int .i64 d.u0), .v (.int .i64 d.u1), .v (.int .i64 d.u2), .v (.int .i64 d.lo), .v (.int .i64 d.hi), .v (.int .i64 d.down), .v (.int .i64 d.up), .v (.int .i64 d.first), .v (.int .i64 d.last), .v (.int .i64 d.budget)]
/-- A declaration with a name and a label set that are valid. -/
def DeclIs (w : World) (V : Value) (d : Dc) : Prop :=
  ∃ nm A c l, V = .agg (dcCells nm (.slice A (List.length l) c) d) ∧ nameB nm = true ∧ LabSet l ∧ RowsIn rL w (.slice A l.length c) l
theorem DeclIs.below {w w' : World} {V : Value} {d : Dc} (h : DeclIs w V d) (hb : Below w.heap.size w w') : DeclIs w' V d := by
  obtain ⟨nm, A, c, l, h1, h2, h3, h4⟩ := h
  exact ⟨nm, A, c, l, h1, h2, h3, h4.below hb⟩
def declOf (zs : List Int) : Dc := {
  u0 := 1
  u1 := 0
  u2 := 0
  lo := pick zs 0 10 - 9
  hi := pick zs 0 10 - 9 + pick zs 5 17
  down := pick zs 1 5 - 3
  up := pick zs 1 5 - 3 + pick zs 6 4
  first := pick zs 2 7
  last := pick zs 2 7 + pick zs 7 14
  budget := pick zs 8 40 }
def sCpu : ByteArray := ⟨#[99, 112, 117]⟩
def sMem : ByteArray := ⟨#[109, 101, 109]⟩
theorem nmCpu : nameB sCpu = true := by decide +kernel
theorem nmMem : nameB sMem = true := by decide +kernel
/-- A declaration comes back; its labels are a slice of its own. -/
def RetDecl (w : World) (d : Dc) (e : Ending) (w' : World) : Prop :=
  ∃ nm A c l, e = .returned (.agg (dcCells nm (.slice A (List.length l) c) d)) ∧ nameB nm = true ∧ LabSet l ∧ Below w.heap.size w w' ∧ l.length ≤ c ∧ OwnOk w.heap.size (fun _ => A) ⟨0, true, 101, 2, c, .rows _ rL l⟩ w'
theorem EvCall.decl {kp : Bool} {P : Program} {w : Ref} {f : FuncId} {args : List SV} {L : List Ob} {nx : Nat} {k : SV → List Ob → Nat → Prop} {d : Dc} (ent : ∀ args W, (callFunc f args).run P W = .ok (.enter f args) W)
    (h : ∀ ρ W, Hp w ρ L nx W → Con P f (denL ρ args).toArray W (RetDecl W d))
    (hk : ∀ nm l c, nameB nm = true → LabSet l → l.length ≤ c → c ≤ 9223372036854775807 → k (.a (dcS nm (.s nx 2 l.length c) d)) (⟨nx, true, 101, 2, c, .rows _ rL l⟩ :: L) (nx + 1)) : EvCall kp P w f args L nx k := by
  refine ⟨ent, fun ρ W hp _ => (h ρ W hp).out.mono fun e W' he => ?_⟩
  obtain ⟨nm, A, c, l, he, hnm, hl, hb, hc, hok⟩ := he
  have hcm : c ≤ 9223372036854775807 := by
    rcases hok with ⟨_, _, hx⟩ | ⟨_, _, _, _, _, hx, _⟩
    · simp only at hx; omega
    · simpa [maxLen] using hx
  refine ⟨_, he, fun _ => hb, upd ρ nx A, .a (dcS nm (.s nx 2 l.length c) d), _, nx + 1, ?_, agree_upd ρ nx A, by omega, ?_, ?_, hk nm l c hnm hl hc hcm⟩
  · simp [den, dcS, denL, dcCells, upd_same]
  · simp [SV.lt, dcS, ltL, blt_iff]
  · exact hp.new hb _ A rfl rfl rfl (OwnOk.rename (o := ⟨0, true, 101, 2, c, .rows _ rL l⟩) (n := nx) rfl (upd_same _ _ _) hok)
/-- A declaration whose labels are an object of the walk's. -/
theorem Hp.decl {w : Ref} {ρ : Rho} {L : List Ob} {nx : Nat} {W : World} (h : Hp w ρ L nx W) {nm : ByteArray} {l : List (ByteArray × ByteArray)} {n c : Nat} {d : Dc} (hnm : nameB nm = true) (hl : LabSet l) (hc : l.length ≤ c) (hm : c ≤ 9223372036854775807)
    (hf : fnd L n = some ⟨n, true, 101, 2, c, .rows _ rL l⟩) : DeclIs W (den ρ (.a (dcS nm (.s n 2 l.length c) d))) d :=
  ⟨nm, ρ n, c, l, rfl, hnm, hl, h.rowsIn hf (by decide) hc hm 2⟩

theorem EvRet.decl {w : Ref} {L : List Ob} {nx : Nat} {nm : ByteArray} {l : List (ByteArray × ByteArray)} {n c : Nat} {d d' : Dc} (hnm : nameB nm = true) (hl : LabSet l) (hc : l.length ≤ c) (hd : d = d')
    (hf : fnd L n = some ⟨n, true, 101, 2, c, .rows _ rL l⟩) : EvRet w (RetDecl w.toWorld d') (.a (dcS nm (.s n 2 l.length c) d)) L nx := by
  subst hd
  obtain ⟨_, l1, l2, hL, _⟩ := fnd_split hf
  refine ⟨fun ρ W hp _ => ⟨nm, ρ n, c, l, rfl, hnm, hl, hp.bel, hc, ?_⟩⟩
  have h1 := hp.obj _ (show (⟨n, true, 101, 2, c, .rows _ rL l⟩ : Ob) ∈ L by rw [hL]; simp)
  simp only [ObOk, if_true] at h1
  exact OwnOk.rename (o := ⟨n, true, 101, 2, c, .rows _ rL l⟩) (n := 0) rfl rfl h1

set_option maxRecDepth 10000 in
set_option maxHeartbeats 1000000 in
theorem decl_s (v : Value) (zs : List Int) (w : World) (h : Ints w v zs) : Con Try.prog 11 #[v] w (RetDecl w (declOf zs)) := by
  obtain ⟨A, c, rfl, e1, e2⟩ := h.form
  have a0 := pick_nn zs 0 10 (by omega)
  have b0 := pick_lt zs 0 10 (by omega)
  have a1 := pick_nn zs 1 5 (by omega)
  have b1 := pick_lt zs 1 5 (by omega)
  have a2 := pick_nn zs 2 7 (by omega)
  have b2 := pick_lt zs 2 7 (by omega)
  have a3 := pick_nn zs 3 2 (by omega)
  have b3 := pick_lt zs 3 2 (by omega)
  have a4 := pick_nn zs 4 4 (by omega)
  have b4 := pick_lt zs 4 4 (by omega)
  have a5 := pick_nn zs 5 17 (by omega)
  have b5 := pick_lt zs 5 17 (by omega)
  have a6 := pick_nn zs 6 4 (by omega)
  have b6 := pick_lt zs 6 4 (by omega)
  have a7 := pick_nn zs 7 14 (by omega)
  have b7 := pick_lt zs 7 14 (by omega)
  have a8 := pick_nn zs 8 40 (by omega)
  have b8 := pick_lt zs 8 40 (by omega)
  have hI : ∀ (L : List Ob) (nx : Nat) ρ W, Hp (refOf w) ρ L nx W → fnd L 0 = some ⟨0, false, 3, 1, c, .rows Int rI zs⟩ → Ints W (den ρ (.s 0 1 zs.length c)) zs := fun L nx ρ W hp hf => hp.ints hf e1 e2 h.2
  refine enter tabOk mixed Try.func11 rfl Try.ntmps11 Try.results11 [.s 0 1 zs.length c] (fun _ => A) [⟨0, false, 3, 1, c, .rows Int rI zs⟩] 1 rfl rfl (.ro (hp0 _ _ _) _ rfl rfl rfl (ro_ints h rfl _)) ?_
  ((conv=>whnf);(repeat(refine And.intro ?_ ?_;(focus((first|omega|exact⟨rfl,True.intro⟩|exact⟨rfl,rfl,True.intro⟩|rfl|(simp only[List.length_set];first|omega|(refine⟨?_,?_⟩<;>omega)|(refine⟨?_,?_,?_⟩<;>omega))|(intro hg;(try simp only[bB]at hg);first|omega|(refine⟨?_,?_⟩<;>omega)|(refine⟨?_,?_,?_⟩<;>first|omega|(show _<_;(try simp only[List.length_set]);omega)|exact leT rfl))|(refine⟨?_,?_⟩<;>omega)|(refine⟨?_,?_,?_⟩<;>first|omega|(show _<_;(try simp only[List.length_set]);omega)|exact leT rfl)|(simp only[show rI.d=(0:Int)from rfl];omega));done));(conv=>whnf))))
  refine EvCall.plain Try.call38 (.v (.int .i64 (pick zs 0 10))) rfl (fun ρ W hp => pick_s _ zs 0 10 W (hI _ _ ρ W hp rfl) (by omega) (by omega) (by omega)) ?_
  ((conv=>whnf);(repeat(refine And.intro ?_ ?_;(focus((first|omega|exact⟨rfl,True.intro⟩|exact⟨rfl,rfl,True.intro⟩|rfl|(simp only[List.length_set];first|omega|(refine⟨?_,?_⟩<;>omega)|(refine⟨?_,?_,?_⟩<;>omega))|(intro hg;(try simp only[bB]at hg);first|omega|(refine⟨?_,?_⟩<;>omega)|(refine⟨?_,?_,?_⟩<;>first|omega|(show _<_;(try simp only[List.length_set]);omega)|exact leT rfl))|(refine⟨?_,?_⟩<;>omega)|(refine⟨?_,?_,?_⟩<;>first|omega|(show _<_;(try simp only[List.length_set]);omega)|exact leT rfl)|(simp only[show rI.d=(0:Int)from rfl];omega));done));(conv=>whnf))))
  refine EvCall.plain Try.call38 (.v (.int .i64 (pick zs 1 5))) rfl (fun ρ W hp => pick_s _ zs 1 5 W (hI _ _ ρ W hp rfl) (by omega) (by omega) (by omega)) ?_
  ((conv=>whnf);(repeat(refine And.intro ?_ ?_;(focus((first|omega|exact⟨rfl,True.intro⟩|exact⟨rfl,rfl,True.intro⟩|rfl|(simp only[List.length_set];first|omega|(refine⟨?_,?_⟩<;>omega)|(refine⟨?_,?_,?_⟩<;>omega))|(intro hg;(try simp only[bB]at hg);first|omega|(refine⟨?_,?_⟩<;>omega)|(refine⟨?_,?_,?_⟩<;>first|omega|(show _<_;(try simp only[List.length_set]);omega)|exact leT rfl))|(refine⟨?_,?_⟩<;>omega)|(refine⟨?_,?_,?_⟩<;>first|omega|(show _<_;(try simp only[List.length_set]);omega)|exact leT rfl)|(simp only[show rI.d=(0:Int)from rfl];omega));done));(conv=>whnf))))
  refine EvCall.plain Try.call38 (.v (.int .i64 (pick zs 2 7))) rfl (fun ρ W hp => pick_s _ zs 2 7 W (hI _ _ ρ W hp rfl) (by omega) (by omega) (by omega)) ?_
  ((conv=>whnf);(repeat(refine And.intro ?_ ?_;(focus((first|omega|exact⟨rfl,True.intro⟩|exact⟨rfl,rfl,True.intro⟩|rfl|(simp only[List.length_set];first|omega|(refine⟨?_,?_⟩<;>omega)|(refine⟨?_,?_,?_⟩<;>omega))|(intro hg;(try simp only[bB]at hg);first|omega|(refine⟨?_,?_⟩<;>omega)|(refine⟨?_,?_,?_⟩<;>first|omega|(show _<_;(try simp only[List.length_set]);omega)|exact leT rfl))|(refine⟨?_,?_⟩<;>omega)|(refine⟨?_,?_,?_⟩<;>first|omega|(show _<_;(try simp only[List.length_set]);omega)|exact leT rfl)|(simp only[show rI.d=(0:Int)from rfl];omega));done));(conv=>whnf))))
  obtain ⟨p, nm, hp3, hnm, hpn⟩ : ∃ (p : Nat) (nm : ByteArray), pick zs 3 2 = (p : Int) ∧ nameB nm = true ∧ (p = 0 ∧ nm = sCpu ∨ p = 1 ∧ nm = sMem) := by
    rcases (show pick zs 3 2 = 0 ∨ pick zs 3 2 = 1 by omega) with h3 | h3
    · exact ⟨0, sCpu, h3, nmCpu, .inl ⟨rfl, rfl⟩⟩
    · exact ⟨1, sMem, h3, nmMem, .inr ⟨rfl, rfl⟩⟩
  have hset := labsOf_set (pick zs 4 4)
  have hlab := fun W => labels_s (pick zs 4 4) W ⟨by omega, by omega⟩
  generalize labsOf (pick zs 4 4) = l at *
  refine EvDraw.meet (.q 0 (.q 1 (.q 5 (.q 8 (.n 2 true (.q 3 (.q 4 (.n 6 false (.n 7 false (.q 9 (.n 10 false (.n 11 true (.z) (.e)) (.e))) (.n 10 false (.n 7 false (.q 9 (.n 11 true (.z) (.e))) (.e)) (.e))) (.n 10 false (.n 6 false (.n 7 false (.q 9 (.n 11 true (.z) (.e))) (.e)) (.e)) (.e))))) (.n 10 false (.n 2 true (.q 3 (.q 4 (.n 6 false (.n 7 false (.q 9 (.n 11 true (.z) (.e))) (.e)) (.e)))) (.e)) (.e))))))) (by kernel_rfl) (α := Nat) (fun c' => l.length ≤ c' ∧ c' ≤ 9223372036854775807)
    (fun c' => [(0, [], .s 0 1 zs.length c), (2, [], .p 1 0), (4, [], .v (.int .i64 (pick zs 0 10 - 9))), (5, [], .v (.int .i64 (pick zs 1 5 - 3))), (6, [], .v (.int .i64 (pick zs 2 7))), (7, [], .p 3 0)])
    (fun c' => [⟨3, true, 27, 12, 1, .cs (dcS nm (.s 4 2 l.length c') ⟨1, 0, 0, 0, 0, 0, 0, 0, 0, 0⟩)⟩, ⟨4, true, 101, 2, c', .rows _ rL l⟩, ⟨1, true, 27, 12, 1, .cs (dcS ByteArray.empty (.v (.slice none 0 0)) ⟨0, 0, 0, 0, 0, 0, 0, 0, 0, 0⟩)⟩, ⟨0, false, 3, 1, c, .rows Int rI zs⟩]) 5 ?_ ?_
  · rcases hpn with ⟨rfl, rfl⟩ | ⟨rfl, rfl⟩
    all_goals
      ((conv=>whnf);(repeat(refine And.intro ?_ ?_;(focus((first|omega|exact⟨rfl,True.intro⟩|exact⟨rfl,rfl,True.intro⟩|rfl|(simp only[List.length_set];first|omega|(refine⟨?_,?_⟩<;>omega)|(refine⟨?_,?_,?_⟩<;>omega))|(intro hg;(try simp only[bB]at hg);first|omega|(refine⟨?_,?_⟩<;>omega)|(refine⟨?_,?_,?_⟩<;>first|omega|(show _<_;(try simp only[List.length_set]);omega)|exact leT rfl))|(refine⟨?_,?_⟩<;>omega)|(refine⟨?_,?_,?_⟩<;>first|omega|(show _<_;(try simp only[List.length_set]);omega)|exact leT rfl)|(simp only[show rI.d=(0:Int)from rfl];omega));done));(conv=>whnf))))
      repeat' (first
        | (refine ⟨_, ⟨by assumption, by assumption⟩, Sub.of [] [] rfl ?_⟩; ((repeat' (refine And.intro ?_ ?_)) <;> first | rfl | exact True.intro | omega))
        | (refine ⟨_, ⟨by assumption, by assumption⟩, Sub.of [(3, 4), (4, 3)] [] rfl ?_⟩; ((repeat' (refine And.intro ?_ ?_)) <;> first | rfl | exact True.intro | omega))
        | (refine EvCall.plain Try.call38 (.v (.int .i64 _)) rfl (fun ρ W hp => by have := pick_s _ zs 3 2 W (hI _ _ ρ W hp rfl) (by omega) (by omega) (by omega); rw [show (3 : Int).toNat = 3 from rfl, hp3] at this; exact this) ?_; ((conv=>whnf);(repeat(refine And.intro ?_ ?_;(focus((first|omega|exact⟨rfl,True.intro⟩|exact⟨rfl,rfl,True.intro⟩|rfl|(simp only[List.length_set];first|omega|(refine⟨?_,?_⟩<;>omega)|(refine⟨?_,?_,?_⟩<;>omega))|(intro hg;(try simp only[bB]at hg);first|omega|(refine⟨?_,?_⟩<;>omega)|(refine⟨?_,?_,?_⟩<;>first|omega|(show _<_;(try simp only[List.length_set]);omega)|exact leT rfl))|(refine⟨?_,?_⟩<;>omega)|(refine⟨?_,?_,?_⟩<;>first|omega|(show _<_;(try simp only[List.length_set]);omega)|exact leT rfl)|(simp only[show rI.d=(0:Int)from rfl];omega));done));(conv=>whnf)))))
        | (refine EvCall.plain Try.call38 (.v (.int .i64 (pick zs 4 4))) rfl (fun ρ W hp => pick_s _ zs 4 4 W (hI _ _ ρ W hp rfl) (by omega) (by omega) (by omega)) ?_; ((conv=>whnf);(repeat(refine And.intro ?_ ?_;(focus((first|omega|exact⟨rfl,True.intro⟩|exact⟨rfl,rfl,True.intro⟩|rfl|(simp only[List.length_set];first|omega|(refine⟨?_,?_⟩<;>omega)|(refine⟨?_,?_,?_⟩<;>omega))|(intro hg;(try simp only[bB]at hg);first|omega|(refine⟨?_,?_⟩<;>omega)|(refine⟨?_,?_,?_⟩<;>first|omega|(show _<_;(try simp only[List.length_set]);omega)|exact leT rfl))|(refine⟨?_,?_⟩<;>omega)|(refine⟨?_,?_,?_⟩<;>first|omega|(show _<_;(try simp only[List.length_set]);omega)|exact leT rfl)|(simp only[show rI.d=(0:Int)from rfl];omega));done));(conv=>whnf)))))
        | (refine EvCall.rows (R := rL) Try.call39 (fun ρ W hp => hlab W) (fun c' hc1 hc2 => ?_); ((conv=>whnf);(repeat(refine And.intro ?_ ?_;(focus((first|omega|exact⟨rfl,True.intro⟩|exact⟨rfl,rfl,True.intro⟩|rfl|(simp only[List.length_set];first|omega|(refine⟨?_,?_⟩<;>omega)|(refine⟨?_,?_,?_⟩<;>omega))|(intro hg;(try simp only[bB]at hg);first|omega|(refine⟨?_,?_⟩<;>omega)|(refine⟨?_,?_,?_⟩<;>first|omega|(show _<_;(try simp only[List.length_set]);omega)|exact leT rfl))|(refine⟨?_,?_⟩<;>omega)|(refine⟨?_,?_,?_⟩<;>first|omega|(show _<_;(try simp only[List.length_set]);omega)|exact leT rfl)|(simp only[show rI.d=(0:Int)from rfl];omega));done));(conv=>whnf)))))
        | (refine And.intro ?_ ?_ <;> ((conv=>whnf);(repeat(refine And.intro ?_ ?_;(focus((first|omega|exact⟨rfl,True.intro⟩|exact⟨rfl,rfl,True.intro⟩|rfl|(simp only[List.length_set];first|omega|(refine⟨?_,?_⟩<;>omega)|(refine⟨?_,?_,?_⟩<;>omega))|(intro hg;(try simp only[bB]at hg);first|omega|(refine⟨?_,?_⟩<;>omega)|(refine⟨?_,?_,?_⟩<;>first|omega|(show _<_;(try simp only[List.length_set]);omega)|exact leT rfl))|(refine⟨?_,?_⟩<;>omega)|(refine⟨?_,?_,?_⟩<;>first|omega|(show _<_;(try simp only[List.length_set]);omega)|exact leT rfl)|(simp only[show rI.d=(0:Int)from rfl];omega));done));(conv=>whnf))))))
  · intro c' hc'
    ((conv=>whnf);(repeat(refine And.intro ?_ ?_;(focus((first|omega|exact⟨rfl,True.intro⟩|exact⟨rfl,rfl,True.intro⟩|rfl|(simp only[List.length_set];first|omega|(refine⟨?_,?_⟩<;>omega)|(refine⟨?_,?_,?_⟩<;>omega))|(intro hg;(try simp only[bB]at hg);first|omega|(refine⟨?_,?_⟩<;>omega)|(refine⟨?_,?_,?_⟩<;>first|omega|(show _<_;(try simp only[List.length_set]);omega)|exact leT rfl))|(refine⟨?_,?_⟩<;>omega)|(refine⟨?_,?_,?_⟩<;>first|omega|(show _<_;(try simp only[List.length_set]);omega)|exact leT rfl)|(simp only[show rI.d=(0:Int)from rfl];omega));done));(conv=>whnf))))
    refine EvCall.plain Try.call38 (.v (.int .i64 (pick zs 5 17))) rfl (fun ρ W hp => pick_s _ zs 5 17 W (hI _ _ ρ W hp rfl) (by omega) (by omega) (by omega)) ?_
    ((conv=>whnf);(repeat(refine And.intro ?_ ?_;(focus((first|omega|exact⟨rfl,True.intro⟩|exact⟨rfl,rfl,True.intro⟩|rfl|(simp only[List.length_set];first|omega|(refine⟨?_,?_⟩<;>omega)|(refine⟨?_,?_,?_⟩<;>omega))|(intro hg;(try simp only[bB]at hg);first|omega|(refine⟨?_,?_⟩<;>omega)|(refine⟨?_,?_,?_⟩<;>first|omega|(show _<_;(try simp only[List.length_set]);omega)|exact leT rfl))|(refine⟨?_,?_⟩<;>omega)|(refine⟨?_,?_,?_⟩<;>first|omega|(show _<_;(try simp only[List.length_set]);omega)|exact leT rfl)|(simp only[show rI.d=(0:Int)from rfl];omega));done));(conv=>whnf))))
    refine EvCall.plain Try.call38 (.v (.int .i64 (pick zs 6 4))) rfl (fun ρ W hp => pick_s _ zs 6 4 W (hI _ _ ρ W hp rfl) (by omega) (by omega) (by omega)) ?_
    ((conv=>whnf);(repeat(refine And.intro ?_ ?_;(focus((first|omega|exact⟨rfl,True.intro⟩|exact⟨rfl,rfl,True.intro⟩|rfl|(simp only[List.length_set];first|omega|(refine⟨?_,?_⟩<;>omega)|(refine⟨?_,?_,?_⟩<;>omega))|(intro hg;(try simp only[bB]at hg);first|omega|(refine⟨?_,?_⟩<;>omega)|(refine⟨?_,?_,?_⟩<;>first|omega|(show _<_;(try simp only[List.length_set]);omega)|exact leT rfl))|(refine⟨?_,?_⟩<;>omega)|(refine⟨?_,?_,?_⟩<;>first|omega|(show _<_;(try simp only[List.length_set]);omega)|exact leT rfl)|(simp only[show rI.d=(0:Int)from rfl];omega));done));(conv=>whnf))))
    refine EvCall.plain Try.call38 (.v (.int .i64 (pick zs 7 14))) rfl (fun ρ W hp => pick_s _ zs 7 14 W (hI _ _ ρ W hp rfl) (by omega) (by omega) (by omega)) ?_
    ((conv=>whnf);(repeat(refine And.intro ?_ ?_;(focus((first|omega|exact⟨rfl,True.intro⟩|exact⟨rfl,rfl,True.intro⟩|rfl|(simp only[List.length_set];first|omega|(refine⟨?_,?_⟩<;>omega)|(refine⟨?_,?_,?_⟩<;>omega))|(intro hg;(try simp only[bB]at hg);first|omega|(refine⟨?_,?_⟩<;>omega)|(refine⟨?_,?_,?_⟩<;>first|omega|(show _<_;(try simp only[List.length_set]);omega)|exact leT rfl))|(refine⟨?_,?_⟩<;>omega)|(refine⟨?_,?_,?_⟩<;>first|omega|(show _<_;(try simp only[List.length_set]);omega)|exact leT rfl)|(simp only[show rI.d=(0:Int)from rfl];omega));done));(conv=>whnf))))
    refine EvCall.plain Try.call38 (.v (.int .i64 (pick zs 8 40))) rfl (fun ρ W hp => pick_s _ zs 8 40 W (hI _ _ ρ W hp rfl) (by omega) (by omega) (by omega)) ?_
    ((conv=>whnf);(repeat(refine And.intro ?_ ?_;(focus((first|omega|exact⟨rfl,True.intro⟩|exact⟨rfl,rfl,True.intro⟩|rfl|(simp only[List.length_set];first|omega|(refine⟨?_,?_⟩<;>omega)|(refine⟨?_,?_,?_⟩<;>omega))|(intro hg;(try simp only[bB]at hg);first|omega|(refine⟨?_,?_⟩<;>omega)|(refine⟨?_,?_,?_⟩<;>first|omega|(show _<_;(try simp only[List.length_set]);omega)|exact leT rfl))|(refine⟨?_,?_⟩<;>omega)|(refine⟨?_,?_,?_⟩<;>first|omega|(show _<_;(try simp only[List.length_set]);omega)|exact leT rfl)|(simp only[show rI.d=(0:Int)from rfl];omega));done));(conv=>whnf))))
    exact EvRet.decl (d := declOf zs) hnm hset hc'.1 rfl rfl
end Go.Proofs.Ytpnngbfmmjjnaaa
namespace Go.Proofs.Ytpnngbfmmjjnaaa
open Go.RowKit
set_option linter.unusedVariables false
set_option linter.unusedSimpArgs false

def bent (d : Dc) (k n : Int) : Dc :=
  if k = 0 then { d with u0 := n } else if k = 1 then { d with u1 := n } else if k = 2 then { d with u2 := n } else if k = 3 then { d with lo := n } else if k = 4 then { d with hi := n }
  else if k = 5 then { d with down := n } else if k = 6 then { d with up := n } else if k = 7 then { d with first := n } else if k = 8 then { d with last := n } else { d with budget := n }
/-- What Valid returns for a declaration whose name and labels are valid. -/
def badRange (d : Dc) : Prop := d.lo < -1073741824 ∨ d.hi < d.lo ∨ 1073741824 < d.hi ∨ d.down < -1048576 ∨ d.up < d.down ∨ 1048576 < d.up ∨ d.budget < 0 ∨ 1073741824 < d.budget
def badUnit (d : Dc) : Prop := d.u0 < -3 ∨ 3 < d.u0 ∨ d.u1 < -3 ∨ 3 < d.u1 ∨ d.u2 < -3 ∨ 3 < d.u2
def badLife (d : Dc) : Prop := d.first < 0 ∨ d.last < d.first ∨ 1048576 < d.last ∨ 4096 ≤ d.last - d.first
instance (d : Dc) : Decidable (badRange d) := by unfold badRange; infer_instance
instance (d : Dc) : Decidable (badUnit d) := by unfold badUnit; infer_instance
instance (d : Dc) : Decidable (badLife d) := by unfold badLife; infer_instance
def validCode (d : Dc) : Int := if badRange d then 5 else if badUnit d ∨ badLife d then 4 else 0
theorem vc0 {d : Dc} (h1 : ¬ badRange d) (h2 : ¬ badUnit d) (h3 : ¬ badLife d) : validCode d = 0 := by simp [validCode, h1, h2, h3]
theorem vc5 {d : Dc} (h1 : badRange d) : validCode d = 5 := by simp [validCode, h1]
theorem vc4 {d : Dc} (h1 : ¬ badRange d) (h2 : badUnit d ∨ badLife d) : validCode d = 4 := by
  unfold validCode
  rw [if_neg h1, if_pos h2]
theorem valid_bounds {d : Dc} (h : validCode d = 0) : (-1073741824 ≤ d.lo ∧ d.lo ≤ d.hi ∧ d.hi ≤ 1073741824 ∧ -1048576 ≤ d.down ∧ d.down ≤ d.up ∧ d.up ≤ 1048576) ∧ (0 ≤ d.first ∧ d.first ≤ d.last ∧ d.last ≤ 1048576 ∧ d.last - d.first < 4096) := by
  unfold validCode at h
  split at h
  · omega
  · split at h
    · omega
    · rename_i h1 h2
      simp only [badRange, badLife, badUnit] at h1 h2
      omega
/-- Each number is an int of Go's. -/
def DcI (d : Dc) : Prop := I64 d.u0 ∧ I64 d.u1 ∧ I64 d.u2 ∧ I64 d.lo ∧ I64 d.hi ∧ I64 d.down ∧ I64 d.up ∧ I64 d.first ∧ I64 d.last ∧ I64 d.budget
theorem ret_code {w : Ref} {L : List Ob} {nx : Nat} {a b : Int} (h : b = a) : EvRet w (Ret w.toWorld (.int .i64 b)) (.v (.int .i64 a)) L nx := EvRet.ret (fun _ => by rw [h]; rfl)

set_option maxRecDepth 10000 in
theorem bent_s (nm : ByteArray) (A : Option Addr) (ln c : Nat) (d : Dc) (at_ n : Int) (w : World) (ha : I64 at_) : Con Try.prog 36 #[.agg (dcCells nm (.slice A ln c) d), .int .i64 at_, .int .i64 n] w (Ret w (.agg (dcCells nm (.slice A ln c) (bent d (arnd at_ 10) n)))) := by
  have a0 := arnd_nn at_ 10 (by omega)
  have a1 := arnd_lt at_ 10 (by omega)
  refine enter tabOk mixed Try.func36 rfl Try.ntmps36 Try.results36 [.a (dcS nm (.v (.slice A ln c)) d), .v (.int .i64 at_), .v (.int .i64 n)] (fun _ => none) [] 0 rfl rfl (hp0 _ _ _) ?_
  ((conv=>whnf);(repeat(refine And.intro ?_ ?_;(focus((first|omega|exact⟨rfl,True.intro⟩|exact⟨rfl,rfl,True.intro⟩|rfl|(simp only[List.length_set];first|omega|(refine⟨?_,?_⟩<;>omega)|(refine⟨?_,?_,?_⟩<;>omega))|(intro hg;(try simp only[bB]at hg);first|omega|(refine⟨?_,?_⟩<;>omega)|(refine⟨?_,?_,?_⟩<;>first|omega|(show _<_;(try simp only[List.length_set]);omega)|exact leT rfl))|(refine⟨?_,?_⟩<;>omega)|(refine⟨?_,?_,?_⟩<;>first|omega|(show _<_;(try simp only[List.length_set]);omega)|exact leT rfl)|(simp only[show rI.d=(0:Int)from rfl];omega));done));(conv=>whnf))))
  refine EvCall.plain Try.call17 (.v (.int .i64 (arnd at_ 10))) rfl (fun ρ W hp => around_s _ _ _ ha (by omega) (by omega)) ?_
  ((conv=>whnf);(repeat(refine And.intro ?_ ?_;(focus((first|omega|exact⟨rfl,True.intro⟩|exact⟨rfl,rfl,True.intro⟩|rfl|(simp only[List.length_set];first|omega|(refine⟨?_,?_⟩<;>omega)|(refine⟨?_,?_,?_⟩<;>omega))|(intro hg;(try simp only[bB]at hg);first|omega|(refine⟨?_,?_⟩<;>omega)|(refine⟨?_,?_,?_⟩<;>first|omega|(show _<_;(try simp only[List.length_set]);omega)|exact leT rfl))|(refine⟨?_,?_⟩<;>omega)|(refine⟨?_,?_,?_⟩<;>first|omega|(show _<_;(try simp only[List.length_set]);omega)|exact leT rfl)|(simp only[show rI.d=(0:Int)from rfl];omega));done));(conv=>whnf))))
  generalize arnd at_ 10 = k at *
  iterate 9
    refine EvIf.split (fun h1 => ?_) (fun h1 => ?_)
    · simp only [decide_eq_true_eq] at h1
      ((conv=>whnf);(repeat(refine And.intro ?_ ?_;(focus((first|omega|exact⟨rfl,True.intro⟩|exact⟨rfl,rfl,True.intro⟩|rfl|(simp only[List.length_set];first|omega|(refine⟨?_,?_⟩<;>omega)|(refine⟨?_,?_,?_⟩<;>omega))|(intro hg;(try simp only[bB]at hg);first|omega|(refine⟨?_,?_⟩<;>omega)|(refine⟨?_,?_,?_⟩<;>first|omega|(show _<_;(try simp only[List.length_set]);omega)|exact leT rfl))|(refine⟨?_,?_⟩<;>omega)|(refine⟨?_,?_,?_⟩<;>first|omega|(show _<_;(try simp only[List.length_set]);omega)|exact leT rfl)|(simp only[show rI.d=(0:Int)from rfl];omega));done));(conv=>whnf))))
      refine EvRet.ret (fun ρ => ?_)
      subst h1
      rfl
    simp only [decide_eq_false_iff_not] at h1
    ((conv=>whnf);(repeat(refine And.intro ?_ ?_;(focus((first|omega|exact⟨rfl,True.intro⟩|exact⟨rfl,rfl,True.intro⟩|rfl|(simp only[List.length_set];first|omega|(refine⟨?_,?_⟩<;>omega)|(refine⟨?_,?_,?_⟩<;>omega))|(intro hg;(try simp only[bB]at hg);first|omega|(refine⟨?_,?_⟩<;>omega)|(refine⟨?_,?_,?_⟩<;>first|omega|(show _<_;(try simp only[List.length_set]);omega)|exact leT rfl))|(refine⟨?_,?_⟩<;>omega)|(refine⟨?_,?_,?_⟩<;>first|omega|(show _<_;(try simp only[List.length_set]);omega)|exact leT rfl)|(simp only[show rI.d=(0:Int)from rfl];omega));done));(conv=>whnf))))
  refine EvRet.ret (fun ρ => ?_)
  obtain rfl : k = 9 := by omega
  rfl
theorem exponents_s (u0 u1 u2 : Int) (w : World) : Con Try.prog 112 #[.agg #[.int .i64 u0, .int .i64 u1, .int .i64 u2]] w (Ret w (.bool (decide (¬ (u0 < -3 ∨ 3 < u0 ∨ u1 < -3 ∨ 3 < u1 ∨ u2 < -3 ∨ 3 < u2))))) := by
  refine enter tabOk mixed Try.func112 rfl Try.ntmps112 Try.results112 [.a [.v (.int .i64 u0), .v (.int .i64 u1), .v (.int .i64 u2)]] (fun _ => none) [] 0 rfl rfl (hp0 _ _ _) ?_
  ((conv=>whnf);(repeat(refine And.intro ?_ ?_;(focus((first|omega|exact⟨rfl,True.intro⟩|exact⟨rfl,rfl,True.intro⟩|rfl|(simp only[List.length_set];first|omega|(refine⟨?_,?_⟩<;>omega)|(refine⟨?_,?_,?_⟩<;>omega))|(intro hg;(try simp only[bB]at hg);first|omega|(refine⟨?_,?_⟩<;>omega)|(refine⟨?_,?_,?_⟩<;>first|omega|(show _<_;(try simp only[List.length_set]);omega)|exact leT rfl))|(refine⟨?_,?_⟩<;>omega)|(refine⟨?_,?_,?_⟩<;>first|omega|(show _<_;(try simp only[List.length_set]);omega)|exact leT rfl)|(simp only[show rI.d=(0:Int)from rfl];omega));done));(conv=>whnf))))
  refine EvLoop.rounds 4 ?_
  ((conv=>whnf);(repeat(refine And.intro ?_ ?_;(focus((first|omega|exact⟨rfl,True.intro⟩|exact⟨rfl,rfl,True.intro⟩|rfl|(simp only[List.length_set];first|omega|(refine⟨?_,?_⟩<;>omega)|(refine⟨?_,?_,?_⟩<;>omega))|(intro hg;(try simp only[bB]at hg);first|omega|(refine⟨?_,?_⟩<;>omega)|(refine⟨?_,?_,?_⟩<;>first|omega|(show _<_;(try simp only[List.length_set]);omega)|exact leT rfl))|(refine⟨?_,?_⟩<;>omega)|(refine⟨?_,?_,?_⟩<;>first|omega|(show _<_;(try simp only[List.length_set]);omega)|exact leT rfl)|(simp only[show rI.d=(0:Int)from rfl];omega));done));(conv=>whnf))))
  iterate 3
    refine EvIf.pos rfl ?_
    ((conv=>whnf);(repeat(refine And.intro ?_ ?_;(focus((first|omega|exact⟨rfl,True.intro⟩|exact⟨rfl,rfl,True.intro⟩|rfl|(simp only[List.length_set];first|omega|(refine⟨?_,?_⟩<;>omega)|(refine⟨?_,?_,?_⟩<;>omega))|(intro hg;(try simp only[bB]at hg);first|omega|(refine⟨?_,?_⟩<;>omega)|(refine⟨?_,?_,?_⟩<;>first|omega|(show _<_;(try simp only[List.length_set]);omega)|exact leT rfl))|(refine⟨?_,?_⟩<;>omega)|(refine⟨?_,?_,?_⟩<;>first|omega|(show _<_;(try simp only[List.length_set]);omega)|exact leT rfl)|(simp only[show rI.d=(0:Int)from rfl];omega));done));(conv=>whnf))))
    refine EvIf.split (fun h1 => ?_) (fun h1 => ?_)
    · simp only [Bool.or_eq_true, decide_eq_true_eq] at h1
      ((conv=>whnf);(repeat(refine And.intro ?_ ?_;(focus((first|omega|exact⟨rfl,True.intro⟩|exact⟨rfl,rfl,True.intro⟩|rfl|(simp only[List.length_set];first|omega|(refine⟨?_,?_⟩<;>omega)|(refine⟨?_,?_,?_⟩<;>omega))|(intro hg;(try simp only[bB]at hg);first|omega|(refine⟨?_,?_⟩<;>omega)|(refine⟨?_,?_,?_⟩<;>first|omega|(show _<_;(try simp only[List.length_set]);omega)|exact leT rfl))|(refine⟨?_,?_⟩<;>omega)|(refine⟨?_,?_,?_⟩<;>first|omega|(show _<_;(try simp only[List.length_set]);omega)|exact leT rfl)|(simp only[show rI.d=(0:Int)from rfl];omega));done));(conv=>whnf))))
      refine EvRet.ret (fun ρ => ?_)
      simp [den]
      omega
    simp only [Bool.or_eq_false_iff, decide_eq_false_iff_not] at h1
    ((conv=>whnf);(repeat(refine And.intro ?_ ?_;(focus((first|omega|exact⟨rfl,True.intro⟩|exact⟨rfl,rfl,True.intro⟩|rfl|(simp only[List.length_set];first|omega|(refine⟨?_,?_⟩<;>omega)|(refine⟨?_,?_,?_⟩<;>omega))|(intro hg;(try simp only[bB]at hg);first|omega|(refine⟨?_,?_⟩<;>omega)|(refine⟨?_,?_,?_⟩<;>first|omega|(show _<_;(try simp only[List.length_set]);omega)|exact leT rfl))|(refine⟨?_,?_⟩<;>omega)|(refine⟨?_,?_,?_⟩<;>first|omega|(show _<_;(try simp only[List.length_set]);omega)|exact leT rfl)|(simp only[show rI.d=(0:Int)from rfl];omega));done));(conv=>whnf))))
  refine EvIf.neg rfl ?_
  ((conv=>whnf);(repeat(refine And.intro ?_ ?_;(focus((first|omega|exact⟨rfl,True.intro⟩|exact⟨rfl,rfl,True.intro⟩|rfl|(simp only[List.length_set];first|omega|(refine⟨?_,?_⟩<;>omega)|(refine⟨?_,?_,?_⟩<;>omega))|(intro hg;(try simp only[bB]at hg);first|omega|(refine⟨?_,?_⟩<;>omega)|(refine⟨?_,?_,?_⟩<;>first|omega|(show _<_;(try simp only[List.length_set]);omega)|exact leT rfl))|(refine⟨?_,?_⟩<;>omega)|(refine⟨?_,?_,?_⟩<;>first|omega|(show _<_;(try simp only[List.length_set]);omega)|exact leT rfl)|(simp only[show rI.d=(0:Int)from rfl];omega));done));(conv=>whnf))))
  refine EvRet.ret (fun ρ => ?_)
  simp [den]
  omega
set_option maxRecDepth 10000 in
theorem decl_valid_s (V : Value) (d : Dc) (w : World) (h : DeclIs w V d) (hI : DcI d) : Con Try.prog 55 #[V] w (Ret w (.int .i64 (validCode d))) := by
  obtain ⟨nm, A, c, l, rfl, hnm, hl, hS⟩ := h
  obtain ⟨⟨a0, b0⟩, ⟨a1, b1⟩, ⟨a2, b2⟩, ⟨a3, b3⟩, ⟨a4, b4⟩, ⟨a5, b5⟩, ⟨a6, b6⟩, ⟨a7, b7⟩, ⟨a8, b8⟩, ⟨a9, b9⟩⟩ := hI
  have hns := nameB_size hnm
  refine enter tabOk mixed Try.func55 rfl Try.ntmps55 Try.results55 [.a (dcS nm (.v (.slice A l.length c)) d)] (fun _ => none) [] 0 rfl rfl (hp0 _ _ _) ?_
  ((conv=>whnf);(repeat(refine And.intro ?_ ?_;(focus((first|omega|exact⟨rfl,True.intro⟩|exact⟨rfl,rfl,True.intro⟩|rfl|(simp only[List.length_set];first|omega|(refine⟨?_,?_⟩<;>omega)|(refine⟨?_,?_,?_⟩<;>omega))|(intro hg;(try simp only[bB]at hg);first|omega|(refine⟨?_,?_⟩<;>omega)|(refine⟨?_,?_,?_⟩<;>first|omega|(show _<_;(try simp only[List.length_set]);omega)|exact leT rfl))|(refine⟨?_,?_⟩<;>omega)|(refine⟨?_,?_,?_⟩<;>first|omega|(show _<_;(try simp only[List.length_set]);omega)|exact leT rfl)|(simp only[show rI.d=(0:Int)from rfl];omega));done));(conv=>whnf))))
  refine EvCall.plain Try.call74 (.v (.bool true)) rfl (fun ρ W hp => ⟨by have := name_any nm W (by omega); rw [hnm] at this; exact this⟩) ?_
  ((conv=>whnf);(repeat(refine And.intro ?_ ?_;(focus((first|omega|exact⟨rfl,True.intro⟩|exact⟨rfl,rfl,True.intro⟩|rfl|(simp only[List.length_set];first|omega|(refine⟨?_,?_⟩<;>omega)|(refine⟨?_,?_,?_⟩<;>omega))|(intro hg;(try simp only[bB]at hg);first|omega|(refine⟨?_,?_⟩<;>omega)|(refine⟨?_,?_,?_⟩<;>first|omega|(show _<_;(try simp only[List.length_set]);omega)|exact leT rfl))|(refine⟨?_,?_⟩<;>omega)|(refine⟨?_,?_,?_⟩<;>first|omega|(show _<_;(try simp only[List.length_set]);omega)|exact leT rfl)|(simp only[show rI.d=(0:Int)from rfl];omega));done));(conv=>whnf))))
  refine EvCallC.plain Try.call75 (.v (.bool true)) rfl (fun _ ρ W hp => ⟨labels_valid _ l W (hS.below hp.bel) hl⟩) ?_
  ((conv=>whnf);(repeat(refine And.intro ?_ ?_;(focus((first|omega|exact⟨rfl,True.intro⟩|exact⟨rfl,rfl,True.intro⟩|rfl|(simp only[List.length_set];first|omega|(refine⟨?_,?_⟩<;>omega)|(refine⟨?_,?_,?_⟩<;>omega))|(intro hg;(try simp only[bB]at hg);first|omega|(refine⟨?_,?_⟩<;>omega)|(refine⟨?_,?_,?_⟩<;>first|omega|(show _<_;(try simp only[List.length_set]);omega)|exact leT rfl))|(refine⟨?_,?_⟩<;>omega)|(refine⟨?_,?_,?_⟩<;>first|omega|(show _<_;(try simp only[List.length_set]);omega)|exact leT rfl)|(simp only[show rI.d=(0:Int)from rfl];omega));done));(conv=>whnf))))
  refine EvIf.neg rfl ?_
  ((conv=>whnf);(repeat(refine And.intro ?_ ?_;(focus((first|omega|exact⟨rfl,True.intro⟩|exact⟨rfl,rfl,True.intro⟩|rfl|(simp only[List.length_set];first|omega|(refine⟨?_,?_⟩<;>omega)|(refine⟨?_,?_,?_⟩<;>omega))|(intro hg;(try simp only[bB]at hg);first|omega|(refine⟨?_,?_⟩<;>omega)|(refine⟨?_,?_,?_⟩<;>first|omega|(show _<_;(try simp only[List.length_set]);omega)|exact leT rfl))|(refine⟨?_,?_⟩<;>omega)|(refine⟨?_,?_,?_⟩<;>first|omega|(show _<_;(try simp only[List.length_set]);omega)|exact leT rfl)|(simp only[show rI.d=(0:Int)from rfl];omega));done));(conv=>whnf))))
  refine EvIf.split (fun h1 => ?_) (fun h1 => ?_)
  · simp only [Bool.or_eq_true, decide_eq_true_eq] at h1
    ((conv=>whnf);(repeat(refine And.intro ?_ ?_;(focus((first|omega|exact⟨rfl,True.intro⟩|exact⟨rfl,rfl,True.intro⟩|rfl|(simp only[List.length_set];first|omega|(refine⟨?_,?_⟩<;>omega)|(refine⟨?_,?_,?_⟩<;>omega))|(intro hg;(try simp only[bB]at hg);first|omega|(refine⟨?_,?_⟩<;>omega)|(refine⟨?_,?_,?_⟩<;>first|omega|(show _<_;(try simp only[List.length_set]);omega)|exact leT rfl))|(refine⟨?_,?_⟩<;>omega)|(refine⟨?_,?_,?_⟩<;>first|omega|(show _<_;(try simp only[List.length_set]);omega)|exact leT rfl)|(simp only[show rI.d=(0:Int)from rfl];omega));done));(conv=>whnf))))
    exact ret_code (vc5 (by unfold badRange; omega))
  simp only [Bool.or_eq_false_iff, decide_eq_false_iff_not] at h1
  ((conv=>whnf);(repeat(refine And.intro ?_ ?_;(focus((first|omega|exact⟨rfl,True.intro⟩|exact⟨rfl,rfl,True.intro⟩|rfl|(simp only[List.length_set];first|omega|(refine⟨?_,?_⟩<;>omega)|(refine⟨?_,?_,?_⟩<;>omega))|(intro hg;(try simp only[bB]at hg);first|omega|(refine⟨?_,?_⟩<;>omega)|(refine⟨?_,?_,?_⟩<;>first|omega|(show _<_;(try simp only[List.length_set]);omega)|exact leT rfl))|(refine⟨?_,?_⟩<;>omega)|(refine⟨?_,?_,?_⟩<;>first|omega|(show _<_;(try simp only[List.length_set]);omega)|exact leT rfl)|(simp only[show rI.d=(0:Int)from rfl];omega));done));(conv=>whnf))))
  refine EvIf.split (fun h2 => ?_) (fun h2 => ?_)
  · simp only [Bool.or_eq_true, decide_eq_true_eq] at h2
    ((conv=>whnf);(repeat(refine And.intro ?_ ?_;(focus((first|omega|exact⟨rfl,True.intro⟩|exact⟨rfl,rfl,True.intro⟩|rfl|(simp only[List.length_set];first|omega|(refine⟨?_,?_⟩<;>omega)|(refine⟨?_,?_,?_⟩<;>omega))|(intro hg;(try simp only[bB]at hg);first|omega|(refine⟨?_,?_⟩<;>omega)|(refine⟨?_,?_,?_⟩<;>first|omega|(show _<_;(try simp only[List.length_set]);omega)|exact leT rfl))|(refine⟨?_,?_⟩<;>omega)|(refine⟨?_,?_,?_⟩<;>first|omega|(show _<_;(try simp only[List.length_set]);omega)|exact leT rfl)|(simp only[show rI.d=(0:Int)from rfl];omega));done));(conv=>whnf))))
    exact ret_code (vc5 (by unfold badRange; omega))
  simp only [Bool.or_eq_false_iff, decide_eq_false_iff_not] at h2
  ((conv=>whnf);(repeat(refine And.intro ?_ ?_;(focus((first|omega|exact⟨rfl,True.intro⟩|exact⟨rfl,rfl,True.intro⟩|rfl|(simp only[List.length_set];first|omega|(refine⟨?_,?_⟩<;>omega)|(refine⟨?_,?_,?_⟩<;>omega))|(intro hg;(try simp only[bB]at hg);first|omega|(refine⟨?_,?_⟩<;>omega)|(refine⟨?_,?_,?_⟩<;>first|omega|(show _<_;(try simp only[List.length_set]);omega)|exact leT rfl))|(refine⟨?_,?_⟩<;>omega)|(refine⟨?_,?_,?_⟩<;>first|omega|(show _<_;(try simp only[List.length_set]);omega)|exact leT rfl)|(simp only[show rI.d=(0:Int)from rfl];omega));done));(conv=>whnf))))
  refine EvIf.split (fun h3 => ?_) (fun h3 => ?_)
  · simp only [Bool.or_eq_true, decide_eq_true_eq] at h3
    ((conv=>whnf);(repeat(refine And.intro ?_ ?_;(focus((first|omega|exact⟨rfl,True.intro⟩|exact⟨rfl,rfl,True.intro⟩|rfl|(simp only[List.length_set];first|omega|(refine⟨?_,?_⟩<;>omega)|(refine⟨?_,?_,?_⟩<;>omega))|(intro hg;(try simp only[bB]at hg);first|omega|(refine⟨?_,?_⟩<;>omega)|(refine⟨?_,?_,?_⟩<;>first|omega|(show _<_;(try simp only[List.length_set]);omega)|exact leT rfl))|(refine⟨?_,?_⟩<;>omega)|(refine⟨?_,?_,?_⟩<;>first|omega|(show _<_;(try simp only[List.length_set]);omega)|exact leT rfl)|(simp only[show rI.d=(0:Int)from rfl];omega));done));(conv=>whnf))))
    exact ret_code (vc5 (by unfold badRange; omega))
  simp only [Bool.or_eq_false_iff, decide_eq_false_iff_not] at h3
  have hR : ¬ badRange d := by unfold badRange; omega
  ((conv=>whnf);(repeat(refine And.intro ?_ ?_;(focus((first|omega|exact⟨rfl,True.intro⟩|exact⟨rfl,rfl,True.intro⟩|rfl|(simp only[List.length_set];first|omega|(refine⟨?_,?_⟩<;>omega)|(refine⟨?_,?_,?_⟩<;>omega))|(intro hg;(try simp only[bB]at hg);first|omega|(refine⟨?_,?_⟩<;>omega)|(refine⟨?_,?_,?_⟩<;>first|omega|(show _<_;(try simp only[List.length_set]);omega)|exact leT rfl))|(refine⟨?_,?_⟩<;>omega)|(refine⟨?_,?_,?_⟩<;>first|omega|(show _<_;(try simp only[List.length_set]);omega)|exact leT rfl)|(simp only[show rI.d=(0:Int)from rfl];omega));done));(conv=>whnf))))
  refine EvLoop.rounds 4 ?_
  ((conv=>whnf);(repeat(refine And.intro ?_ ?_;(focus((first|omega|exact⟨rfl,True.intro⟩|exact⟨rfl,rfl,True.intro⟩|rfl|(simp only[List.length_set];first|omega|(refine⟨?_,?_⟩<;>omega)|(refine⟨?_,?_,?_⟩<;>omega))|(intro hg;(try simp only[bB]at hg);first|omega|(refine⟨?_,?_⟩<;>omega)|(refine⟨?_,?_,?_⟩<;>first|omega|(show _<_;(try simp only[List.length_set]);omega)|exact leT rfl))|(refine⟨?_,?_⟩<;>omega)|(refine⟨?_,?_,?_⟩<;>first|omega|(show _<_;(try simp only[List.length_set]);omega)|exact leT rfl)|(simp only[show rI.d=(0:Int)from rfl];omega));done));(conv=>whnf))))
  iterate 3
    refine EvIf.pos rfl ?_
    ((conv=>whnf);(repeat(refine And.intro ?_ ?_;(focus((first|omega|exact⟨rfl,True.intro⟩|exact⟨rfl,rfl,True.intro⟩|rfl|(simp only[List.length_set];first|omega|(refine⟨?_,?_⟩<;>omega)|(refine⟨?_,?_,?_⟩<;>omega))|(intro hg;(try simp only[bB]at hg);first|omega|(refine⟨?_,?_⟩<;>omega)|(refine⟨?_,?_,?_⟩<;>first|omega|(show _<_;(try simp only[List.length_set]);omega)|exact leT rfl))|(refine⟨?_,?_⟩<;>omega)|(refine⟨?_,?_,?_⟩<;>first|omega|(show _<_;(try simp only[List.length_set]);omega)|exact leT rfl)|(simp only[show rI.d=(0:Int)from rfl];omega));done));(conv=>whnf))))
    refine EvIf.split (fun h4 => ?_) (fun h4 => ?_)
    · simp only [Bool.or_eq_true, decide_eq_true_eq] at h4
      ((conv=>whnf);(repeat(refine And.intro ?_ ?_;(focus((first|omega|exact⟨rfl,True.intro⟩|exact⟨rfl,rfl,True.intro⟩|rfl|(simp only[List.length_set];first|omega|(refine⟨?_,?_⟩<;>omega)|(refine⟨?_,?_,?_⟩<;>omega))|(intro hg;(try simp only[bB]at hg);first|omega|(refine⟨?_,?_⟩<;>omega)|(refine⟨?_,?_,?_⟩<;>first|omega|(show _<_;(try simp only[List.length_set]);omega)|exact leT rfl))|(refine⟨?_,?_⟩<;>omega)|(refine⟨?_,?_,?_⟩<;>first|omega|(show _<_;(try simp only[List.length_set]);omega)|exact leT rfl)|(simp only[show rI.d=(0:Int)from rfl];omega));done));(conv=>whnf))))
      exact ret_code (vc4 hR (.inl (by unfold badUnit; omega)))
    simp only [Bool.or_eq_false_iff, decide_eq_false_iff_not] at h4
    ((conv=>whnf);(repeat(refine And.intro ?_ ?_;(focus((first|omega|exact⟨rfl,True.intro⟩|exact⟨rfl,rfl,True.intro⟩|rfl|(simp only[List.length_set];first|omega|(refine⟨?_,?_⟩<;>omega)|(refine⟨?_,?_,?_⟩<;>omega))|(intro hg;(try simp only[bB]at hg);first|omega|(refine⟨?_,?_⟩<;>omega)|(refine⟨?_,?_,?_⟩<;>first|omega|(show _<_;(try simp only[List.length_set]);omega)|exact leT rfl))|(refine⟨?_,?_⟩<;>omega)|(refine⟨?_,?_,?_⟩<;>first|omega|(show _<_;(try simp only[List.length_set]);omega)|exact leT rfl)|(simp only[show rI.d=(0:Int)from rfl];omega));done));(conv=>whnf))))
  refine EvIf.neg rfl ?_
  ((conv=>whnf);(repeat(refine And.intro ?_ ?_;(focus((first|omega|exact⟨rfl,True.intro⟩|exact⟨rfl,rfl,True.intro⟩|rfl|(simp only[List.length_set];first|omega|(refine⟨?_,?_⟩<;>omega)|(refine⟨?_,?_,?_⟩<;>omega))|(intro hg;(try simp only[bB]at hg);first|omega|(refine⟨?_,?_⟩<;>omega)|(refine⟨?_,?_,?_⟩<;>first|omega|(show _<_;(try simp only[List.length_set]);omega)|exact leT rfl))|(refine⟨?_,?_⟩<;>omega)|(refine⟨?_,?_,?_⟩<;>first|omega|(show _<_;(try simp only[List.length_set]);omega)|exact leT rfl)|(simp only[show rI.d=(0:Int)from rfl];omega));done));(conv=>whnf))))
  have hU : ¬ badUnit d := by unfold badUnit; omega
  refine EvIf.split (fun h5 => ?_) (fun h5 => ?_)
  · simp only [Bool.or_eq_true, decide_eq_true_eq] at h5
    ((conv=>whnf);(repeat(refine And.intro ?_ ?_;(focus((first|omega|exact⟨rfl,True.intro⟩|exact⟨rfl,rfl,True.intro⟩|rfl|(simp only[List.length_set];first|omega|(refine⟨?_,?_⟩<;>omega)|(refine⟨?_,?_,?_⟩<;>omega))|(intro hg;(try simp only[bB]at hg);first|omega|(refine⟨?_,?_⟩<;>omega)|(refine⟨?_,?_,?_⟩<;>first|omega|(show _<_;(try simp only[List.length_set]);omega)|exact leT rfl))|(refine⟨?_,?_⟩<;>omega)|(refine⟨?_,?_,?_⟩<;>first|omega|(show _<_;(try simp only[List.length_set]);omega)|exact leT rfl)|(simp only[show rI.d=(0:Int)from rfl];omega));done));(conv=>whnf))))
    exact ret_code (vc4 hR (.inr (by unfold badLife; omega)))
  simp only [Bool.or_eq_false_iff, decide_eq_false_iff_not] at h5
  ((conv=>whnf);(repeat(refine And.intro ?_ ?_;(focus((first|omega|exact⟨rfl,True.intro⟩|exact⟨rfl,rfl,True.intro⟩|rfl|(simp only[List.length_set];first|omega|(refine⟨?_,?_⟩<;>omega)|(refine⟨?_,?_,?_⟩<;>omega))|(intro hg;(try simp only[bB]at hg);first|omega|(refine⟨?_,?_⟩<;>omega)|(refine⟨?_,?_,?_⟩<;>first|omega|(show _<_;(try simp only[List.length_set]);omega)|exact leT rfl))|(refine⟨?_,?_⟩<;>omega)|(refine⟨?_,?_,?_⟩<;>first|omega|(show _<_;(try simp only[List.length_set]);omega)|exact leT rfl)|(simp only[show rI.d=(0:Int)from rfl];omega));done));(conv=>whnf))))
  exact ret_code (vc0 hR hU (by unfold badLife; omega))
set_option maxRecDepth 10000 in
theorem ref_decl_valid_s (V : Value) (d : Dc) (w : World) (h : DeclIs w V d) (hI : DcI d) : Con Try.prog 93 #[V] w (Ret w (.int .i64 (validCode d))) := by
  obtain ⟨nm, A, c, l, rfl, hnm, hl, hS⟩ := h
  obtain ⟨⟨a0, b0⟩, ⟨a1, b1⟩, ⟨a2, b2⟩, ⟨a3, b3⟩, ⟨a4, b4⟩, ⟨a5, b5⟩, ⟨a6, b6⟩, ⟨a7, b7⟩, ⟨a8, b8⟩, ⟨a9, b9⟩⟩ := hI
  have hns := nameB_size hnm
  refine enter tabOk mixed Try.func93 rfl Try.ntmps93 Try.results93 [.a (dcS nm (.v (.slice A l.length c)) d)] (fun _ => none) [] 0 rfl rfl (hp0 _ _ _) ?_
  ((conv=>whnf);(repeat(refine And.intro ?_ ?_;(focus((first|omega|exact⟨rfl,True.intro⟩|exact⟨rfl,rfl,True.intro⟩|rfl|(simp only[List.length_set];first|omega|(refine⟨?_,?_⟩<;>omega)|(refine⟨?_,?_,?_⟩<;>omega))|(intro hg;(try simp only[bB]at hg);first|omega|(refine⟨?_,?_⟩<;>omega)|(refine⟨?_,?_,?_⟩<;>first|omega|(show _<_;(try simp only[List.length_set]);omega)|exact leT rfl))|(refine⟨?_,?_⟩<;>omega)|(refine⟨?_,?_,?_⟩<;>first|omega|(show _<_;(try simp only[List.length_set]);omega)|exact leT rfl)|(simp only[show rI.d=(0:Int)from rfl];omega));done));(conv=>whnf))))
  refine EvCall.plain Try.call110 (.v (.bool true)) rfl (fun ρ W hp => ⟨by have := ref_name_any nm W (by omega); rw [hnm] at this; exact this.mono fun _ _ h => ⟨h.1, by rw [h.2]; exact Below.refl _ _⟩⟩) ?_
  ((conv=>whnf);(repeat(refine And.intro ?_ ?_;(focus((first|omega|exact⟨rfl,True.intro⟩|exact⟨rfl,rfl,True.intro⟩|rfl|(simp only[List.length_set];first|omega|(refine⟨?_,?_⟩<;>omega)|(refine⟨?_,?_,?_⟩<;>omega))|(intro hg;(try simp only[bB]at hg);first|omega|(refine⟨?_,?_⟩<;>omega)|(refine⟨?_,?_,?_⟩<;>first|omega|(show _<_;(try simp only[List.length_set]);omega)|exact leT rfl))|(refine⟨?_,?_⟩<;>omega)|(refine⟨?_,?_,?_⟩<;>first|omega|(show _<_;(try simp only[List.length_set]);omega)|exact leT rfl)|(simp only[show rI.d=(0:Int)from rfl];omega));done));(conv=>whnf))))
  refine EvCall.plain Try.call111 (.v (.bool true)) rfl (fun ρ W hp => ⟨ref_labels_valid _ l W (hS.below hp.bel) hl⟩) ?_
  ((conv=>whnf);(repeat(refine And.intro ?_ ?_;(focus((first|omega|exact⟨rfl,True.intro⟩|exact⟨rfl,rfl,True.intro⟩|rfl|(simp only[List.length_set];first|omega|(refine⟨?_,?_⟩<;>omega)|(refine⟨?_,?_,?_⟩<;>omega))|(intro hg;(try simp only[bB]at hg);first|omega|(refine⟨?_,?_⟩<;>omega)|(refine⟨?_,?_,?_⟩<;>first|omega|(show _<_;(try simp only[List.length_set]);omega)|exact leT rfl))|(refine⟨?_,?_⟩<;>omega)|(refine⟨?_,?_,?_⟩<;>first|omega|(show _<_;(try simp only[List.length_set]);omega)|exact leT rfl)|(simp only[show rI.d=(0:Int)from rfl];omega));done));(conv=>whnf))))
  refine EvIf.neg rfl ?_
  ((conv=>whnf);(repeat(refine And.intro ?_ ?_;(focus((first|omega|exact⟨rfl,True.intro⟩|exact⟨rfl,rfl,True.intro⟩|rfl|(simp only[List.length_set];first|omega|(refine⟨?_,?_⟩<;>omega)|(refine⟨?_,?_,?_⟩<;>omega))|(intro hg;(try simp only[bB]at hg);first|omega|(refine⟨?_,?_⟩<;>omega)|(refine⟨?_,?_,?_⟩<;>first|omega|(show _<_;(try simp only[List.length_set]);omega)|exact leT rfl))|(refine⟨?_,?_⟩<;>omega)|(refine⟨?_,?_,?_⟩<;>first|omega|(show _<_;(try simp only[List.length_set]);omega)|exact leT rfl)|(simp only[show rI.d=(0:Int)from rfl];omega));done));(conv=>whnf))))
  refine EvIf.split (fun h1 => ?_) (fun h1 => ?_)
  · simp only [Bool.or_eq_true, decide_eq_true_eq] at h1
    ((conv=>whnf);(repeat(refine And.intro ?_ ?_;(focus((first|omega|exact⟨rfl,True.intro⟩|exact⟨rfl,rfl,True.intro⟩|rfl|(simp only[List.length_set];first|omega|(refine⟨?_,?_⟩<;>omega)|(refine⟨?_,?_,?_⟩<;>omega))|(intro hg;(try simp only[bB]at hg);first|omega|(refine⟨?_,?_⟩<;>omega)|(refine⟨?_,?_,?_⟩<;>first|omega|(show _<_;(try simp only[List.length_set]);omega)|exact leT rfl))|(refine⟨?_,?_⟩<;>omega)|(refine⟨?_,?_,?_⟩<;>first|omega|(show _<_;(try simp only[List.length_set]);omega)|exact leT rfl)|(simp only[show rI.d=(0:Int)from rfl];omega));done));(conv=>whnf))))
    exact ret_code (vc5 (by unfold badRange; omega))
  simp only [Bool.or_eq_false_iff, decide_eq_false_iff_not] at h1
  have hR : ¬ badRange d := by unfold badRange; omega
  ((conv=>whnf);(repeat(refine And.intro ?_ ?_;(focus((first|omega|exact⟨rfl,True.intro⟩|exact⟨rfl,rfl,True.intro⟩|rfl|(simp only[List.length_set];first|omega|(refine⟨?_,?_⟩<;>omega)|(refine⟨?_,?_,?_⟩<;>omega))|(intro hg;(try simp only[bB]at hg);first|omega|(refine⟨?_,?_⟩<;>omega)|(refine⟨?_,?_,?_⟩<;>first|omega|(show _<_;(try simp only[List.length_set]);omega)|exact leT rfl))|(refine⟨?_,?_⟩<;>omega)|(refine⟨?_,?_,?_⟩<;>first|omega|(show _<_;(try simp only[List.length_set]);omega)|exact leT rfl)|(simp only[show rI.d=(0:Int)from rfl];omega));done));(conv=>whnf))))
  refine EvCall.plain Try.call112 (.v (.bool (decide (¬ (d.u0 < -3 ∨ 3 < d.u0 ∨ d.u1 < -3 ∨ 3 < d.u1 ∨ d.u2 < -3 ∨ 3 < d.u2))))) rfl (fun ρ W hp => exponents_s _ _ _ _) ?_
  ((conv=>whnf);(repeat(refine And.intro ?_ ?_;(focus((first|omega|exact⟨rfl,True.intro⟩|exact⟨rfl,rfl,True.intro⟩|rfl|(simp only[List.length_set];first|omega|(refine⟨?_,?_⟩<;>omega)|(refine⟨?_,?_,?_⟩<;>omega))|(intro hg;(try simp only[bB]at hg);first|omega|(refine⟨?_,?_⟩<;>omega)|(refine⟨?_,?_,?_⟩<;>first|omega|(show _<_;(try simp only[List.length_set]);omega)|exact leT rfl))|(refine⟨?_,?_⟩<;>omega)|(refine⟨?_,?_,?_⟩<;>first|omega|(show _<_;(try simp only[List.length_set]);omega)|exact leT rfl)|(simp only[show rI.d=(0:Int)from rfl];omega));done));(conv=>whnf))))
  refine EvIf.split (fun h5 => ?_) (fun h5 => ?_)
  · simp only [Bool.or_eq_true, Bool.not_eq_true', decide_eq_true_eq, decide_eq_false_iff_not] at h5
    ((conv=>whnf);(repeat(refine And.intro ?_ ?_;(focus((first|omega|exact⟨rfl,True.intro⟩|exact⟨rfl,rfl,True.intro⟩|rfl|(simp only[List.length_set];first|omega|(refine⟨?_,?_⟩<;>omega)|(refine⟨?_,?_,?_⟩<;>omega))|(intro hg;(try simp only[bB]at hg);first|omega|(refine⟨?_,?_⟩<;>omega)|(refine⟨?_,?_,?_⟩<;>first|omega|(show _<_;(try simp only[List.length_set]);omega)|exact leT rfl))|(refine⟨?_,?_⟩<;>omega)|(refine⟨?_,?_,?_⟩<;>first|omega|(show _<_;(try simp only[List.length_set]);omega)|exact leT rfl)|(simp only[show rI.d=(0:Int)from rfl];omega));done));(conv=>whnf))))
    refine ret_code (vc4 hR ?_)
    unfold badLife badUnit
    omega
  simp only [Bool.or_eq_false_iff, Bool.not_eq_false', decide_eq_true_eq, decide_eq_false_iff_not] at h5
  ((conv=>whnf);(repeat(refine And.intro ?_ ?_;(focus((first|omega|exact⟨rfl,True.intro⟩|exact⟨rfl,rfl,True.intro⟩|rfl|(simp only[List.length_set];first|omega|(refine⟨?_,?_⟩<;>omega)|(refine⟨?_,?_,?_⟩<;>omega))|(intro hg;(try simp only[bB]at hg);first|omega|(refine⟨?_,?_⟩<;>omega)|(refine⟨?_,?_,?_⟩<;>first|omega|(show _<_;(try simp only[List.length_set]);omega)|exact leT rfl))|(refine⟨?_,?_⟩<;>omega)|(refine⟨?_,?_,?_⟩<;>first|omega|(show _<_;(try simp only[List.length_set]);omega)|exact leT rfl)|(simp only[show rI.d=(0:Int)from rfl];omega));done));(conv=>whnf))))
  exact ret_code (vc0 hR (by unfold badUnit; omega) (by unfold badLife; omega))
def lowV (d : Dc) (s t x : Int) : Int := if s ≤ t then x + d.down * (t - s) else x - d.up * (s - t)
def highV (d : Dc) (s t x : Int) : Int := if s ≤ t then x + d.up * (t - s) else x - d.down * (s - t)
/-- Small enough that no sum leaves 64 bits. -/
def DcS (d : Dc) : Prop := -1048576 ≤ d.down ∧ d.down ≤ 1048576 ∧ -1048576 ≤ d.up ∧ d.up ≤ 1048576
theorem mul_bd {a n A N : Int} (h1 : -A ≤ a) (h2 : a ≤ A) (h3 : 0 ≤ n) (h4 : n ≤ N) (hA : 0 ≤ A) : -(A * N) ≤ a * n ∧ a * n ≤ A * N := by
  have h5 : A * n ≤ A * N := Int.mul_le_mul_of_nonneg_left h4 hA
  have h6 : a * n ≤ A * n := Int.mul_le_mul_of_nonneg_right h2 h3
  have h7 : -A * n ≤ a * n := Int.mul_le_mul_of_nonneg_right h1 h3
  have h8 : -A * n = -(A * n) := Int.neg_mul A n
  omega
theorem low_s (nm : ByteArray) (A : Option Addr) (ln c : Nat) (d : Dc) (s t x : Int) (w : World) (hd : DcS d) (hs : 0 ≤ s ∧ s ≤ 1048576) (ht : 0 ≤ t ∧ t ≤ 1048576) (hx : -4611686018427387904 ≤ x ∧ x ≤ 4611686018427387904) :
    Con Try.prog 113 #[.agg (dcCells nm (.slice A ln c) d), .int .i64 s, .int .i64 t, .int .i64 x] w (Ret w (.int .i64 (lowV d s t x))) := by
  obtain ⟨q1, q2, q3, q4⟩ := hd
  refine enter tabOk mixed Try.func113 rfl Try.ntmps113 Try.results113 [.a (dcS nm (.v (.slice A ln c)) d), .v (.int .i64 s), .v (.int .i64 t), .v (.int .i64 x)] (fun _ => none) [] 0 rfl rfl (hp0 _ _ _) ?_
  ((conv=>whnf);(repeat(refine And.intro ?_ ?_;(focus((first|omega|exact⟨rfl,True.intro⟩|exact⟨rfl,rfl,True.intro⟩|rfl|(simp only[List.length_set];first|omega|(refine⟨?_,?_⟩<;>omega)|(refine⟨?_,?_,?_⟩<;>omega))|(intro hg;(try simp only[bB]at hg);first|omega|(refine⟨?_,?_⟩<;>omega)|(refine⟨?_,?_,?_⟩<;>first|omega|(show _<_;(try simp only[List.length_set]);omega)|exact leT rfl))|(refine⟨?_,?_⟩<;>omega)|(refine⟨?_,?_,?_⟩<;>first|omega|(show _<_;(try simp only[List.length_set]);omega)|exact leT rfl)|(simp only[show rI.d=(0:Int)from rfl];omega));done));(conv=>whnf))))
  refine EvIf.split (fun h1 => ?_) (fun h1 => ?_)
  · simp only [decide_eq_true_eq] at h1
    have m1 := mul_bd (a := d.down) (n := t - s) (A := 1048576) (N := 1048576) (by omega) (by omega) (by omega) (by omega) (by omega)
    ((conv=>whnf);(repeat(refine And.intro ?_ ?_;(focus((first|omega|exact⟨rfl,True.intro⟩|exact⟨rfl,rfl,True.intro⟩|rfl|(simp only[List.length_set];first|omega|(refine⟨?_,?_⟩<;>omega)|(refine⟨?_,?_,?_⟩<;>omega))|(intro hg;(try simp only[bB]at hg);first|omega|(refine⟨?_,?_⟩<;>omega)|(refine⟨?_,?_,?_⟩<;>first|omega|(show _<_;(try simp only[List.length_set]);omega)|exact leT rfl))|(refine⟨?_,?_⟩<;>omega)|(refine⟨?_,?_,?_⟩<;>first|omega|(show _<_;(try simp only[List.length_set]);omega)|exact leT rfl)|(simp only[show rI.d=(0:Int)from rfl];omega));done));(conv=>whnf))))
    exact ret_code (if_pos h1)
  · simp only [decide_eq_false_iff_not] at h1
    have m1 := mul_bd (a := d.up) (n := s - t) (A := 1048576) (N := 1048576) (by omega) (by omega) (by omega) (by omega) (by omega)
    ((conv=>whnf);(repeat(refine And.intro ?_ ?_;(focus((first|omega|exact⟨rfl,True.intro⟩|exact⟨rfl,rfl,True.intro⟩|rfl|(simp only[List.length_set];first|omega|(refine⟨?_,?_⟩<;>omega)|(refine⟨?_,?_,?_⟩<;>omega))|(intro hg;(try simp only[bB]at hg);first|omega|(refine⟨?_,?_⟩<;>omega)|(refine⟨?_,?_,?_⟩<;>first|omega|(show _<_;(try simp only[List.length_set]);omega)|exact leT rfl))|(refine⟨?_,?_⟩<;>omega)|(refine⟨?_,?_,?_⟩<;>first|omega|(show _<_;(try simp only[List.length_set]);omega)|exact leT rfl)|(simp only[show rI.d=(0:Int)from rfl];omega));done));(conv=>whnf))))
    exact ret_code (if_neg h1)
theorem high_s (nm : ByteArray) (A : Option Addr) (ln c : Nat) (d : Dc) (s t x : Int) (w : World) (hd : DcS d) (hs : 0 ≤ s ∧ s ≤ 1048576) (ht : 0 ≤ t ∧ t ≤ 1048576) (hx : -4611686018427387904 ≤ x ∧ x ≤ 4611686018427387904) :
    Con Try.prog 114 #[.agg (dcCells nm (.slice A ln c) d), .int .i64 s, .int .i64 t, .int .i64 x] w (Ret w (.int .i64 (highV d s t x))) := by
  obtain ⟨q1, q2, q3, q4⟩ := hd
  refine enter tabOk mixed Try.func114 rfl Try.ntmps114 Try.results114 [.a (dcS nm (.v (.slice A ln c)) d), .v (.int .i64 s), .v (.int .i64 t), .v (.int .i64 x)] (fun _ => none) [] 0 rfl rfl (hp0 _ _ _) ?_
  ((conv=>whnf);(repeat(refine And.intro ?_ ?_;(focus((first|omega|exact⟨rfl,True.intro⟩|exact⟨rfl,rfl,True.intro⟩|rfl|(simp only[List.length_set];first|omega|(refine⟨?_,?_⟩<;>omega)|(refine⟨?_,?_,?_⟩<;>omega))|(intro hg;(try simp only[bB]at hg);first|omega|(refine⟨?_,?_⟩<;>omega)|(refine⟨?_,?_,?_⟩<;>first|omega|(show _<_;(try simp only[List.length_set]);omega)|exact leT rfl))|(refine⟨?_,?_⟩<;>omega)|(refine⟨?_,?_,?_⟩<;>first|omega|(show _<_;(try simp only[List.length_set]);omega)|exact leT rfl)|(simp only[show rI.d=(0:Int)from rfl];omega));done));(conv=>whnf))))
  refine EvIf.split (fun h1 => ?_) (fun h1 => ?_)
  · simp only [decide_eq_true_eq] at h1
    have m1 := mul_bd (a := d.up) (n := t - s) (A := 1048576) (N := 1048576) (by omega) (by omega) (by omega) (by omega) (by omega)
    ((conv=>whnf);(repeat(refine And.intro ?_ ?_;(focus((first|omega|exact⟨rfl,True.intro⟩|exact⟨rfl,rfl,True.intro⟩|rfl|(simp only[List.length_set];first|omega|(refine⟨?_,?_⟩<;>omega)|(refine⟨?_,?_,?_⟩<;>omega))|(intro hg;(try simp only[bB]at hg);first|omega|(refine⟨?_,?_⟩<;>omega)|(refine⟨?_,?_,?_⟩<;>first|omega|(show _<_;(try simp only[List.length_set]);omega)|exact leT rfl))|(refine⟨?_,?_⟩<;>omega)|(refine⟨?_,?_,?_⟩<;>first|omega|(show _<_;(try simp only[List.length_set]);omega)|exact leT rfl)|(simp only[show rI.d=(0:Int)from rfl];omega));done));(conv=>whnf))))
    exact ret_code (if_pos h1)
  · simp only [decide_eq_false_iff_not] at h1
    have m1 := mul_bd (a := d.down) (n := s - t) (A := 1048576) (N := 1048576) (by omega) (by omega) (by omega) (by omega) (by omega)
    ((conv=>whnf);(repeat(refine And.intro ?_ ?_;(focus((first|omega|exact⟨rfl,True.intro⟩|exact⟨rfl,rfl,True.intro⟩|rfl|(simp only[List.length_set];first|omega|(refine⟨?_,?_⟩<;>omega)|(refine⟨?_,?_,?_⟩<;>omega))|(intro hg;(try simp only[bB]at hg);first|omega|(refine⟨?_,?_⟩<;>omega)|(refine⟨?_,?_,?_⟩<;>first|omega|(show _<_;(try simp only[List.length_set]);omega)|exact leT rfl))|(refine⟨?_,?_⟩<;>omega)|(refine⟨?_,?_,?_⟩<;>first|omega|(show _<_;(try simp only[List.length_set]);omega)|exact leT rfl)|(simp only[show rI.d=(0:Int)from rfl];omega));done));(conv=>whnf))))
    exact ret_code (if_neg h1)
theorem span_s (nm : ByteArray) (A : Option Addr) (ln c : Nat) (d : Dc) (w : World) (h1 : 0 ≤ d.first ∧ d.first ≤ 4611686018427387904) (h2 : 0 ≤ d.last ∧ d.last ≤ 4611686018427387904) : Con Try.prog 56 #[.agg (dcCells nm (.slice A ln c) d)] w (Ret w (.int .i64 (d.last - d.first + 1))) := by
  refine enter tabOk mixed Try.func56 rfl Try.ntmps56 Try.results56 [.a (dcS nm (.v (.slice A ln c)) d)] (fun _ => none) [] 0 rfl rfl (hp0 _ _ _) ?_
  ((conv=>whnf);(repeat(refine And.intro ?_ ?_;(focus((first|omega|exact⟨rfl,True.intro⟩|exact⟨rfl,rfl,True.intro⟩|rfl|(simp only[List.length_set];first|omega|(refine⟨?_,?_⟩<;>omega)|(refine⟨?_,?_,?_⟩<;>omega))|(intro hg;(try simp only[bB]at hg);first|omega|(refine⟨?_,?_⟩<;>omega)|(refine⟨?_,?_,?_⟩<;>first|omega|(show _<_;(try simp only[List.length_set]);omega)|exact leT rfl))|(refine⟨?_,?_⟩<;>omega)|(refine⟨?_,?_,?_⟩<;>first|omega|(show _<_;(try simp only[List.length_set]);omega)|exact leT rfl)|(simp only[show rI.d=(0:Int)from rfl];omega));done));(conv=>whnf))))
  exact ret_code rfl
end Go.Proofs.Ytpnngbfmmjjnaaa
