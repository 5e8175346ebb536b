/- Pick, Bound, Labels of the references. -/
import Derived.Test.YtofekfpbljihiaaDcl4
import Derived.Test.YtofekfpbljihiaaTab
import Derived.Test.YtofekfpbljihiaaSyi
namespace Go.Proofs.Ytofekfpbljihiaa
open Go.RowKit
set_option linter.unusedVariables false

def pick (zs : List Int) (i : Nat) (m : Int) : Int := if i < zs.length then arnd (zs.getD i 0) m else 0
theorem pick_nn (zs : List Int) (i : Nat) (m : Int) (h : 1 ≤ m) : 0 ≤ pick zs i m := by
  unfold pick
  split
  · exact arnd_nn _ _ h
  · omega
theorem pick_lt (zs : List Int) (i : Nat) (m : Int) (h : 1 ≤ m) : pick zs i m < m := by
  unfold pick
  split
  · exact arnd_lt _ _ h
  · omega
theorem Ints.i64 {w : World} {v : Value} {zs : List Int} (h : Ints w v zs) {k : Nat} (hk : k < zs.length) : I64 (zs.getD k 0) := by
  rw [List.getD_eq_getElem?_getD, List.getElem?_eq_getElem hk]
  exact h.2 _ (List.getElem_mem _)
theorem ret_of_eq {w : World} {v : Value} {e : Ending} {w' : World} (h : e = .returned v ∧ w' = w) : Ret w v e w' := ⟨h.1, by rw [h.2]; exact Below.refl _ _⟩
theorem around_s (n m : Int) (w : World) (hn : I64 n) (hm : 1 ≤ m) (hm2 : m ≤ 9223372036854775807) : Con Try.prog 19 #[.int .i64 n, .int .i64 m] w (Ret w (.int .i64 (arnd n m))) :=
  ⟨(around_any n m w hn hm hm2).mono fun _ _ h => ret_of_eq h⟩

theorem pick_s (v : Value) (zs : List Int) (i m : Int) (w : World) (h : Ints w v zs) (hm : 1 ≤ m) (hm2 : m ≤ 9223372036854775807) (hi : 0 ≤ i) : Con Try.prog 51 #[v, .int .i64 i, .int .i64 m] w (Ret w (.int .i64 (pick zs i.toNat m))) := by
  obtain ⟨A, c, rfl, e1, e2⟩ := h.form
  refine enter tabOk mixed Try.func51 rfl Try.ntmps51 Try.results51 [.s 0 1 zs.length c, .v (.int .i64 i), .v (.int .i64 m)] (fun _ => A) [⟨0, false, 3, 1, c, .rows Int rI zs⟩] 1 rfl rfl (.ro (hp0 _ _ _) _ rfl rfl rfl (ro_ints h rfl _)) ?_
  ((conv => whnf); (repeat (refine And.intro ?_ ?_; (focus ((first | omega | (intro hg; simp only [Bool.or_eq_false_iff, Bool.or_eq_true, Bool.and_eq_true, Bool.and_eq_false_iff, Bool.not_eq_true, Bool.not_eq_false, Bool.not_eq_true', Bool.not_eq_false', decide_eq_false_iff_not, decide_eq_true_eq] at hg; first | omega | (refine And.intro ?_ ?_ <;> omega) | (refine And.intro ?_ (And.intro ?_ ?_) <;> first | omega | (show _ < _; omega) | exact Nat.le_of_ble_eq_true rfl)) | (refine And.intro ?_ ?_ <;> omega) | (refine And.intro ?_ (And.intro ?_ ?_) <;> first | omega | (show _ < _; omega) | exact Nat.le_of_ble_eq_true rfl)); done)); (conv => whnf))))
  refine EvIf.split (fun h1 => ?_) (fun h1 => ?_)
  · simp only [Bool.or_eq_true, decide_eq_true_eq] at h1
    ((conv => whnf); (repeat (refine And.intro ?_ ?_; (focus ((first | omega | (intro hg; simp only [Bool.or_eq_false_iff, Bool.or_eq_true, Bool.and_eq_true, Bool.and_eq_false_iff, Bool.not_eq_true, Bool.not_eq_false, Bool.not_eq_true', Bool.not_eq_false', decide_eq_false_iff_not, decide_eq_true_eq] at hg; first | omega | (refine And.intro ?_ ?_ <;> omega) | (refine And.intro ?_ (And.intro ?_ ?_) <;> first | omega | (show _ < _; omega) | exact Nat.le_of_ble_eq_true rfl)) | (refine And.intro ?_ ?_ <;> omega) | (refine And.intro ?_ (And.intro ?_ ?_) <;> first | omega | (show _ < _; omega) | exact Nat.le_of_ble_eq_true rfl)); done)); (conv => whnf))))
    refine EvRet.ret (fun ρ => ?_)
    rw [pick, if_neg (by omega)]
    rfl
  · simp only [Bool.or_eq_false_iff, decide_eq_false_iff_not] at h1
    ((conv => whnf); (repeat (refine And.intro ?_ ?_; (focus ((first | omega | (intro hg; simp only [Bool.or_eq_false_iff, Bool.or_eq_true, Bool.and_eq_true, Bool.and_eq_false_iff, Bool.not_eq_true, Bool.not_eq_false, Bool.not_eq_true', Bool.not_eq_false', decide_eq_false_iff_not, decide_eq_true_eq] at hg; first | omega | (refine And.intro ?_ ?_ <;> omega) | (refine And.intro ?_ (And.intro ?_ ?_) <;> first | omega | (show _ < _; omega) | exact Nat.le_of_ble_eq_true rfl)) | (refine And.intro ?_ ?_ <;> omega) | (refine And.intro ?_ (And.intro ?_ ?_) <;> first | omega | (show _ < _; omega) | exact Nat.le_of_ble_eq_true rfl)); done)); (conv => whnf))))
    refine EvCall.plain Try.call19 (.v (.int .i64 (arnd (zs.getD i.toNat 0) m))) rfl (fun ρ W hp => around_s _ _ _ (h.i64 (by omega)) hm hm2) ?_
    ((conv => whnf); (repeat (refine And.intro ?_ ?_; (focus ((first | omega | (intro hg; simp only [Bool.or_eq_false_iff, Bool.or_eq_true, Bool.and_eq_true, Bool.and_eq_false_iff, Bool.not_eq_true, Bool.not_eq_false, Bool.not_eq_true', Bool.not_eq_false', decide_eq_false_iff_not, decide_eq_true_eq] at hg; first | omega | (refine And.intro ?_ ?_ <;> omega) | (refine And.intro ?_ (And.intro ?_ ?_) <;> first | omega | (show _ < _; omega) | exact Nat.le_of_ble_eq_true rfl)) | (refine And.intro ?_ ?_ <;> omega) | (refine And.intro ?_ (And.intro ?_ ?_) <;> first | omega | (show _ < _; omega) | exact Nat.le_of_ble_eq_true rfl)); done)); (conv => whnf))))
    refine EvRet.ret (fun ρ => ?_)
    rw [pick, if_pos (by omega)]
    rfl
def bnd (n m : Int) : Int := arnd n (2 * m + 1) - m
theorem bnd_in (n m : Int) (h : 0 ≤ m) : -m ≤ bnd n m ∧ bnd n m ≤ m := by
  have a0 := arnd_nn n (2 * m + 1) (by omega)
  have a1 := arnd_lt n (2 * m + 1) (by omega)
  unfold bnd
  omega
theorem bound_s (n m : Int) (w : World) (hn : I64 n) (h0 : 0 ≤ m) (h1 : m ≤ 1000000000) : Con Try.prog 20 #[.int .i64 n, .int .i64 m] w (Ret w (.int .i64 (bnd n m))) := by
  have a0 := arnd_nn n (2 * m + 1) (by omega)
  have a1 := arnd_lt n (2 * m + 1) (by omega)
  refine enter tabOk mixed Try.func20 rfl Try.ntmps20 Try.results20 [.v (.int .i64 n), .v (.int .i64 m)] (fun _ => none) [] 0 rfl rfl (hp0 _ _ _) ?_
  ((conv => whnf); (repeat (refine And.intro ?_ ?_; (focus ((first | omega | (intro hg; simp only [Bool.or_eq_false_iff, Bool.or_eq_true, Bool.and_eq_true, Bool.and_eq_false_iff, Bool.not_eq_true, Bool.not_eq_false, Bool.not_eq_true', Bool.not_eq_false', decide_eq_false_iff_not, decide_eq_true_eq] at hg; first | omega | (refine And.intro ?_ ?_ <;> omega) | (refine And.intro ?_ (And.intro ?_ ?_) <;> first | omega | (show _ < _; omega) | exact Nat.le_of_ble_eq_true rfl)) | (refine And.intro ?_ ?_ <;> omega) | (refine And.intro ?_ (And.intro ?_ ?_) <;> first | omega | (show _ < _; omega) | exact Nat.le_of_ble_eq_true rfl)); done)); (conv => whnf))))
  refine EvCall.plain Try.call19 (.v (.int .i64 (arnd n (2 * m + 1)))) rfl (fun ρ W hp => around_s _ _ _ hn (by omega) (by omega)) ?_
  ((conv => whnf); (repeat (refine And.intro ?_ ?_; (focus ((first | omega | (intro hg; simp only [Bool.or_eq_false_iff, Bool.or_eq_true, Bool.and_eq_true, Bool.and_eq_false_iff, Bool.not_eq_true, Bool.not_eq_false, Bool.not_eq_true', Bool.not_eq_false', decide_eq_false_iff_not, decide_eq_true_eq] at hg; first | omega | (refine And.intro ?_ ?_ <;> omega) | (refine And.intro ?_ (And.intro ?_ ?_) <;> first | omega | (show _ < _; omega) | exact Nat.le_of_ble_eq_true rfl)) | (refine And.intro ?_ ?_ <;> omega) | (refine And.intro ?_ (And.intro ?_ ?_) <;> first | omega | (show _ < _; omega) | exact Nat.le_of_ble_eq_true rfl)); done)); (conv => whnf))))
  exact EvRet.ret (fun ρ => rfl)

/-! labels -/
def ofL (cs : List Value) : Option (ByteArray × ByteArray) :=
  match cs with
  | [.string a, .string b] => some (a, b)
  | _ => none
theorem ofL_law (cs : List Value) (x : ByteArray × ByteArray) (h : ofL cs = some x) : [Value.string x.1, Value.string x.2] = cs := by
  unfold ofL at h
  split at h
  · simp at h
    subst h
    rfl
  · cases h
def rL : RowS (ByteArray × ByteArray) := { cols := [fun e => .string e.1, fun e => .string e.2], d := (ByteArray.empty, ByteArray.empty), of := ofL, law := fun cs x h => ofL_law cs x h, one := fun x f hf => by simp at hf; rcases hf with rfl | rfl <;> rfl }
theorem rowC_lab (l : List (ByteArray × ByteArray)) : rowC rL l = labCells l := rfl

def sHost : ByteArray := ⟨#[104, 111, 115, 116]⟩
def sZone : ByteArray := ⟨#[122, 111, 110, 101]⟩
def sA : ByteArray := ⟨#[97]⟩
def sB : ByteArray := ⟨#[98]⟩
def sX : ByteArray := ⟨#[120]⟩
theorem lab0 : LabSet [] := ⟨by simp, by simp, by simp, by simp, by simp⟩
theorem nm1 : nameB sHost = true := by decide +kernel
theorem nm2 : nameB sZone = true := by decide +kernel
theorem vl1 : valueB sA = true := by decide +kernel
theorem vl2 : valueB sB = true := by decide +kernel
theorem vl3 : valueB sX = true := by decide +kernel
theorem one_set (n v : ByteArray) (hn : nameB n = true) (hv : valueB v = true) (hf : v.toList ≠ []) : LabSet [(n, v)] := by
  refine ⟨by simp, ?_, ?_, ?_, ?_⟩
  · intro i h; simp at h; subst h; exact hn
  · intro i h; simp at h; subst h; exact hv
  · intro i h; simp at h; subst h; exact hf
  · intro i j hij h; simp at h; omega
theorem lab3 : LabSet [(sHost, sB), (sZone, sX)] := by
  refine ⟨by simp, ?_, ?_, ?_, ?_⟩
  · intro i h; simp at h
    rcases (show i = 0 ∨ i = 1 by omega) with rfl | rfl
    · exact nm1
    · exact nm2
  · intro i h; simp at h
    rcases (show i = 0 ∨ i = 1 by omega) with rfl | rfl
    · exact vl2
    · exact vl3
  · intro i h; simp at h
    rcases (show i = 0 ∨ i = 1 by omega) with rfl | rfl
    · exact (by decide +kernel : sB.toList ≠ [])
    · exact (by decide +kernel : sX.toList ≠ [])
  · intro i j hij h; simp at h
    obtain rfl : i = 0 := by omega
    obtain rfl : j = 1 := by omega
    exact (by decide +kernel : Op.bytesLess sHost.toList sZone.toList = true)
/-- What Labels returns. -/
def labsOf (n : Int) : List (ByteArray × ByteArray) := if arnd n 4 = 1 then [(sHost, sA)] else if arnd n 4 = 2 then [(sHost, sB)] else if arnd n 4 = 3 then [(sHost, sB), (sZone, sX)] else []
theorem labsOf_set (n : Int) : LabSet (labsOf n) := by
  unfold labsOf
  split
  · exact one_set _ _ nm1 vl1 (by decide +kernel)
  · split
    · exact one_set _ _ nm1 vl2 (by decide +kernel)
    · split
      · exact lab3
      · exact lab0
theorem EvRet.rows_lit {w : World} {L : List Ob} {nx : Nat} {α : Type} {R : RowS α} {ty : TypeId} {ys : List α} {n len cap sz : Nat} {cs : List SV} (hl : len = ys.length) (hc : ys.length ≤ cap) (hn : fnd L n = some ⟨n, true, ty, R.cols.length, cap, .cs cs⟩) (hy : ∀ ρ : Rho, denL ρ cs = rowC R ys) : EvRet w (RetRows R ty w ys) (.s n sz len cap) L nx := by
  subst hl
  obtain ⟨_, l1, l2, hL, _⟩ := fnd_split hn
  refine ⟨fun ρ W hp _ => ⟨ρ n, cap, by simp [den], hp.bel, hc, ?_⟩⟩
  have h1 := hp.obj _ (show (⟨n, true, ty, R.cols.length, cap, .cs cs⟩ : Ob) ∈ L by rw [hL]; simp)
  simp only [ObOk, if_true] at h1
  have e1 : (Ct.cs cs).cells ρ = rowC R ys := hy ρ
  have e2 : (Ct.rows α R ys).cells (fun _ => ρ n) = rowC R ys := rfl
  unfold OwnOk at *
  simp only [e1, e2] at *
  exact h1
theorem labels_s (n : Int) (w : World) (hn : I64 n) : Con Try.prog 52 #[.int .i64 n] w (RetRows rL 108 w (labsOf n)) := by
  have a0 := arnd_nn n 4 (by omega)
  have a1 := arnd_lt n 4 (by omega)
  refine enter tabOk mixed Try.func52 rfl Try.ntmps52 Try.results52 [.v (.int .i64 n)] (fun _ => none) [] 0 rfl rfl (hp0 _ _ _) ?_
  ((conv => whnf); (repeat (refine And.intro ?_ ?_; (focus ((first | omega | (intro hg; simp only [Bool.or_eq_false_iff, Bool.or_eq_true, Bool.and_eq_true, Bool.and_eq_false_iff, Bool.not_eq_true, Bool.not_eq_false, Bool.not_eq_true', Bool.not_eq_false', decide_eq_false_iff_not, decide_eq_true_eq] at hg; first | omega | (refine And.intro ?_ ?_ <;> omega) | (refine And.intro ?_ (And.intro ?_ ?_) <;> first | omega | (show _ < _; omega) | exact Nat.le_of_ble_eq_true rfl)) | (refine And.intro ?_ ?_ <;> omega) | (refine And.intro ?_ (And.intro ?_ ?_) <;> first | omega | (show _ < _; omega) | exact Nat.le_of_ble_eq_true rfl)); done)); (conv => whnf))))
  refine EvCall.plain Try.call19 (.v (.int .i64 (arnd n 4))) rfl (fun ρ W hp => around_s _ _ _ hn (by omega) (by omega)) ?_
  ((conv => whnf); (repeat (refine And.intro ?_ ?_; (focus ((first | omega | (intro hg; simp only [Bool.or_eq_false_iff, Bool.or_eq_true, Bool.and_eq_true, Bool.and_eq_false_iff, Bool.not_eq_true, Bool.not_eq_false, Bool.not_eq_true', Bool.not_eq_false', decide_eq_false_iff_not, decide_eq_true_eq] at hg; first | omega | (refine And.intro ?_ ?_ <;> omega) | (refine And.intro ?_ (And.intro ?_ ?_) <;> first | omega | (show _ < _; omega) | exact Nat.le_of_ble_eq_true rfl)) | (refine And.intro ?_ ?_ <;> omega) | (refine And.intro ?_ (And.intro ?_ ?_) <;> first | omega | (show _ < _; omega) | exact Nat.le_of_ble_eq_true rfl)); done)); (conv => whnf))))
  refine EvIf.split (fun h1 => ?_) (fun h1 => ?_)
  · ((conv => whnf); (repeat (refine And.intro ?_ ?_; (focus ((first | omega | (intro hg; simp only [Bool.or_eq_false_iff, Bool.or_eq_true, Bool.and_eq_true, Bool.and_eq_false_iff, Bool.not_eq_true, Bool.not_eq_false, Bool.not_eq_true', Bool.not_eq_false', decide_eq_false_iff_not, decide_eq_true_eq] at hg; first | omega | (refine And.intro ?_ ?_ <;> omega) | (refine And.intro ?_ (And.intro ?_ ?_) <;> first | omega | (show _ < _; omega) | exact Nat.le_of_ble_eq_true rfl)) | (refine And.intro ?_ ?_ <;> omega) | (refine And.intro ?_ (And.intro ?_ ?_) <;> first | omega | (show _ < _; omega) | exact Nat.le_of_ble_eq_true rfl)); done)); (conv => whnf))))
    simp only [decide_eq_true_eq] at h1
    have : labsOf n = [(sHost, sA)] := by simp [labsOf, h1]
    rw [this]
    exact EvRet.rows_lit rfl (by decide) rfl (fun ρ => rfl)
  · ((conv => whnf); (repeat (refine And.intro ?_ ?_; (focus ((first | omega | (intro hg; simp only [Bool.or_eq_false_iff, Bool.or_eq_true, Bool.and_eq_true, Bool.and_eq_false_iff, Bool.not_eq_true, Bool.not_eq_false, Bool.not_eq_true', Bool.not_eq_false', decide_eq_false_iff_not, decide_eq_true_eq] at hg; first | omega | (refine And.intro ?_ ?_ <;> omega) | (refine And.intro ?_ (And.intro ?_ ?_) <;> first | omega | (show _ < _; omega) | exact Nat.le_of_ble_eq_true rfl)) | (refine And.intro ?_ ?_ <;> omega) | (refine And.intro ?_ (And.intro ?_ ?_) <;> first | omega | (show _ < _; omega) | exact Nat.le_of_ble_eq_true rfl)); done)); (conv => whnf))))
    simp only [decide_eq_false_iff_not] at h1
    refine EvIf.split (fun h2 => ?_) (fun h2 => ?_)
    · ((conv => whnf); (repeat (refine And.intro ?_ ?_; (focus ((first | omega | (intro hg; simp only [Bool.or_eq_false_iff, Bool.or_eq_true, Bool.and_eq_true, Bool.and_eq_false_iff, Bool.not_eq_true, Bool.not_eq_false, Bool.not_eq_true', Bool.not_eq_false', decide_eq_false_iff_not, decide_eq_true_eq] at hg; first | omega | (refine And.intro ?_ ?_ <;> omega) | (refine And.intro ?_ (And.intro ?_ ?_) <;> first | omega | (show _ < _; omega) | exact Nat.le_of_ble_eq_true rfl)) | (refine And.intro ?_ ?_ <;> omega) | (refine And.intro ?_ (And.intro ?_ ?_) <;> first | omega | (show _ < _; omega) | exact Nat.le_of_ble_eq_true rfl)); done)); (conv => whnf))))
      simp only [decide_eq_true_eq] at h2
      have : labsOf n = [(sHost, sB)] := by simp [labsOf, h2]
      rw [this]
      exact EvRet.rows_lit rfl (by decide) rfl (fun ρ => rfl)
    · ((conv => whnf); (repeat (refine And.intro ?_ ?_; (focus ((first | omega | (intro hg; simp only [Bool.or_eq_false_iff, Bool.or_eq_true, Bool.and_eq_true, Bool.and_eq_false_iff, Bool.not_eq_true, Bool.not_eq_false, Bool.not_eq_true', Bool.not_eq_false', decide_eq_false_iff_not, decide_eq_true_eq] at hg; first | omega | (refine And.intro ?_ ?_ <;> omega) | (refine And.intro ?_ (And.intro ?_ ?_) <;> first | omega | (show _ < _; omega) | exact Nat.le_of_ble_eq_true rfl)) | (refine And.intro ?_ ?_ <;> omega) | (refine And.intro ?_ (And.intro ?_ ?_) <;> first | omega | (show _ < _; omega) | exact Nat.le_of_ble_eq_true rfl)); done)); (conv => whnf))))
      simp only [decide_eq_false_iff_not] at h2
      refine EvIf.split (fun h3 => ?_) (fun h3 => ?_)
      · ((conv => whnf); (repeat (refine And.intro ?_ ?_; (focus ((first | omega | (intro hg; simp only [Bool.or_eq_false_iff, Bool.or_eq_true, Bool.and_eq_true, Bool.and_eq_false_iff, Bool.not_eq_true, Bool.not_eq_false, Bool.not_eq_true', Bool.not_eq_false', decide_eq_false_iff_not, decide_eq_true_eq] at hg; first | omega | (refine And.intro ?_ ?_ <;> omega) | (refine And.intro ?_ (And.intro ?_ ?_) <;> first | omega | (show _ < _; omega) | exact Nat.le_of_ble_eq_true rfl)) | (refine And.intro ?_ ?_ <;> omega) | (refine And.intro ?_ (And.intro ?_ ?_) <;> first | omega | (show _ < _; omega) | exact Nat.le_of_ble_eq_true rfl)); done)); (conv => whnf))))
        simp only [decide_eq_true_eq] at h3
        have : labsOf n = [(sHost, sB), (sZone, sX)] := by simp [labsOf, h3]
        rw [this]
        exact EvRet.rows_lit rfl (by decide) rfl (fun ρ => rfl)
      · ((conv => whnf); (repeat (refine And.intro ?_ ?_; (focus ((first | omega | (intro hg; simp only [Bool.or_eq_false_iff, Bool.or_eq_true, Bool.and_eq_true, Bool.and_eq_false_iff, Bool.not_eq_true, Bool.not_eq_false, Bool.not_eq_true', Bool.not_eq_false', decide_eq_false_iff_not, decide_eq_true_eq] at hg; first | omega | (refine And.intro ?_ ?_ <;> omega) | (refine And.intro ?_ (And.intro ?_ ?_) <;> first | omega | (show _ < _; omega) | exact Nat.le_of_ble_eq_true rfl)) | (refine And.intro ?_ ?_ <;> omega) | (refine And.intro ?_ (And.intro ?_ ?_) <;> first | omega | (show _ < _; omega) | exact Nat.le_of_ble_eq_true rfl)); done)); (conv => whnf))))
        simp only [decide_eq_false_iff_not] at h3
        exact EvRet.rows_nil (by simp [labsOf, h1, h2, h3])
end Go.Proofs.Ytofekfpbljihiaa
