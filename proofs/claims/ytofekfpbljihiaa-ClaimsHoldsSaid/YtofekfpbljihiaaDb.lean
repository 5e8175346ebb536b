/- Decl, Bent, Valid, Low, High. -/
import Derived.Test.YtofekfpbljihiaaDa
namespace Go.Proofs.Ytofekfpbljihiaa
open Go.RowKit
set_option linter.unusedVariables false

/-- The numbers of a declaration. -/
structure Dc where
  u0 : Int
  u1 : Int
  u2 : Int
  lo : Int
  hi : Int
  down : Int
  up : Int
  first : Int
  last : Int
  budget : Int
def dcCells (nm : ByteArray) (v : Value) (d : Dc) : Array Value :=
  #[.string nm, v, .int .i64 d.u0, .int .i64 d.u1, .int .i64 d.u2, .int .i64 d.lo, .int .i64 d.hi, .int .i64 d.down, .int .i64 d.up, .int .i64 d.first, .int .i64 d.last, .int .i64 d.budget]
def dcS (nm : ByteArray) (v : SV) (d : Dc) : List SV :=
  [.v (.string nm), v, .v (.int .i64 d.u0), .v (.int .i64 d.u1), .v (.int .i64 d.u2), .v (.int .i64 d.lo), .v (.int .i64 d.hi), .v (.int .i64 d.down), .v (.int .i64 d.up), .v (.int .i64 d.first), .v (.int .i64 d.last), .v (.int .i64 d.budget)]
/-- A declaration with a name and a label set that are valid. -/
def DeclIs (w : World) (V : Value) (d : Dc) : Prop :=
  ∃ nm A c l, V = .agg (dcCells nm (.slice A (List.length l) c) d) ∧ nameB nm = true ∧ LabSet l ∧ RowsIn rL w (.slice A l.length c) l
theorem DeclIs.below {w w' : World} {V : Value} {d : Dc} (h : DeclIs w V d) (hb : Below w.heap.size w w') : DeclIs w' V d := by
  obtain ⟨nm, A, c, l, h1, h2, h3, h4⟩ := h
  exact ⟨nm, A, c, l, h1, h2, h3, h4.below hb⟩
def declOf (zs : List Int) : Dc := {
  u0 := 1
  u1 := 0
  u2 := 0
  lo := pick zs 0 10 - 9
  hi := pick zs 0 10 - 9 + pick zs 5 17
  down := pick zs 1 5 - 3
  up := pick zs 1 5 - 3 + pick zs 6 4
  first := pick zs 2 7
  last := pick zs 2 7 + pick zs 7 14
  budget := pick zs 8 40 }
def sCpu : ByteArray := ⟨#[99, 112, 117]⟩
def sMem : ByteArray := ⟨#[109, 101, 109]⟩
theorem nmCpu : nameB sCpu = true := by decide +kernel
theorem nmMem : nameB sMem = true := by decide +kernel
/-- A declaration comes back; its labels are a slice of its own. -/
def RetDecl (w : World) (d : Dc) (e : Ending) (w' : World) : Prop :=
  ∃ nm A c l, e = .returned (.agg (dcCells nm (.slice A (List.length l) c) d)) ∧ nameB nm = true ∧ LabSet l ∧ Below w.heap.size w w' ∧ l.length ≤ c ∧ OwnOk w.heap.size (fun _ => A) ⟨0, true, 108, 2, c, .rows _ rL l⟩ w'
theorem EvCall.decl {kp : Bool} {P : Program} {w : World} {f : FuncId} {args : List SV} {L : List Ob} {nx : Nat} {k : SV → List Ob → Nat → Prop} {d : Dc} (ent : ∀ args W, (callFunc f args).run P W = .ok (.enter f args) W)
    (h : ∀ ρ W, Hp w ρ L nx W → Con P f (denL ρ args).toArray W (RetDecl W d))
    (hk : ∀ nm l c, nameB nm = true → LabSet l → l.length ≤ c → c ≤ 9223372036854775807 → k (.a (dcS nm (.s nx 2 l.length c) d)) (⟨nx, true, 108, 2, c, .rows _ rL l⟩ :: L) (nx + 1)) : EvCall kp P w f args L nx k := by
  refine ⟨ent, fun ρ W hp _ => (h ρ W hp).out.mono fun e W' he => ?_⟩
  obtain ⟨nm, A, c, l, he, hnm, hl, hb, hc, hok⟩ := he
  have hcm : c ≤ 9223372036854775807 := by
    rcases hok with ⟨_, _, hx⟩ | ⟨_, _, _, _, _, hx, _⟩
    · simp only at hx; omega
    · simpa [maxLen] using hx
  refine ⟨_, he, fun _ => hb, upd ρ nx A, .a (dcS nm (.s nx 2 l.length c) d), _, nx + 1, ?_, agree_upd ρ nx A, by omega, ?_, ?_, hk nm l c hnm hl hc hcm⟩
  · simp [den, dcS, denL, dcCells, upd_same]
  · simp [SV.lt, dcS, ltL, blt_iff]
  · exact hp.new hb _ A rfl rfl rfl (OwnOk.rename (o := ⟨0, true, 108, 2, c, .rows _ rL l⟩) (n := nx) rfl (upd_same _ _ _) hok)
/-- A declaration whose labels are an object of the walk's. -/
theorem Hp.decl {w : World} {ρ : Rho} {L : List Ob} {nx : Nat} {W : World} (h : Hp w ρ L nx W) {nm : ByteArray} {l : List (ByteArray × ByteArray)} {n c : Nat} {d : Dc} (hnm : nameB nm = true) (hl : LabSet l) (hc : l.length ≤ c) (hm : c ≤ 9223372036854775807)
    (hf : fnd L n = some ⟨n, true, 108, 2, c, .rows _ rL l⟩) : DeclIs W (den ρ (.a (dcS nm (.s n 2 l.length c) d))) d :=
  ⟨nm, ρ n, c, l, rfl, hnm, hl, h.rowsIn hf (by decide) hc hm 2⟩

theorem EvRet.decl {w : World} {L : List Ob} {nx : Nat} {nm : ByteArray} {l : List (ByteArray × ByteArray)} {n c : Nat} {d d' : Dc} (hnm : nameB nm = true) (hl : LabSet l) (hc : l.length ≤ c) (hd : d = d')
    (hf : fnd L n = some ⟨n, true, 108, 2, c, .rows _ rL l⟩) : EvRet w (RetDecl w d') (.a (dcS nm (.s n 2 l.length c) d)) L nx := by
  subst hd
  obtain ⟨_, l1, l2, hL, _⟩ := fnd_split hf
  refine ⟨fun ρ W hp _ => ⟨nm, ρ n, c, l, rfl, hnm, hl, hp.bel, hc, ?_⟩⟩
  have h1 := hp.obj _ (show (⟨n, true, 108, 2, c, .rows _ rL l⟩ : Ob) ∈ L by rw [hL]; simp)
  simp only [ObOk, if_true] at h1
  exact OwnOk.rename (o := ⟨n, true, 108, 2, c, .rows _ rL l⟩) (n := 0) rfl rfl h1

set_option maxRecDepth 10000 in
set_option maxHeartbeats 1000000 in
theorem decl_s (v : Value) (zs : List Int) (w : World) (h : Ints w v zs) : Con Try.prog 15 #[v] w (RetDecl w (declOf zs)) := by
  obtain ⟨A, c, rfl, e1, e2⟩ := h.form
  have a0 := pick_nn zs 0 10 (by omega)
  have b0 := pick_lt zs 0 10 (by omega)
  have a1 := pick_nn zs 1 5 (by omega)
  have b1 := pick_lt zs 1 5 (by omega)
  have a2 := pick_nn zs 2 7 (by omega)
  have b2 := pick_lt zs 2 7 (by omega)
  have a3 := pick_nn zs 3 2 (by omega)
  have b3 := pick_lt zs 3 2 (by omega)
  have a4 := pick_nn zs 4 4 (by omega)
  have b4 := pick_lt zs 4 4 (by omega)
  have a5 := pick_nn zs 5 17 (by omega)
  have b5 := pick_lt zs 5 17 (by omega)
  have a6 := pick_nn zs 6 4 (by omega)
  have b6 := pick_lt zs 6 4 (by omega)
  have a7 := pick_nn zs 7 14 (by omega)
  have b7 := pick_lt zs 7 14 (by omega)
  have a8 := pick_nn zs 8 40 (by omega)
  have b8 := pick_lt zs 8 40 (by omega)
  have hI : ∀ (L : List Ob) (nx : Nat) ρ W, Hp w ρ L nx W → fnd L 0 = some ⟨0, false, 3, 1, c, .rows Int rI zs⟩ → Ints W (den ρ (.s 0 1 zs.length c)) zs := fun L nx ρ W hp hf => hp.ints hf e1 e2 h.2
  refine enter tabOk mixed Try.func15 rfl Try.ntmps15 Try.results15 [.s 0 1 zs.length c] (fun _ => A) [⟨0, false, 3, 1, c, .rows Int rI zs⟩] 1 rfl rfl (.ro (hp0 _ _ _) _ rfl rfl rfl (ro_ints h rfl _)) ?_
  ((conv => whnf); (repeat (refine And.intro ?_ ?_; (focus ((first | omega | (intro hg; simp only [Bool.or_eq_false_iff, Bool.or_eq_true, Bool.and_eq_true, Bool.and_eq_false_iff, Bool.not_eq_true, Bool.not_eq_false, Bool.not_eq_true', Bool.not_eq_false', decide_eq_false_iff_not, decide_eq_true_eq] at hg; first | omega | (refine And.intro ?_ ?_ <;> omega) | (refine And.intro ?_ (And.intro ?_ ?_) <;> first | omega | (show _ < _; omega) | exact Nat.le_of_ble_eq_true rfl)) | (refine And.intro ?_ ?_ <;> omega) | (refine And.intro ?_ (And.intro ?_ ?_) <;> first | omega | (show _ < _; omega) | exact Nat.le_of_ble_eq_true rfl)); done)); (conv => whnf))))
  refine EvCall.plain Try.call51 (.v (.int .i64 (pick zs 0 10))) rfl (fun ρ W hp => pick_s _ zs 0 10 W (hI _ _ ρ W hp rfl) (by omega) (by omega) (by omega)) ?_
  ((conv => whnf); (repeat (refine And.intro ?_ ?_; (focus ((first | omega | (intro hg; simp only [Bool.or_eq_false_iff, Bool.or_eq_true, Bool.and_eq_true, Bool.and_eq_false_iff, Bool.not_eq_true, Bool.not_eq_false, Bool.not_eq_true', Bool.not_eq_false', decide_eq_false_iff_not, decide_eq_true_eq] at hg; first | omega | (refine And.intro ?_ ?_ <;> omega) | (refine And.intro ?_ (And.intro ?_ ?_) <;> first | omega | (show _ < _; omega) | exact Nat.le_of_ble_eq_true rfl)) | (refine And.intro ?_ ?_ <;> omega) | (refine And.intro ?_ (And.intro ?_ ?_) <;> first | omega | (show _ < _; omega) | exact Nat.le_of_ble_eq_true rfl)); done)); (conv => whnf))))
  refine EvCall.plain Try.call51 (.v (.int .i64 (pick zs 1 5))) rfl (fun ρ W hp => pick_s _ zs 1 5 W (hI _ _ ρ W hp rfl) (by omega) (by omega) (by omega)) ?_
  ((conv => whnf); (repeat (refine And.intro ?_ ?_; (focus ((first | omega | (intro hg; simp only [Bool.or_eq_false_iff, Bool.or_eq_true, Bool.and_eq_true, Bool.and_eq_false_iff, Bool.not_eq_true, Bool.not_eq_false, Bool.not_eq_true', Bool.not_eq_false', decide_eq_false_iff_not, decide_eq_true_eq] at hg; first | omega | (refine And.intro ?_ ?_ <;> omega) | (refine And.intro ?_ (And.intro ?_ ?_) <;> first | omega | (show _ < _; omega) | exact Nat.le_of_ble_eq_true rfl)) | (refine And.intro ?_ ?_ <;> omega) | (refine And.intro ?_ (And.intro ?_ ?_) <;> first | omega | (show _ < _; omega) | exact Nat.le_of_ble_eq_true rfl)); done)); (conv => whnf))))
  refine EvCall.plain Try.call51 (.v (.int .i64 (pick zs 2 7))) rfl (fun ρ W hp => pick_s _ zs 2 7 W (hI _ _ ρ W hp rfl) (by omega) (by omega) (by omega)) ?_
  ((conv => whnf); (repeat (refine And.intro ?_ ?_; (focus ((first | omega | (intro hg; simp only [Bool.or_eq_false_iff, Bool.or_eq_true, Bool.and_eq_true, Bool.and_eq_false_iff, Bool.not_eq_true, Bool.not_eq_false, Bool.not_eq_true', Bool.not_eq_false', decide_eq_false_iff_not, decide_eq_true_eq] at hg; first | omega | (refine And.intro ?_ ?_ <;> omega) | (refine And.intro ?_ (And.intro ?_ ?_) <;> first | omega | (show _ < _; omega) | exact Nat.le_of_ble_eq_true rfl)) | (refine And.intro ?_ ?_ <;> omega) | (refine And.intro ?_ (And.intro ?_ ?_) <;> first | omega | (show _ < _; omega) | exact Nat.le_of_ble_eq_true rfl)); done)); (conv => whnf))))
  obtain ⟨p, nm, hp3, hnm, hpn⟩ : ∃ (p : Nat) (nm : ByteArray), pick zs 3 2 = (p : Int) ∧ nameB nm = true ∧ (p = 0 ∧ nm = sCpu ∨ p = 1 ∧ nm = sMem) := by
    rcases (show pick zs 3 2 = 0 ∨ pick zs 3 2 = 1 by omega) with h3 | h3
    · exact ⟨0, sCpu, h3, nmCpu, .inl ⟨rfl, rfl⟩⟩
    · exact ⟨1, sMem, h3, nmMem, .inr ⟨rfl, rfl⟩⟩
  have hset := labsOf_set (pick zs 4 4)
  have hlab := fun W => labels_s (pick zs 4 4) W ⟨by omega, by omega⟩
  generalize labsOf (pick zs 4 4) = l at *
  refine EvDraw.meet (.q 0 (.q 1 (.q 5 (.q 8 (.n 2 false (.q 3 (.q 4 (.n 6 false (.n 7 false (.q 9 (.n 10 false (.n 11 true (.z) (.e)) (.e))) (.n 10 false (.n 7 false (.q 9 (.n 11 true (.z) (.e))) (.e)) (.e))) (.n 10 false (.n 6 false (.n 7 false (.q 9 (.n 11 true (.z) (.e))) (.e)) (.e)) (.e))))) (.n 10 false (.n 2 false (.q 3 (.q 4 (.n 6 false (.n 7 false (.q 9 (.n 11 true (.z) (.e))) (.e)) (.e)))) (.e)) (.e))))))) (by kernel_rfl) (α := Nat) (fun c' => l.length ≤ c' ∧ c' ≤ 9223372036854775807)
    (fun c' => [(0, [], .s 0 1 zs.length c), (2, [], .p 1 0), (4, [], .v (.int .i64 (pick zs 0 10 - 9))), (5, [], .v (.int .i64 (pick zs 1 5 - 3))), (6, [], .v (.int .i64 (pick zs 2 7))), (7, [], .p 3 0)])
    (fun c' => [⟨3, true, 27, 12, 1, .cs (dcS nm (.s 4 2 l.length c') ⟨1, 0, 0, 0, 0, 0, 0, 0, 0, 0⟩)⟩, ⟨4, true, 108, 2, c', .rows _ rL l⟩, ⟨1, true, 27, 12, 1, .cs (dcS ByteArray.empty (.v (.slice none 0 0)) ⟨0, 0, 0, 0, 0, 0, 0, 0, 0, 0⟩)⟩, ⟨0, false, 3, 1, c, .rows Int rI zs⟩]) 5 ?_ ?_
  · rcases hpn with ⟨rfl, rfl⟩ | ⟨rfl, rfl⟩
    all_goals
      ((conv => whnf); (repeat (refine And.intro ?_ ?_; (focus ((first | omega | (intro hg; simp only [Bool.or_eq_false_iff, Bool.or_eq_true, Bool.and_eq_true, Bool.and_eq_false_iff, Bool.not_eq_true, Bool.not_eq_false, Bool.not_eq_true', Bool.not_eq_false', decide_eq_false_iff_not, decide_eq_true_eq] at hg; first | omega | (refine And.intro ?_ ?_ <;> omega) | (refine And.intro ?_ (And.intro ?_ ?_) <;> first | omega | (show _ < _; omega) | exact Nat.le_of_ble_eq_true rfl)) | (refine And.intro ?_ ?_ <;> omega) | (refine And.intro ?_ (And.intro ?_ ?_) <;> first | omega | (show _ < _; omega) | exact Nat.le_of_ble_eq_true rfl)); done)); (conv => whnf))))
      repeat' (first
        | (refine ⟨_, ⟨by assumption, by assumption⟩, Sub.of [] [] rfl ?_⟩; ((repeat' (refine And.intro ?_ ?_)) <;> first | rfl | trivial | omega))
        | (refine ⟨_, ⟨by assumption, by assumption⟩, Sub.of [(3, 4), (4, 3)] [] rfl ?_⟩; ((repeat' (refine And.intro ?_ ?_)) <;> first | rfl | trivial | omega))
        | (refine EvCall.plain Try.call51 (.v (.int .i64 _)) rfl (fun ρ W hp => by have := pick_s _ zs 3 2 W (hI _ _ ρ W hp rfl) (by omega) (by omega) (by omega); rw [show (3 : Int).toNat = 3 from rfl, hp3] at this; exact this) ?_; ((conv => whnf); (repeat (refine And.intro ?_ ?_; (focus ((first | omega | (intro hg; simp only [Bool.or_eq_false_iff, Bool.or_eq_true, Bool.and_eq_true, Bool.and_eq_false_iff, Bool.not_eq_true, Bool.not_eq_false, Bool.not_eq_true', Bool.not_eq_false', decide_eq_false_iff_not, decide_eq_true_eq] at hg; first | omega | (refine And.intro ?_ ?_ <;> omega) | (refine And.intro ?_ (And.intro ?_ ?_) <;> first | omega | (show _ < _; omega) | exact Nat.le_of_ble_eq_true rfl)) | (refine And.intro ?_ ?_ <;> omega) | (refine And.intro ?_ (And.intro ?_ ?_) <;> first | omega | (show _ < _; omega) | exact Nat.le_of_ble_eq_true rfl)); done)); (conv => whnf)))))
        | (refine EvCall.plain Try.call51 (.v (.int .i64 (pick zs 4 4))) rfl (fun ρ W hp => pick_s _ zs 4 4 W (hI _ _ ρ W hp rfl) (by omega) (by omega) (by omega)) ?_; ((conv => whnf); (repeat (refine And.intro ?_ ?_; (focus ((first | omega | (intro hg; simp only [Bool.or_eq_false_iff, Bool.or_eq_true, Bool.and_eq_true, Bool.and_eq_false_iff, Bool.not_eq_true, Bool.not_eq_false, Bool.not_eq_true', Bool.not_eq_false', decide_eq_false_iff_not, decide_eq_true_eq] at hg; first | omega | (refine And.intro ?_ ?_ <;> omega) | (refine And.intro ?_ (And.intro ?_ ?_) <;> first | omega | (show _ < _; omega) | exact Nat.le_of_ble_eq_true rfl)) | (refine And.intro ?_ ?_ <;> omega) | (refine And.intro ?_ (And.intro ?_ ?_) <;> first | omega | (show _ < _; omega) | exact Nat.le_of_ble_eq_true rfl)); done)); (conv => whnf)))))
        | (refine EvCall.rows (R := rL) Try.call52 (fun ρ W hp => hlab W) (fun c' hc1 hc2 => ?_); ((conv => whnf); (repeat (refine And.intro ?_ ?_; (focus ((first | omega | (intro hg; simp only [Bool.or_eq_false_iff, Bool.or_eq_true, Bool.and_eq_true, Bool.and_eq_false_iff, Bool.not_eq_true, Bool.not_eq_false, Bool.not_eq_true', Bool.not_eq_false', decide_eq_false_iff_not, decide_eq_true_eq] at hg; first | omega | (refine And.intro ?_ ?_ <;> omega) | (refine And.intro ?_ (And.intro ?_ ?_) <;> first | omega | (show _ < _; omega) | exact Nat.le_of_ble_eq_true rfl)) | (refine And.intro ?_ ?_ <;> omega) | (refine And.intro ?_ (And.intro ?_ ?_) <;> first | omega | (show _ < _; omega) | exact Nat.le_of_ble_eq_true rfl)); done)); (conv => whnf)))))
        | (refine And.intro ?_ ?_ <;> ((conv => whnf); (repeat (refine And.intro ?_ ?_; (focus ((first | omega | (intro hg; simp only [Bool.or_eq_false_iff, Bool.or_eq_true, Bool.and_eq_true, Bool.and_eq_false_iff, Bool.not_eq_true, Bool.not_eq_false, Bool.not_eq_true', Bool.not_eq_false', decide_eq_false_iff_not, decide_eq_true_eq] at hg; first | omega | (refine And.intro ?_ ?_ <;> omega) | (refine And.intro ?_ (And.intro ?_ ?_) <;> first | omega | (show _ < _; omega) | exact Nat.le_of_ble_eq_true rfl)) | (refine And.intro ?_ ?_ <;> omega) | (refine And.intro ?_ (And.intro ?_ ?_) <;> first | omega | (show _ < _; omega) | exact Nat.le_of_ble_eq_true rfl)); done)); (conv => whnf))))))
  · intro c' hc'
    ((conv => whnf); (repeat (refine And.intro ?_ ?_; (focus ((first | omega | (intro hg; simp only [Bool.or_eq_false_iff, Bool.or_eq_true, Bool.and_eq_true, Bool.and_eq_false_iff, Bool.not_eq_true, Bool.not_eq_false, Bool.not_eq_true', Bool.not_eq_false', decide_eq_false_iff_not, decide_eq_true_eq] at hg; first | omega | (refine And.intro ?_ ?_ <;> omega) | (refine And.intro ?_ (And.intro ?_ ?_) <;> first | omega | (show _ < _; omega) | exact Nat.le_of_ble_eq_true rfl)) | (refine And.intro ?_ ?_ <;> omega) | (refine And.intro ?_ (And.intro ?_ ?_) <;> first | omega | (show _ < _; omega) | exact Nat.le_of_ble_eq_true rfl)); done)); (conv => whnf))))
    refine EvCall.plain Try.call51 (.v (.int .i64 (pick zs 5 17))) rfl (fun ρ W hp => pick_s _ zs 5 17 W (hI _ _ ρ W hp rfl) (by omega) (by omega) (by omega)) ?_
    ((conv => whnf); (repeat (refine And.intro ?_ ?_; (focus ((first | omega | (intro hg; simp only [Bool.or_eq_false_iff, Bool.or_eq_true, Bool.and_eq_true, Bool.and_eq_false_iff, Bool.not_eq_true, Bool.not_eq_false, Bool.not_eq_true', Bool.not_eq_false', decide_eq_false_iff_not, decide_eq_true_eq] at hg; first | omega | (refine And.intro ?_ ?_ <;> omega) | (refine And.intro ?_ (And.intro ?_ ?_) <;> first | omega | (show _ < _; omega) | exact Nat.le_of_ble_eq_true rfl)) | (refine And.intro ?_ ?_ <;> omega) | (refine And.intro ?_ (And.intro ?_ ?_) <;> first | omega | (show _ < _; omega) | exact Nat.le_of_ble_eq_true rfl)); done)); (conv => whnf))))
    refine EvCall.plain Try.call51 (.v (.int .i64 (pick zs 6 4))) rfl (fun ρ W hp => pick_s _ zs 6 4 W (hI _ _ ρ W hp rfl) (by omega) (by omega) (by omega)) ?_
    ((conv => whnf); (repeat (refine And.intro ?_ ?_; (focus ((first | omega | (intro hg; simp only [Bool.or_eq_false_iff, Bool.or_eq_true, Bool.and_eq_true, Bool.and_eq_false_iff, Bool.not_eq_true, Bool.not_eq_false, Bool.not_eq_true', Bool.not_eq_false', decide_eq_false_iff_not, decide_eq_true_eq] at hg; first | omega | (refine And.intro ?_ ?_ <;> omega) | (refine And.intro ?_ (And.intro ?_ ?_) <;> first | omega | (show _ < _; omega) | exact Nat.le_of_ble_eq_true rfl)) | (refine And.intro ?_ ?_ <;> omega) | (refine And.intro ?_ (And.intro ?_ ?_) <;> first | omega | (show _ < _; omega) | exact Nat.le_of_ble_eq_true rfl)); done)); (conv => whnf))))
    refine EvCall.plain Try.call51 (.v (.int .i64 (pick zs 7 14))) rfl (fun ρ W hp => pick_s _ zs 7 14 W (hI _ _ ρ W hp rfl) (by omega) (by omega) (by omega)) ?_
    ((conv => whnf); (repeat (refine And.intro ?_ ?_; (focus ((first | omega | (intro hg; simp only [Bool.or_eq_false_iff, Bool.or_eq_true, Bool.and_eq_true, Bool.and_eq_false_iff, Bool.not_eq_true, Bool.not_eq_false, Bool.not_eq_true', Bool.not_eq_false', decide_eq_false_iff_not, decide_eq_true_eq] at hg; first | omega | (refine And.intro ?_ ?_ <;> omega) | (refine And.intro ?_ (And.intro ?_ ?_) <;> first | omega | (show _ < _; omega) | exact Nat.le_of_ble_eq_true rfl)) | (refine And.intro ?_ ?_ <;> omega) | (refine And.intro ?_ (And.intro ?_ ?_) <;> first | omega | (show _ < _; omega) | exact Nat.le_of_ble_eq_true rfl)); done)); (conv => whnf))))
    refine EvCall.plain Try.call51 (.v (.int .i64 (pick zs 8 40))) rfl (fun ρ W hp => pick_s _ zs 8 40 W (hI _ _ ρ W hp rfl) (by omega) (by omega) (by omega)) ?_
    ((conv => whnf); (repeat (refine And.intro ?_ ?_; (focus ((first | omega | (intro hg; simp only [Bool.or_eq_false_iff, Bool.or_eq_true, Bool.and_eq_true, Bool.and_eq_false_iff, Bool.not_eq_true, Bool.not_eq_false, Bool.not_eq_true', Bool.not_eq_false', decide_eq_false_iff_not, decide_eq_true_eq] at hg; first | omega | (refine And.intro ?_ ?_ <;> omega) | (refine And.intro ?_ (And.intro ?_ ?_) <;> first | omega | (show _ < _; omega) | exact Nat.le_of_ble_eq_true rfl)) | (refine And.intro ?_ ?_ <;> omega) | (refine And.intro ?_ (And.intro ?_ ?_) <;> first | omega | (show _ < _; omega) | exact Nat.le_of_ble_eq_true rfl)); done)); (conv => whnf))))
    exact EvRet.decl (d := declOf zs) hnm hset hc'.1 rfl rfl
end Go.Proofs.Ytofekfpbljihiaa
