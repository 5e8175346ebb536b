/- The law ClaimsSound, walked. -/
import Derived.Test.YtofekfpbljihiaaCi
namespace Go.Proofs.Ytofekfpbljihiaa
open Go.RowKit
set_option linter.unusedVariables false

theorem walkL_i64 (d : Dc) (zs : List Int) (n : Nat) (h : DcT d) (hn : n ≤ 1000) : ∀ z ∈ walkL d zs n, I64 z := by
  intro z hz
  simp only [walkL, List.mem_map, List.mem_range] at hz
  obtain ⟨i, hi, rfl⟩ := hz
  have := walkV_bd d zs h i
  unfold I64
  omega
set_option maxRecDepth 10000 in
theorem claimssound_s (v1 v2 : Value) (zs ms : List Int) (at_ b a : Int) (w : World) (h1 : Ints w v1 zs) (h2 : Ints w v2 ms) (hat : I64 at_) (hb : I64 b) (ha : I64 a) :
    Con Try.prog 5 #[v1, v2, .int .i64 at_, .int .i64 b, .int .i64 a] w (Ret w (.bool true)) := by
  obtain ⟨A1, c1, rfl, e1, e2⟩ := h1.form
  obtain ⟨A2, c2, rfl, e3, e4⟩ := h2.form
  have hT := declOf_T zs
  have hI := declOf_I' zs
  have hvc := declOf_vc zs
  refine enter tabOk mixed Try.func5 rfl Try.ntmps5 Try.results5 [.s 0 1 zs.length c1, .s 1 1 ms.length c2, .v (.int .i64 at_), .v (.int .i64 b), .v (.int .i64 a)] (fun n => if n = 0 then A1 else A2) [⟨1, false, 3, 1, c2, .rows Int rI (ms)⟩, ⟨0, false, 3, 1, c1, .rows Int rI (zs)⟩] 2 rfl rfl (.ro (.ro (hp0 _ _ _) _ rfl rfl rfl (ro_ints h1 rfl _)) _ rfl rfl rfl (ro_ints h2 rfl _)) ?_
  ((conv => whnf); (repeat (refine And.intro ?_ ?_; (focus ((first | omega | (intro hg; simp only [Bool.or_eq_false_iff, Bool.or_eq_true, Bool.and_eq_true, Bool.and_eq_false_iff, Bool.not_eq_true, Bool.not_eq_false, Bool.not_eq_true', Bool.not_eq_false', decide_eq_false_iff_not, decide_eq_true_eq] at hg; first | omega | (refine And.intro ?_ ?_ <;> omega) | (refine And.intro ?_ (And.intro ?_ ?_) <;> first | omega | (show _ < _; omega) | exact Nat.le_of_ble_eq_true rfl)) | (refine And.intro ?_ ?_ <;> omega) | (refine And.intro ?_ (And.intro ?_ ?_) <;> first | omega | (show _ < _; omega) | exact Nat.le_of_ble_eq_true rfl)); done)); (conv => whnf))))
  refine EvCall.decl Try.call15 (fun ρ W hp => decl_s _ zs W (hp.ints (n := 0) rfl e1 e2 h1.2)) (fun nm l c3 hnm hl hc1 hc2 => ?_)
  generalize declOf zs = d at hT hI hvc ⊢
  have hTT := hT
  obtain ⟨k1, k2, k3⟩ := hTT
  obtain ⟨sp, hsp⟩ : ∃ sp : Nat, (d.last - d.first + 1).toNat = sp := ⟨_, rfl⟩
  have hll := walkL_len d ms sp
  ((conv => whnf); (repeat (refine And.intro ?_ ?_; (focus ((first | omega | (intro hg; simp only [Bool.or_eq_false_iff, Bool.or_eq_true, Bool.and_eq_true, Bool.and_eq_false_iff, Bool.not_eq_true, Bool.not_eq_false, Bool.not_eq_true', Bool.not_eq_false', decide_eq_false_iff_not, decide_eq_true_eq] at hg; first | omega | (refine And.intro ?_ ?_ <;> omega) | (refine And.intro ?_ (And.intro ?_ ?_) <;> first | omega | (show _ < _; omega) | exact Nat.le_of_ble_eq_true rfl)) | (refine And.intro ?_ ?_ <;> omega) | (refine And.intro ?_ (And.intro ?_ ?_) <;> first | omega | (show _ < _; omega) | exact Nat.le_of_ble_eq_true rfl)); done)); (conv => whnf))))
  refine EvCall.rows (R := rI) (ty := 3) (xs := walkL d ms sp) Try.call26 (fun ρ W hp => hsp ▸ walk_s nm _ _ _ d _ ms W hT (hp.ints (n := 1) rfl e3 e4 h2.2)) (fun cap hc3 hc4 => ?_)
  rw [hll] at hc3 ⊢
  have a0 := arnd_nn at_ (sp : Int) (by omega)
  have b0 := arnd_lt at_ (sp : Int) (by omega)
  have a1 := arnd_nn b 6 (by omega)
  have b1 := arnd_lt b 6 (by omega)
  have a2 := arnd_nn a 6 (by omega)
  have b2 := arnd_lt a 6 (by omega)
  obtain ⟨i, hi⟩ : ∃ i : Nat, arnd at_ (sp : Int) = (i : Int) := ⟨(arnd at_ (sp : Int)).toNat, by omega⟩
  rw [hi] at a0 b0
  obtain ⟨x, hx, hH⟩ := sound_law d ms hT hvc sp (by omega) i (by omega) (arnd b 6) (arnd a 6) ⟨a1, b1⟩ ⟨a2, b2⟩
  have hw := walkV_bd d ms hT i
  have hg : (walkL d ms sp).getD (Int.toNat (i : Int)) rI.d = walkV d ms i := walkL_get d ms sp i (by omega)
  ((conv => whnf); (repeat (refine And.intro ?_ ?_; (focus ((first | omega | (intro hg; simp only [Bool.or_eq_false_iff, Bool.or_eq_true, Bool.and_eq_true, Bool.and_eq_false_iff, Bool.not_eq_true, Bool.not_eq_false, Bool.not_eq_true', Bool.not_eq_false', decide_eq_false_iff_not, decide_eq_true_eq] at hg; first | omega | (refine And.intro ?_ ?_ <;> omega) | (refine And.intro ?_ (And.intro ?_ ?_) <;> first | omega | (show _ < _; omega) | exact Nat.le_of_ble_eq_true rfl)) | (refine And.intro ?_ ?_ <;> omega) | (refine And.intro ?_ (And.intro ?_ ?_) <;> first | omega | (show _ < _; omega) | exact Nat.le_of_ble_eq_true rfl)); done)); (conv => whnf))))
  refine EvCall.plain Try.call19 (.v (.int .i64 (i : Int))) rfl (fun ρ W hp => hi ▸ around_s _ _ _ hat (by omega) (by omega)) ?_
  ((conv => whnf); (repeat (refine And.intro ?_ ?_; (focus ((first | omega | (intro hg; simp only [Bool.or_eq_false_iff, Bool.or_eq_true, Bool.and_eq_true, Bool.and_eq_false_iff, Bool.not_eq_true, Bool.not_eq_false, Bool.not_eq_true', Bool.not_eq_false', decide_eq_false_iff_not, decide_eq_true_eq] at hg; first | omega | (refine And.intro ?_ ?_ <;> omega) | (refine And.intro ?_ (And.intro ?_ ?_) <;> first | omega | (show _ < _; omega) | exact Nat.le_of_ble_eq_true rfl)) | (refine And.intro ?_ ?_ <;> omega) | (refine And.intro ?_ (And.intro ?_ ?_) <;> first | omega | (show _ < _; omega) | exact Nat.le_of_ble_eq_true rfl)); done)); (conv => whnf))))
  (refine EvDraw.one (.q 0 (.q 1 (.q 2 (.q 3 (.q 4 (.n 5 false (.q 6 (.q 7 (.q 8 (.z)))) (.e))))))) (by kernel_rfl) ?_)
  ((conv => whnf); (repeat (refine And.intro ?_ ?_; (focus ((first | omega | (intro hg; simp only [Bool.or_eq_false_iff, Bool.or_eq_true, Bool.and_eq_true, Bool.and_eq_false_iff, Bool.not_eq_true, Bool.not_eq_false, Bool.not_eq_true', Bool.not_eq_false', decide_eq_false_iff_not, decide_eq_true_eq] at hg; first | omega | (refine And.intro ?_ ?_ <;> omega) | (refine And.intro ?_ (And.intro ?_ ?_) <;> first | omega | (show _ < _; omega) | exact Nat.le_of_ble_eq_true rfl)) | (refine And.intro ?_ ?_ <;> omega) | (refine And.intro ?_ (And.intro ?_ ?_) <;> first | omega | (show _ < _; omega) | exact Nat.le_of_ble_eq_true rfl)); done)); (conv => whnf))))
  refine EvCall.plain Try.call19 (.v (.int .i64 (arnd b 6))) rfl (fun ρ W hp => around_s _ _ _ hb (by omega) (by omega)) ?_
  ((conv => whnf); (repeat (refine And.intro ?_ ?_; (focus ((first | omega | (intro hg; simp only [Bool.or_eq_false_iff, Bool.or_eq_true, Bool.and_eq_true, Bool.and_eq_false_iff, Bool.not_eq_true, Bool.not_eq_false, Bool.not_eq_true', Bool.not_eq_false', decide_eq_false_iff_not, decide_eq_true_eq] at hg; first | omega | (refine And.intro ?_ ?_ <;> omega) | (refine And.intro ?_ (And.intro ?_ ?_) <;> first | omega | (show _ < _; omega) | exact Nat.le_of_ble_eq_true rfl)) | (refine And.intro ?_ ?_ <;> omega) | (refine And.intro ?_ (And.intro ?_ ?_) <;> first | omega | (show _ < _; omega) | exact Nat.le_of_ble_eq_true rfl)); done)); (conv => whnf))))
  refine EvDraw.meet (.q 0 (.q 1 (.q 2 (.q 3 (.q 4 (.q 5 (.q 6 (.q 9 (.q 10 (.q 11 (.q 12 (.n 7 false (.q 8 (.n 13 false (.q 14 (.q 15 (.q 16 (.n 17 false (.n 18 true (.q 19 (.z)) (.e)) (.e))))) (.n 17 false (.n 13 false (.q 14 (.q 15 (.q 16 (.n 18 true (.q 19 (.z)) (.e))))) (.e)) (.e)))) (.n 17 false (.n 7 false (.q 8 (.n 13 false (.q 14 (.q 15 (.q 16 (.n 18 true (.q 19 (.z)) (.e))))) (.e))) (.e)) (.e)))))))))))))) (by kernel_rfl) (α := Unit) (fun _ => True) (fun _ => [(10, [], .v (.bool (false))), (11, [], .p 3 0), (12, [], .s 4 1 sp cap), (15, [], .p 5 0), (16, [], .v (.int .i64 (0)))])
    (fun _ => [⟨5, true, 32, 4, 1, .cs (clS x)⟩, ⟨4, true, 3, 1, cap, .rows Int rI (walkL d ms sp)⟩, ⟨3, true, 27, 12, 1, .cs (dcS nm (.s 2 2 l.length c3) d)⟩, ⟨2, true, 108, 2, c3, .rows (ByteArray × ByteArray) rL l⟩]) 6 ?_ ?_
  · ((conv => whnf); (repeat (refine And.intro ?_ ?_; (focus ((first | omega | (intro hg; simp only [Bool.or_eq_false_iff, Bool.or_eq_true, Bool.and_eq_true, Bool.and_eq_false_iff, Bool.not_eq_true, Bool.not_eq_false, Bool.not_eq_true', Bool.not_eq_false', decide_eq_false_iff_not, decide_eq_true_eq] at hg; first | omega | (refine And.intro ?_ ?_ <;> omega) | (refine And.intro ?_ (And.intro ?_ ?_) <;> first | omega | (show _ < _; omega) | exact Nat.le_of_ble_eq_true rfl)) | (refine And.intro ?_ ?_ <;> omega) | (refine And.intro ?_ (And.intro ?_ ?_) <;> first | omega | (show _ < _; omega) | exact Nat.le_of_ble_eq_true rfl)); done)); (conv => whnf))))
    refine And.intro ?_ ?_
    · ((conv => whnf); (repeat (refine And.intro ?_ ?_; (focus ((first | omega | (intro hg; simp only [Bool.or_eq_false_iff, Bool.or_eq_true, Bool.and_eq_true, Bool.and_eq_false_iff, Bool.not_eq_true, Bool.not_eq_false, Bool.not_eq_true', Bool.not_eq_false', decide_eq_false_iff_not, decide_eq_true_eq] at hg; first | omega | (refine And.intro ?_ ?_ <;> omega) | (refine And.intro ?_ (And.intro ?_ ?_) <;> first | omega | (show _ < _; omega) | exact Nat.le_of_ble_eq_true rfl)) | (refine And.intro ?_ ?_ <;> omega) | (refine And.intro ?_ (And.intro ?_ ?_) <;> first | omega | (show _ < _; omega) | exact Nat.le_of_ble_eq_true rfl)); done)); (conv => whnf))))
      refine EvCall.plain Try.call19 (.v (.int .i64 (arnd a 6))) rfl (fun ρ W hp => around_s _ _ _ ha (by omega) (by omega)) ?_
      ((conv => whnf); (repeat (refine And.intro ?_ ?_; (focus ((first | omega | (intro hg; simp only [Bool.or_eq_false_iff, Bool.or_eq_true, Bool.and_eq_true, Bool.and_eq_false_iff, Bool.not_eq_true, Bool.not_eq_false, Bool.not_eq_true', Bool.not_eq_false', decide_eq_false_iff_not, decide_eq_true_eq] at hg; first | omega | (refine And.intro ?_ ?_ <;> omega) | (refine And.intro ?_ (And.intro ?_ ?_) <;> first | omega | (show _ < _; omega) | exact Nat.le_of_ble_eq_true rfl)) | (refine And.intro ?_ ?_ <;> omega) | (refine And.intro ?_ (And.intro ?_ ?_) <;> first | omega | (show _ < _; omega) | exact Nat.le_of_ble_eq_true rfl)); done)); (conv => whnf))))
      refine And.intro ?_ ?_
      · ((conv => whnf); (repeat (refine And.intro ?_ ?_; (focus ((first | omega | (intro hg; simp only [Bool.or_eq_false_iff, Bool.or_eq_true, Bool.and_eq_true, Bool.and_eq_false_iff, Bool.not_eq_true, Bool.not_eq_false, Bool.not_eq_true', Bool.not_eq_false', decide_eq_false_iff_not, decide_eq_true_eq] at hg; first | omega | (refine And.intro ?_ ?_ <;> omega) | (refine And.intro ?_ (And.intro ?_ ?_) <;> first | omega | (show _ < _; omega) | exact Nat.le_of_ble_eq_true rfl)) | (refine And.intro ?_ ?_ <;> omega) | (refine And.intro ?_ (And.intro ?_ ?_) <;> first | omega | (show _ < _; omega) | exact Nat.le_of_ble_eq_true rfl)); done)); (conv => whnf))))
        refine EvCall.plain Try.call17 (.t [.a (clS x), .v (.int .i64 0)]) rfl (fun ρ W hp => by
          have := of_s _ d (max 0 (d.first + i - arnd b 6)) (d.first + i + arnd a 6) (walkV d ms i) W (hp.decl (d := d) (n := 2) hnm hl hc1 hc2 rfl) hI (by unfold I64; omega) (by unfold I64; omega) (by unfold I64; omega)
          rw [hx, ← hg] at this
          exact this) ?_
        ((conv => whnf); (repeat (refine And.intro ?_ ?_; (focus ((first | omega | (intro hg; simp only [Bool.or_eq_false_iff, Bool.or_eq_true, Bool.and_eq_true, Bool.and_eq_false_iff, Bool.not_eq_true, Bool.not_eq_false, Bool.not_eq_true', Bool.not_eq_false', decide_eq_false_iff_not, decide_eq_true_eq] at hg; first | omega | (refine And.intro ?_ ?_ <;> omega) | (refine And.intro ?_ (And.intro ?_ ?_) <;> first | omega | (show _ < _; omega) | exact Nat.le_of_ble_eq_true rfl)) | (refine And.intro ?_ ?_ <;> omega) | (refine And.intro ?_ (And.intro ?_ ?_) <;> first | omega | (show _ < _; omega) | exact Nat.le_of_ble_eq_true rfl)); done)); (conv => whnf))))
        refine Exists.intro () (And.intro trivial (Sub.of [] [] rfl ?_))
        ((repeat' (refine And.intro ?_ ?_)) <;> first | rfl | trivial | omega)
      ((conv => whnf); (repeat (refine And.intro ?_ ?_; (focus ((first | omega | (intro hg; simp only [Bool.or_eq_false_iff, Bool.or_eq_true, Bool.and_eq_true, Bool.and_eq_false_iff, Bool.not_eq_true, Bool.not_eq_false, Bool.not_eq_true', Bool.not_eq_false', decide_eq_false_iff_not, decide_eq_true_eq] at hg; first | omega | (refine And.intro ?_ ?_ <;> omega) | (refine And.intro ?_ (And.intro ?_ ?_) <;> first | omega | (show _ < _; omega) | exact Nat.le_of_ble_eq_true rfl)) | (refine And.intro ?_ ?_ <;> omega) | (refine And.intro ?_ (And.intro ?_ ?_) <;> first | omega | (show _ < _; omega) | exact Nat.le_of_ble_eq_true rfl)); done)); (conv => whnf))))
      refine EvCall.plain Try.call17 (.t [.a (clS x), .v (.int .i64 0)]) rfl (fun ρ W hp => by
        have := of_s _ d (max 0 (d.first + i - arnd b 6)) (d.first + i + arnd a 6) (walkV d ms i) W (hp.decl (d := d) (n := 2) hnm hl hc1 hc2 rfl) hI (by unfold I64; omega) (by unfold I64; omega) (by unfold I64; omega)
        rw [hx, ← hg] at this
        exact this) ?_
      ((conv => whnf); (repeat (refine And.intro ?_ ?_; (focus ((first | omega | (intro hg; simp only [Bool.or_eq_false_iff, Bool.or_eq_true, Bool.and_eq_true, Bool.and_eq_false_iff, Bool.not_eq_true, Bool.not_eq_false, Bool.not_eq_true', Bool.not_eq_false', decide_eq_false_iff_not, decide_eq_true_eq] at hg; first | omega | (refine And.intro ?_ ?_ <;> omega) | (refine And.intro ?_ (And.intro ?_ ?_) <;> first | omega | (show _ < _; omega) | exact Nat.le_of_ble_eq_true rfl)) | (refine And.intro ?_ ?_ <;> omega) | (refine And.intro ?_ (And.intro ?_ ?_) <;> first | omega | (show _ < _; omega) | exact Nat.le_of_ble_eq_true rfl)); done)); (conv => whnf))))
      refine Exists.intro () (And.intro trivial (Sub.of [] [] rfl ?_))
      ((repeat' (refine And.intro ?_ ?_)) <;> first | rfl | trivial | omega)
    ((conv => whnf); (repeat (refine And.intro ?_ ?_; (focus ((first | omega | (intro hg; simp only [Bool.or_eq_false_iff, Bool.or_eq_true, Bool.and_eq_true, Bool.and_eq_false_iff, Bool.not_eq_true, Bool.not_eq_false, Bool.not_eq_true', Bool.not_eq_false', decide_eq_false_iff_not, decide_eq_true_eq] at hg; first | omega | (refine And.intro ?_ ?_ <;> omega) | (refine And.intro ?_ (And.intro ?_ ?_) <;> first | omega | (show _ < _; omega) | exact Nat.le_of_ble_eq_true rfl)) | (refine And.intro ?_ ?_ <;> omega) | (refine And.intro ?_ (And.intro ?_ ?_) <;> first | omega | (show _ < _; omega) | exact Nat.le_of_ble_eq_true rfl)); done)); (conv => whnf))))
    refine EvCall.plain Try.call19 (.v (.int .i64 (arnd a 6))) rfl (fun ρ W hp => around_s _ _ _ ha (by omega) (by omega)) ?_
    ((conv => whnf); (repeat (refine And.intro ?_ ?_; (focus ((first | omega | (intro hg; simp only [Bool.or_eq_false_iff, Bool.or_eq_true, Bool.and_eq_true, Bool.and_eq_false_iff, Bool.not_eq_true, Bool.not_eq_false, Bool.not_eq_true', Bool.not_eq_false', decide_eq_false_iff_not, decide_eq_true_eq] at hg; first | omega | (refine And.intro ?_ ?_ <;> omega) | (refine And.intro ?_ (And.intro ?_ ?_) <;> first | omega | (show _ < _; omega) | exact Nat.le_of_ble_eq_true rfl)) | (refine And.intro ?_ ?_ <;> omega) | (refine And.intro ?_ (And.intro ?_ ?_) <;> first | omega | (show _ < _; omega) | exact Nat.le_of_ble_eq_true rfl)); done)); (conv => whnf))))
    refine EvCall.plain Try.call17 (.t [.a (clS x), .v (.int .i64 0)]) rfl (fun ρ W hp => by
      have := of_s _ d (max 0 (d.first + i - arnd b 6)) (d.first + i + arnd a 6) (walkV d ms i) W (hp.decl (d := d) (n := 2) hnm hl hc1 hc2 rfl) hI (by unfold I64; omega) (by unfold I64; omega) (by unfold I64; omega)
      rw [hx, ← hg] at this
      exact this) ?_
    ((conv => whnf); (repeat (refine And.intro ?_ ?_; (focus ((first | omega | (intro hg; simp only [Bool.or_eq_false_iff, Bool.or_eq_true, Bool.and_eq_true, Bool.and_eq_false_iff, Bool.not_eq_true, Bool.not_eq_false, Bool.not_eq_true', Bool.not_eq_false', decide_eq_false_iff_not, decide_eq_true_eq] at hg; first | omega | (refine And.intro ?_ ?_ <;> omega) | (refine And.intro ?_ (And.intro ?_ ?_) <;> first | omega | (show _ < _; omega) | exact Nat.le_of_ble_eq_true rfl)) | (refine And.intro ?_ ?_ <;> omega) | (refine And.intro ?_ (And.intro ?_ ?_) <;> first | omega | (show _ < _; omega) | exact Nat.le_of_ble_eq_true rfl)); done)); (conv => whnf))))
    refine Exists.intro () (And.intro trivial (Sub.of [] [] rfl ?_))
    ((repeat' (refine And.intro ?_ ?_)) <;> first | rfl | trivial | omega)
  intro _ _
  ((conv => whnf); (repeat (refine And.intro ?_ ?_; (focus ((first | omega | (intro hg; simp only [Bool.or_eq_false_iff, Bool.or_eq_true, Bool.and_eq_true, Bool.and_eq_false_iff, Bool.not_eq_true, Bool.not_eq_false, Bool.not_eq_true', Bool.not_eq_false', decide_eq_false_iff_not, decide_eq_true_eq] at hg; first | omega | (refine And.intro ?_ ?_ <;> omega) | (refine And.intro ?_ (And.intro ?_ ?_) <;> first | omega | (show _ < _; omega) | exact Nat.le_of_ble_eq_true rfl)) | (refine And.intro ?_ ?_ <;> omega) | (refine And.intro ?_ (And.intro ?_ ?_) <;> first | omega | (show _ < _; omega) | exact Nat.le_of_ble_eq_true rfl)); done)); (conv => whnf))))
  refine EvCallC.plain Try.call27 (.v (.bool true)) rfl (fun _ ρ W hp => hH.1 ▸ valid_s _ _ _ _ d x W) ?_
  ((conv => whnf); (repeat (refine And.intro ?_ ?_; (focus ((first | omega | (intro hg; simp only [Bool.or_eq_false_iff, Bool.or_eq_true, Bool.and_eq_true, Bool.and_eq_false_iff, Bool.not_eq_true, Bool.not_eq_false, Bool.not_eq_true', Bool.not_eq_false', decide_eq_false_iff_not, decide_eq_true_eq] at hg; first | omega | (refine And.intro ?_ ?_ <;> omega) | (refine And.intro ?_ (And.intro ?_ ?_) <;> first | omega | (show _ < _; omega) | exact Nat.le_of_ble_eq_true rfl)) | (refine And.intro ?_ ?_ <;> omega) | (refine And.intro ?_ (And.intro ?_ ?_) <;> first | omega | (show _ < _; omega) | exact Nat.le_of_ble_eq_true rfl)); done)); (conv => whnf))))
  refine EvCallC.plain Try.call28 (.v (.bool true)) rfl (fun _ ρ W hp => by
    have := holds_s nm (ρ 2) l.length c3 d x _ (walkL d ms sp) W hT (hp.rowsIn (R := rI) (n := 4) (c := cap) (xs := walkL d ms sp) rfl (by decide) (by rw [hll]; exact hc3) hc4 1)
    rw [holdsB'_t.2 hH, hll] at this
    exact this) ?_
  ((conv => whnf); (repeat (refine And.intro ?_ ?_; (focus ((first | omega | (intro hg; simp only [Bool.or_eq_false_iff, Bool.or_eq_true, Bool.and_eq_true, Bool.and_eq_false_iff, Bool.not_eq_true, Bool.not_eq_false, Bool.not_eq_true', Bool.not_eq_false', decide_eq_false_iff_not, decide_eq_true_eq] at hg; first | omega | (refine And.intro ?_ ?_ <;> omega) | (refine And.intro ?_ (And.intro ?_ ?_) <;> first | omega | (show _ < _; omega) | exact Nat.le_of_ble_eq_true rfl)) | (refine And.intro ?_ ?_ <;> omega) | (refine And.intro ?_ (And.intro ?_ ?_) <;> first | omega | (show _ < _; omega) | exact Nat.le_of_ble_eq_true rfl)); done)); (conv => whnf))))
  refine EvCallC.plain Try.call21 (.v (.bool true)) rfl (fun _ ρ W hp => lives11_s W) ?_
  ((conv => whnf); (repeat (refine And.intro ?_ ?_; (focus ((first | omega | (intro hg; simp only [Bool.or_eq_false_iff, Bool.or_eq_true, Bool.and_eq_true, Bool.and_eq_false_iff, Bool.not_eq_true, Bool.not_eq_false, Bool.not_eq_true', Bool.not_eq_false', decide_eq_false_iff_not, decide_eq_true_eq] at hg; first | omega | (refine And.intro ?_ ?_ <;> omega) | (refine And.intro ?_ (And.intro ?_ ?_) <;> first | omega | (show _ < _; omega) | exact Nat.le_of_ble_eq_true rfl)) | (refine And.intro ?_ ?_ <;> omega) | (refine And.intro ?_ (And.intro ?_ ?_) <;> first | omega | (show _ < _; omega) | exact Nat.le_of_ble_eq_true rfl)); done)); (conv => whnf))))
  exact EvRet.ret (fun ρ => rfl)
theorem walk_ClaimsSound (w : World) (V0 : Value) (zs : List Int) (h : Ints w V0 zs) (V1 : Value) (ms : List Int) (h2 : Ints w V1 ms) (at_ : Int) (hat : I64 at_) (b : Int) (hb : I64 b) (a : Int) (ha : I64 a) :
    Calls Try.prog 5 #[V0, V1, .int .i64 at_, .int .i64 b, .int .i64 a] w fun e w' => e = .returned (.bool true) ∧ Below w.heap.size w w' :=
  (claimssound_s V0 V1 zs ms at_ b a w h h2 hat hb ha).out
end Go.Proofs.Ytofekfpbljihiaa
