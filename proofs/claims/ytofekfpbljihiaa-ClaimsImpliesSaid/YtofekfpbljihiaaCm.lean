/- The law ClaimsImplies, walked. -/
import Derived.Test.YtofekfpbljihiaaCk
namespace Go.Proofs.Ytofekfpbljihiaa
open Go.RowKit
set_option linter.unusedVariables false
set_option linter.unusedSimpArgs false

theorem implies_none (d : Dc) (x y : Cl) (vs : List Int) : (((((decide (x.f ≤ y.f) && decide (y.t ≤ x.t)) && decide (y.lo ≤ x.lo)) && decide (x.hi ≤ y.hi)) && validB d y && holdsB' d x vs) && !holdsB' d y vs) = false := by
  cases h : (((decide (x.f ≤ y.f) && decide (y.t ≤ x.t)) && decide (y.lo ≤ x.lo)) && decide (x.hi ≤ y.hi)) with
  | false => simp
  | true =>
    cases h1 : validB d y with
    | false => simp
    | true =>
      cases h2 : holdsB' d x vs with
      | false => simp
      | true =>
        simp only [Bool.and_eq_true, decide_eq_true_eq] at h
        have h3 := holdsB'_t.1 h2
        rw [holdsB'_t.2 ⟨h1, h3.2.1, fun i hi1 hi2 => by
          have := h3.2.2 i (by omega) (by omega)
          omega⟩]
        rfl
set_option maxRecDepth 10000 in
theorem claimsimplies_s (v1 v2 v3 : Value) (zs ms ks : List Int) (a b : Cl) (w : World) (h1 : Ints w v1 zs) (h2 : Ints w v2 ms) (h3 : Ints w v3 ks) :
    Con Try.prog 8 #[v1, v2, v3, .agg (clA a), .agg (clA b)] w (Ret w (.bool true)) := by
  obtain ⟨A1, c1, rfl, e1, e2⟩ := h1.form
  obtain ⟨A2, c2, rfl, e3, e4⟩ := h2.form
  obtain ⟨A3, c3, rfl, e5, e6⟩ := h3.form
  have hT := declOf_T zs
  refine enter tabOk mixed Try.func8 rfl Try.ntmps8 Try.results8 [.s 0 1 zs.length c1, .s 1 1 ms.length c2, .s 2 1 ks.length c3, .a (clS a), .a (clS b)] (fun n => if n = 0 then A1 else if n = 1 then A2 else A3) [⟨2, false, 3, 1, c3, .rows Int rI (ks)⟩, ⟨1, false, 3, 1, c2, .rows Int rI (ms)⟩, ⟨0, false, 3, 1, c1, .rows Int rI (zs)⟩] 3 rfl rfl (.ro (.ro (.ro (hp0 _ _ _) _ rfl rfl rfl (ro_ints h1 rfl _)) _ rfl rfl rfl (ro_ints h2 rfl _)) _ rfl rfl rfl (ro_ints h3 rfl _)) ?_
  ((conv => whnf); (repeat (refine And.intro ?_ ?_; (focus ((first | omega | (intro hg; simp only [Bool.or_eq_false_iff, Bool.or_eq_true, Bool.and_eq_true, Bool.and_eq_false_iff, Bool.not_eq_true, Bool.not_eq_false, Bool.not_eq_true', Bool.not_eq_false', decide_eq_false_iff_not, decide_eq_true_eq] at hg; first | omega | (refine And.intro ?_ ?_ <;> omega) | (refine And.intro ?_ (And.intro ?_ ?_) <;> first | omega | (show _ < _; omega) | exact Nat.le_of_ble_eq_true rfl)) | (refine And.intro ?_ ?_ <;> omega) | (refine And.intro ?_ (And.intro ?_ ?_) <;> first | omega | (show _ < _; omega) | exact Nat.le_of_ble_eq_true rfl)); done)); (conv => whnf))))
  refine EvCall.decl Try.call15 (fun ρ W hp => decl_s _ zs W (hp.ints (n := 0) rfl e1 e2 h1.2)) (fun nm l c4 hnm hl hc1 hc2 => ?_)
  generalize declOf zs = d at hT ⊢
  have hTT := hT
  obtain ⟨k1, k2, k3⟩ := hTT
  obtain ⟨sp, hsp⟩ : ∃ sp : Nat, (d.last - d.first + 1).toNat = sp := ⟨_, rfl⟩
  ((conv => whnf); (repeat (refine And.intro ?_ ?_; (focus ((first | omega | (intro hg; simp only [Bool.or_eq_false_iff, Bool.or_eq_true, Bool.and_eq_true, Bool.and_eq_false_iff, Bool.not_eq_true, Bool.not_eq_false, Bool.not_eq_true', Bool.not_eq_false', decide_eq_false_iff_not, decide_eq_true_eq] at hg; first | omega | (refine And.intro ?_ ?_ <;> omega) | (refine And.intro ?_ (And.intro ?_ ?_) <;> first | omega | (show _ < _; omega) | exact Nat.le_of_ble_eq_true rfl)) | (refine And.intro ?_ ?_ <;> omega) | (refine And.intro ?_ (And.intro ?_ ?_) <;> first | omega | (show _ < _; omega) | exact Nat.le_of_ble_eq_true rfl)); done)); (conv => whnf))))
  refine EvCall.rows (R := rI) (ty := 3) (xs := walkL d ms sp) Try.call26 (fun ρ W hp => hsp ▸ walk_s nm _ _ _ d _ ms W hT (hp.ints (n := 1) rfl e3 e4 h2.2)) (fun cap hc3 hc4 => ?_)
  generalize walkL d ms sp = vs at hc3 ⊢
  have hwn : wildN ks 3 ≤ 3 := by unfold wildN; omega
  have hwl := wildL_len d ks (wildN ks 3)
  generalize hws : wildL d ks (wildN ks 3) = ws at hwl
  ((conv => whnf); (repeat (refine And.intro ?_ ?_; (focus ((first | omega | (intro hg; simp only [Bool.or_eq_false_iff, Bool.or_eq_true, Bool.and_eq_true, Bool.and_eq_false_iff, Bool.not_eq_true, Bool.not_eq_false, Bool.not_eq_true', Bool.not_eq_false', decide_eq_false_iff_not, decide_eq_true_eq] at hg; first | omega | (refine And.intro ?_ ?_ <;> omega) | (refine And.intro ?_ (And.intro ?_ ?_) <;> first | omega | (show _ < _; omega) | exact Nat.le_of_ble_eq_true rfl)) | (refine And.intro ?_ ?_ <;> omega) | (refine And.intro ?_ (And.intro ?_ ?_) <;> first | omega | (show _ < _; omega) | exact Nat.le_of_ble_eq_true rfl)); done)); (conv => whnf))))
  refine EvDraw.meet (.q 0 (.q 1 (.q 3 (.q 4 (.n 2 false (.n 5 false (.n 6 true (.q 7 (.z)) (.e)) (.e)) (.n 5 false (.n 2 false (.n 6 true (.q 7 (.z)) (.e)) (.e)) (.e))))))) (by kernel_rfl) (α := Nat) (fun cp => (ws ++ [a, b]).length ≤ cp ∧ cp ≤ 9223372036854775807) (fun cp => [(11, [], .p 6 0), (12, [], .s 7 1 vs.length cap), (13, [], .s 8 4 (ws ++ [a, b]).length cp)])
    (fun cp => [⟨8, true, 32, 4, cp, .rows Cl rC (ws ++ [a, b])⟩, ⟨7, true, 3, 1, cap, .rows Int rI vs⟩, ⟨6, true, 27, 12, 1, .cs (dcS nm (.s 5 2 l.length c4) d)⟩, ⟨5, true, 108, 2, c4, .rows (ByteArray × ByteArray) rL l⟩]) 9 ?_ ?_
  · ((conv => whnf); (repeat (refine And.intro ?_ ?_; (focus ((first | omega | (intro hg; simp only [Bool.or_eq_false_iff, Bool.or_eq_true, Bool.and_eq_true, Bool.and_eq_false_iff, Bool.not_eq_true, Bool.not_eq_false, Bool.not_eq_true', Bool.not_eq_false', decide_eq_false_iff_not, decide_eq_true_eq] at hg; first | omega | (refine And.intro ?_ ?_ <;> omega) | (refine And.intro ?_ (And.intro ?_ ?_) <;> first | omega | (show _ < _; omega) | exact Nat.le_of_ble_eq_true rfl)) | (refine And.intro ?_ ?_ <;> omega) | (refine And.intro ?_ (And.intro ?_ ?_) <;> first | omega | (show _ < _; omega) | exact Nat.le_of_ble_eq_true rfl)); done)); (conv => whnf))))
    refine And.intro ?_ ?_
    · ((conv => whnf); (repeat (refine And.intro ?_ ?_; (focus ((first | omega | (intro hg; simp only [Bool.or_eq_false_iff, Bool.or_eq_true, Bool.and_eq_true, Bool.and_eq_false_iff, Bool.not_eq_true, Bool.not_eq_false, Bool.not_eq_true', Bool.not_eq_false', decide_eq_false_iff_not, decide_eq_true_eq] at hg; first | omega | (refine And.intro ?_ ?_ <;> omega) | (refine And.intro ?_ (And.intro ?_ ?_) <;> first | omega | (show _ < _; omega) | exact Nat.le_of_ble_eq_true rfl)) | (refine And.intro ?_ ?_ <;> omega) | (refine And.intro ?_ (And.intro ?_ ?_) <;> first | omega | (show _ < _; omega) | exact Nat.le_of_ble_eq_true rfl)); done)); (conv => whnf))))
      refine EvCall.rows (R := rC) (ty := 32) (xs := ws) Try.call29 (fun ρ W hp => hws ▸ wild_s nm _ _ _ d _ ks 3 W hT (hp.ints (n := 2) rfl e5 e6 h3.2) (by omega)) (fun cap2 hq1 hq2 => ?_)
      ((conv => whnf); (repeat (refine And.intro ?_ ?_; (focus ((first | omega | (intro hg; simp only [Bool.or_eq_false_iff, Bool.or_eq_true, Bool.and_eq_true, Bool.and_eq_false_iff, Bool.not_eq_true, Bool.not_eq_false, Bool.not_eq_true', Bool.not_eq_false', decide_eq_false_iff_not, decide_eq_true_eq] at hg; first | omega | (refine And.intro ?_ ?_ <;> omega) | (refine And.intro ?_ (And.intro ?_ ?_) <;> first | omega | (show _ < _; omega) | exact Nat.le_of_ble_eq_true rfl)) | (refine And.intro ?_ ?_ <;> omega) | (refine And.intro ?_ (And.intro ?_ ?_) <;> first | omega | (show _ < _; omega) | exact Nat.le_of_ble_eq_true rfl)); done)); (conv => whnf))))
      refine EvBi.append (R := rC) tyok39 rfl tyok32 rfl (by decide) rfl rfl rfl hq1 [a, b] (fun ρ W hp => hp.lit (R := rC) (ys := [a, b]) (n := 9) rfl (by decide) (by simp) (by omega) rfl) (by show (_ + 2) * 32 ≤ _; omega) (by show _ + 2 ≤ _; omega) (fun cap3 hq3 hq4 => ?_)
      ((conv => whnf); (repeat (refine And.intro ?_ ?_; (focus ((first | omega | (intro hg; simp only [Bool.or_eq_false_iff, Bool.or_eq_true, Bool.and_eq_true, Bool.and_eq_false_iff, Bool.not_eq_true, Bool.not_eq_false, Bool.not_eq_true', Bool.not_eq_false', decide_eq_false_iff_not, decide_eq_true_eq] at hg; first | omega | (refine And.intro ?_ ?_ <;> omega) | (refine And.intro ?_ (And.intro ?_ ?_) <;> first | omega | (show _ < _; omega) | exact Nat.le_of_ble_eq_true rfl)) | (refine And.intro ?_ ?_ <;> omega) | (refine And.intro ?_ (And.intro ?_ ?_) <;> first | omega | (show _ < _; omega) | exact Nat.le_of_ble_eq_true rfl)); done)); (conv => whnf))))
      refine Exists.intro cap3 (And.intro ⟨by simpa using hq3, hq4⟩ (Sub.of [(8, 10)] [] rfl ?_))
      (repeat' (refine And.intro ?_ ?_)) <;> first | rfl | trivial | omega | exact List.length_append .. | exact (List.length_append ..).symm
    ((conv => whnf); (repeat (refine And.intro ?_ ?_; (focus ((first | omega | (intro hg; simp only [Bool.or_eq_false_iff, Bool.or_eq_true, Bool.and_eq_true, Bool.and_eq_false_iff, Bool.not_eq_true, Bool.not_eq_false, Bool.not_eq_true', Bool.not_eq_false', decide_eq_false_iff_not, decide_eq_true_eq] at hg; first | omega | (refine And.intro ?_ ?_ <;> omega) | (refine And.intro ?_ (And.intro ?_ ?_) <;> first | omega | (show _ < _; omega) | exact Nat.le_of_ble_eq_true rfl)) | (refine And.intro ?_ ?_ <;> omega) | (refine And.intro ?_ (And.intro ?_ ?_) <;> first | omega | (show _ < _; omega) | exact Nat.le_of_ble_eq_true rfl)); done)); (conv => whnf))))
    refine EvCall.rows (R := rC) (ty := 32) (xs := ws) Try.call29 (fun ρ W hp => hws ▸ wild_s nm _ _ _ d _ ks 3 W hT (hp.ints (n := 2) rfl e5 e6 h3.2) (by omega)) (fun cap2 hq1 hq2 => ?_)
    ((conv => whnf); (repeat (refine And.intro ?_ ?_; (focus ((first | omega | (intro hg; simp only [Bool.or_eq_false_iff, Bool.or_eq_true, Bool.and_eq_true, Bool.and_eq_false_iff, Bool.not_eq_true, Bool.not_eq_false, Bool.not_eq_true', Bool.not_eq_false', decide_eq_false_iff_not, decide_eq_true_eq] at hg; first | omega | (refine And.intro ?_ ?_ <;> omega) | (refine And.intro ?_ (And.intro ?_ ?_) <;> first | omega | (show _ < _; omega) | exact Nat.le_of_ble_eq_true rfl)) | (refine And.intro ?_ ?_ <;> omega) | (refine And.intro ?_ (And.intro ?_ ?_) <;> first | omega | (show _ < _; omega) | exact Nat.le_of_ble_eq_true rfl)); done)); (conv => whnf))))
    refine EvBi.append (R := rC) tyok39 rfl tyok32 rfl (by decide) rfl rfl rfl hq1 [a, b] (fun ρ W hp => hp.lit (R := rC) (ys := [a, b]) (n := 8) rfl (by decide) (by simp) (by omega) rfl) (by show (_ + 2) * 32 ≤ _; omega) (by show _ + 2 ≤ _; omega) (fun cap3 hq3 hq4 => ?_)
    ((conv => whnf); (repeat (refine And.intro ?_ ?_; (focus ((first | omega | (intro hg; simp only [Bool.or_eq_false_iff, Bool.or_eq_true, Bool.and_eq_true, Bool.and_eq_false_iff, Bool.not_eq_true, Bool.not_eq_false, Bool.not_eq_true', Bool.not_eq_false', decide_eq_false_iff_not, decide_eq_true_eq] at hg; first | omega | (refine And.intro ?_ ?_ <;> omega) | (refine And.intro ?_ (And.intro ?_ ?_) <;> first | omega | (show _ < _; omega) | exact Nat.le_of_ble_eq_true rfl)) | (refine And.intro ?_ ?_ <;> omega) | (refine And.intro ?_ (And.intro ?_ ?_) <;> first | omega | (show _ < _; omega) | exact Nat.le_of_ble_eq_true rfl)); done)); (conv => whnf))))
    refine Exists.intro cap3 (And.intro ⟨by simpa using hq3, hq4⟩ (Sub.of [(8, 10)] [] rfl ?_))
    (repeat' (refine And.intro ?_ ?_)) <;> first | rfl | trivial | omega | exact List.length_append .. | exact (List.length_append ..).symm
  intro cp ⟨hp1, hp2⟩
  have hall : (ws ++ [a, b]).length ≤ 5 := by simp; omega
  generalize ws ++ [a, b] = all at hp1 hall ⊢
  ((conv => whnf); (repeat (refine And.intro ?_ ?_; (focus ((first | omega | (intro hg; simp only [Bool.or_eq_false_iff, Bool.or_eq_true, Bool.and_eq_true, Bool.and_eq_false_iff, Bool.not_eq_true, Bool.not_eq_false, Bool.not_eq_true', Bool.not_eq_false', decide_eq_false_iff_not, decide_eq_true_eq] at hg; first | omega | (refine And.intro ?_ ?_ <;> omega) | (refine And.intro ?_ (And.intro ?_ ?_) <;> first | omega | (show _ < _; omega) | exact Nat.le_of_ble_eq_true rfl)) | (refine And.intro ?_ ?_ <;> omega) | (refine And.intro ?_ (And.intro ?_ ?_) <;> first | omega | (show _ < _; omega) | exact Nat.le_of_ble_eq_true rfl)); done)); (conv => whnf))))
  refine EvLoop.inv (α := Nat) (fun i => i ≤ all.length) (fun i => all.length - i) (fun i => [(14, [], .v (.int .i64 ((i : Int)))), (11, [], .p 6 0), (12, [], .s 7 1 vs.length cap), (13, [], .s 8 4 all.length cp)])
    (fun i => [⟨8, true, 32, 4, cp, .rows Cl rC all⟩, ⟨7, true, 3, 1, cap, .rows Int rI vs⟩, ⟨6, true, 27, 12, 1, .cs (dcS nm (.s 5 2 l.length c4) d)⟩, ⟨5, true, 108, 2, c4, .rows (ByteArray × ByteArray) rL l⟩]) 9 0 (by omega) (Sub.of [] [] rfl ?_) ?_
  · ((repeat' (refine And.intro ?_ ?_)) <;> first | rfl | trivial | omega)
  intro i hi
  ((conv => whnf); (repeat (refine And.intro ?_ ?_; (focus ((first | omega | (intro hg; simp only [Bool.or_eq_false_iff, Bool.or_eq_true, Bool.and_eq_true, Bool.and_eq_false_iff, Bool.not_eq_true, Bool.not_eq_false, Bool.not_eq_true', Bool.not_eq_false', decide_eq_false_iff_not, decide_eq_true_eq] at hg; first | omega | (refine And.intro ?_ ?_ <;> omega) | (refine And.intro ?_ (And.intro ?_ ?_) <;> first | omega | (show _ < _; omega) | exact Nat.le_of_ble_eq_true rfl)) | (refine And.intro ?_ ?_ <;> omega) | (refine And.intro ?_ (And.intro ?_ ?_) <;> first | omega | (show _ < _; omega) | exact Nat.le_of_ble_eq_true rfl)); done)); (conv => whnf))))
  refine EvIf.split (fun g1 => ?_) (fun g1 => ?_)
  · simp only [decide_eq_true_eq] at g1
    ((conv => whnf); (repeat (refine And.intro ?_ ?_; (focus ((first | omega | (intro hg; simp only [Bool.or_eq_false_iff, Bool.or_eq_true, Bool.and_eq_true, Bool.and_eq_false_iff, Bool.not_eq_true, Bool.not_eq_false, Bool.not_eq_true', Bool.not_eq_false', decide_eq_false_iff_not, decide_eq_true_eq] at hg; first | omega | (refine And.intro ?_ ?_ <;> omega) | (refine And.intro ?_ (And.intro ?_ ?_) <;> first | omega | (show _ < _; omega) | exact Nat.le_of_ble_eq_true rfl)) | (refine And.intro ?_ ?_ <;> omega) | (refine And.intro ?_ (And.intro ?_ ?_) <;> first | omega | (show _ < _; omega) | exact Nat.le_of_ble_eq_true rfl)); done)); (conv => whnf))))
    refine EvLoop.inv (α := Nat) (fun j => j ≤ all.length) (fun j => all.length - j) (fun j => [(15, [], .v (.int .i64 ((j : Int)))), (14, [], .v (.int .i64 ((i : Int)))), (11, [], .p 6 0), (12, [], .s 7 1 vs.length cap), (13, [], .s 8 4 all.length cp)])
      (fun j => [⟨8, true, 32, 4, cp, .rows Cl rC all⟩, ⟨7, true, 3, 1, cap, .rows Int rI vs⟩, ⟨6, true, 27, 12, 1, .cs (dcS nm (.s 5 2 l.length c4) d)⟩, ⟨5, true, 108, 2, c4, .rows (ByteArray × ByteArray) rL l⟩]) 9 0 (by omega) (Sub.of [] [] rfl ?_) ?_
    · ((repeat' (refine And.intro ?_ ?_)) <;> first | rfl | trivial | omega)
    intro j hj
    ((conv => whnf); (repeat (refine And.intro ?_ ?_; (focus ((first | omega | (intro hg; simp only [Bool.or_eq_false_iff, Bool.or_eq_true, Bool.and_eq_true, Bool.and_eq_false_iff, Bool.not_eq_true, Bool.not_eq_false, Bool.not_eq_true', Bool.not_eq_false', decide_eq_false_iff_not, decide_eq_true_eq] at hg; first | omega | (refine And.intro ?_ ?_ <;> omega) | (refine And.intro ?_ (And.intro ?_ ?_) <;> first | omega | (show _ < _; omega) | exact Nat.le_of_ble_eq_true rfl)) | (refine And.intro ?_ ?_ <;> omega) | (refine And.intro ?_ (And.intro ?_ ?_) <;> first | omega | (show _ < _; omega) | exact Nat.le_of_ble_eq_true rfl)); done)); (conv => whnf))))
    refine EvIf.split (fun g2 => ?_) (fun g2 => ?_)
    · simp only [decide_eq_true_eq] at g2
      obtain ⟨x, hx⟩ : ∃ x, all.getD i cl0 = x := ⟨_, rfl⟩
      obtain ⟨y, hy⟩ : ∃ y, all.getD j cl0 = y := ⟨_, rfl⟩
      have hb : (decide (max x.f y.f ≤ min x.t y.t) && decide (max x.lo y.lo ≤ min x.hi y.hi)) = (meetR x y).2 := by
        by_cases hm : (meetC x y).t < (meetC x y).f ∨ (meetC x y).hi < (meetC x y).lo
        · rw [meetR, if_pos hm]
          simp only [meetC] at hm
          simp only [Bool.and_eq_false_iff, decide_eq_false_iff_not]
          omega
        · rw [meetR, if_neg hm]
          simp only [meetC] at hm
          simp only [Bool.and_eq_true, decide_eq_true_eq]
          omega
      ((conv => whnf); (repeat (refine And.intro ?_ ?_; (focus ((first | omega | (intro hg; simp only [Bool.or_eq_false_iff, Bool.or_eq_true, Bool.and_eq_true, Bool.and_eq_false_iff, Bool.not_eq_true, Bool.not_eq_false, Bool.not_eq_true', Bool.not_eq_false', decide_eq_false_iff_not, decide_eq_true_eq] at hg; first | omega | (refine And.intro ?_ ?_ <;> omega) | (refine And.intro ?_ (And.intro ?_ ?_) <;> first | omega | (show _ < _; omega) | exact Nat.le_of_ble_eq_true rfl)) | (refine And.intro ?_ ?_ <;> omega) | (refine And.intro ?_ (And.intro ?_ ?_) <;> first | omega | (show _ < _; omega) | exact Nat.le_of_ble_eq_true rfl)); done)); (conv => whnf))))
      refine EvCall.plain Try.call35 (.t [.a (clS (meetR x y).1), .v (.bool (meetR x y).2)]) rfl (fun ρ W hp => hx ▸ hy ▸ meet_s _ _ W) ?_
      ((conv => whnf); (repeat (refine And.intro ?_ ?_; (focus ((first | omega | (intro hg; simp only [Bool.or_eq_false_iff, Bool.or_eq_true, Bool.and_eq_true, Bool.and_eq_false_iff, Bool.not_eq_true, Bool.not_eq_false, Bool.not_eq_true', Bool.not_eq_false', decide_eq_false_iff_not, decide_eq_true_eq] at hg; first | omega | (refine And.intro ?_ ?_ <;> omega) | (refine And.intro ?_ (And.intro ?_ ?_) <;> first | omega | (show _ < _; omega) | exact Nat.le_of_ble_eq_true rfl)) | (refine And.intro ?_ ?_ <;> omega) | (refine And.intro ?_ (And.intro ?_ ?_) <;> first | omega | (show _ < _; omega) | exact Nat.le_of_ble_eq_true rfl)); done)); (conv => whnf))))
      refine EvIf.meet (α := Unit) (fun _ => True) (fun _ => [(16, [], .p 9 0), (17, [], .p 10 0), (18, [], .p 11 0), (19, [], .v (.bool ((meetR x y).2))), (20, [], .p 12 0), (21, [], .v (.bool ((meetR x y).2))), (15, [], .v (.int .i64 ((j : Int)))), (14, [], .v (.int .i64 ((i : Int)))), (11, [], .p 6 0), (12, [], .s 7 1 vs.length cap), (13, [], .s 8 4 all.length cp)])
        (fun _ => [⟨12, true, 32, 4, 1, .cs (clS (meetR x y).1)⟩, ⟨11, true, 32, 4, 1, .cs (clS (meetR x y).1)⟩, ⟨10, true, 32, 4, 1, .cs (clS y)⟩, ⟨9, true, 32, 4, 1, .cs (clS x)⟩, ⟨8, true, 32, 4, cp, .rows Cl rC all⟩, ⟨7, true, 3, 1, cap, .rows Int rI vs⟩, ⟨6, true, 27, 12, 1, .cs (dcS nm (.s 5 2 l.length c4) d)⟩, ⟨5, true, 108, 2, c4, .rows (ByteArray × ByteArray) rL l⟩]) 13 (fun g3 => ?_) (fun g3 => ?_) ?_
      · subst hx
        subst hy
        have g4 : (!(meetR (all.getD i cl0) (all.getD j cl0)).2) = true := hb ▸ g3
        have hmr : (meetR (all.getD i cl0) (all.getD j cl0)).1 = cl0 := by
          unfold meetR at g4 ⊢
          split at g4
          · rename_i h; rw [if_pos h]
          · cases g4
        ((conv => whnf); (repeat (refine And.intro ?_ ?_; (focus ((first | omega | (intro hg; simp only [Bool.or_eq_false_iff, Bool.or_eq_true, Bool.and_eq_true, Bool.and_eq_false_iff, Bool.not_eq_true, Bool.not_eq_false, Bool.not_eq_true', Bool.not_eq_false', decide_eq_false_iff_not, decide_eq_true_eq] at hg; first | omega | (refine And.intro ?_ ?_ <;> omega) | (refine And.intro ?_ (And.intro ?_ ?_) <;> first | omega | (show _ < _; omega) | exact Nat.le_of_ble_eq_true rfl)) | (refine And.intro ?_ ?_ <;> omega) | (refine And.intro ?_ (And.intro ?_ ?_) <;> first | omega | (show _ < _; omega) | exact Nat.le_of_ble_eq_true rfl)); done)); (conv => whnf))))
        refine Exists.intro () (And.intro trivial (Sub.of [] [] rfl ?_))
        (repeat' (refine And.intro ?_ ?_)) <;> first | rfl | trivial | exact hb | exact hb.symm | (rw [hmr]; rfl) | omega
      · subst hx
        subst hy
        have g4 : (!(meetR (all.getD i cl0) (all.getD j cl0)).2) = false := hb ▸ g3
        have hmr : (meetR (all.getD i cl0) (all.getD j cl0)).1 = meetC (all.getD i cl0) (all.getD j cl0) := by
          unfold meetR at g4 ⊢
          split at g4
          · cases g4
          · rename_i h; rw [if_neg h]
        ((conv => whnf); (repeat (refine And.intro ?_ ?_; (focus ((first | omega | (intro hg; simp only [Bool.or_eq_false_iff, Bool.or_eq_true, Bool.and_eq_true, Bool.and_eq_false_iff, Bool.not_eq_true, Bool.not_eq_false, Bool.not_eq_true', Bool.not_eq_false', decide_eq_false_iff_not, decide_eq_true_eq] at hg; first | omega | (refine And.intro ?_ ?_ <;> omega) | (refine And.intro ?_ (And.intro ?_ ?_) <;> first | omega | (show _ < _; omega) | exact Nat.le_of_ble_eq_true rfl)) | (refine And.intro ?_ ?_ <;> omega) | (refine And.intro ?_ (And.intro ?_ ?_) <;> first | omega | (show _ < _; omega) | exact Nat.le_of_ble_eq_true rfl)); done)); (conv => whnf))))
        refine Exists.intro () (And.intro trivial (Sub.of [] [] rfl ?_))
        (repeat' (refine And.intro ?_ ?_)) <;> first | rfl | trivial | exact hb | exact hb.symm | (rw [hmr]; rfl) | omega
      intro _ _
      ((conv => whnf); (repeat (refine And.intro ?_ ?_; (focus ((first | omega | (intro hg; simp only [Bool.or_eq_false_iff, Bool.or_eq_true, Bool.and_eq_true, Bool.and_eq_false_iff, Bool.not_eq_true, Bool.not_eq_false, Bool.not_eq_true', Bool.not_eq_false', decide_eq_false_iff_not, decide_eq_true_eq] at hg; first | omega | (refine And.intro ?_ ?_ <;> omega) | (refine And.intro ?_ (And.intro ?_ ?_) <;> first | omega | (show _ < _; omega) | exact Nat.le_of_ble_eq_true rfl)) | (refine And.intro ?_ ?_ <;> omega) | (refine And.intro ?_ (And.intro ?_ ?_) <;> first | omega | (show _ < _; omega) | exact Nat.le_of_ble_eq_true rfl)); done)); (conv => whnf))))
      refine EvCallC.plain Try.call36 (.v (.bool (decide (x.f ≤ y.f) && decide (y.t ≤ x.t) && decide (y.lo ≤ x.lo) && decide (x.hi ≤ y.hi)))) rfl (fun _ ρ W hp => implies_s x y W) ?_
      ((conv => whnf); (repeat (refine And.intro ?_ ?_; (focus ((first | omega | (intro hg; simp only [Bool.or_eq_false_iff, Bool.or_eq_true, Bool.and_eq_true, Bool.and_eq_false_iff, Bool.not_eq_true, Bool.not_eq_false, Bool.not_eq_true', Bool.not_eq_false', decide_eq_false_iff_not, decide_eq_true_eq] at hg; first | omega | (refine And.intro ?_ ?_ <;> omega) | (refine And.intro ?_ (And.intro ?_ ?_) <;> first | omega | (show _ < _; omega) | exact Nat.le_of_ble_eq_true rfl)) | (refine And.intro ?_ ?_ <;> omega) | (refine And.intro ?_ (And.intro ?_ ?_) <;> first | omega | (show _ < _; omega) | exact Nat.le_of_ble_eq_true rfl)); done)); (conv => whnf))))
      refine EvIf.neg (by simp) ?_
      ((conv => whnf); (repeat (refine And.intro ?_ ?_; (focus ((first | omega | (intro hg; simp only [Bool.or_eq_false_iff, Bool.or_eq_true, Bool.and_eq_true, Bool.and_eq_false_iff, Bool.not_eq_true, Bool.not_eq_false, Bool.not_eq_true', Bool.not_eq_false', decide_eq_false_iff_not, decide_eq_true_eq] at hg; first | omega | (refine And.intro ?_ ?_ <;> omega) | (refine And.intro ?_ (And.intro ?_ ?_) <;> first | omega | (show _ < _; omega) | exact Nat.le_of_ble_eq_true rfl)) | (refine And.intro ?_ ?_ <;> omega) | (refine And.intro ?_ (And.intro ?_ ?_) <;> first | omega | (show _ < _; omega) | exact Nat.le_of_ble_eq_true rfl)); done)); (conv => whnf))))
      refine EvCallC.plain Try.call27 (.v (.bool (validB d y))) rfl (fun _ ρ W hp => valid_s _ _ _ _ d y W) ?_
      ((conv => whnf); (repeat (refine And.intro ?_ ?_; (focus ((first | omega | (intro hg; simp only [Bool.or_eq_false_iff, Bool.or_eq_true, Bool.and_eq_true, Bool.and_eq_false_iff, Bool.not_eq_true, Bool.not_eq_false, Bool.not_eq_true', Bool.not_eq_false', decide_eq_false_iff_not, decide_eq_true_eq] at hg; first | omega | (refine And.intro ?_ ?_ <;> omega) | (refine And.intro ?_ (And.intro ?_ ?_) <;> first | omega | (show _ < _; omega) | exact Nat.le_of_ble_eq_true rfl)) | (refine And.intro ?_ ?_ <;> omega) | (refine And.intro ?_ (And.intro ?_ ?_) <;> first | omega | (show _ < _; omega) | exact Nat.le_of_ble_eq_true rfl)); done)); (conv => whnf))))
      refine EvCallC.plain Try.call28 (.v (.bool (holdsB' d x vs))) rfl (fun _ ρ W hp => holds_s nm (ρ 5) l.length c4 d x _ vs W hT (hp.rowsIn (R := rI) (n := 7) (c := cap) (xs := vs) rfl (by decide) hc3 hc4 1)) ?_
      ((conv => whnf); (repeat (refine And.intro ?_ ?_; (focus ((first | omega | (intro hg; simp only [Bool.or_eq_false_iff, Bool.or_eq_true, Bool.and_eq_true, Bool.and_eq_false_iff, Bool.not_eq_true, Bool.not_eq_false, Bool.not_eq_true', Bool.not_eq_false', decide_eq_false_iff_not, decide_eq_true_eq] at hg; first | omega | (refine And.intro ?_ ?_ <;> omega) | (refine And.intro ?_ (And.intro ?_ ?_) <;> first | omega | (show _ < _; omega) | exact Nat.le_of_ble_eq_true rfl)) | (refine And.intro ?_ ?_ <;> omega) | (refine And.intro ?_ (And.intro ?_ ?_) <;> first | omega | (show _ < _; omega) | exact Nat.le_of_ble_eq_true rfl)); done)); (conv => whnf))))
      refine EvCallC.plain Try.call28 (.v (.bool (holdsB' d y vs))) rfl (fun _ ρ W hp => holds_s nm (ρ 5) l.length c4 d y _ vs W hT (hp.rowsIn (R := rI) (n := 7) (c := cap) (xs := vs) rfl (by decide) hc3 hc4 1)) ?_
      ((conv => whnf); (repeat (refine And.intro ?_ ?_; (focus ((first | omega | (intro hg; simp only [Bool.or_eq_false_iff, Bool.or_eq_true, Bool.and_eq_true, Bool.and_eq_false_iff, Bool.not_eq_true, Bool.not_eq_false, Bool.not_eq_true', Bool.not_eq_false', decide_eq_false_iff_not, decide_eq_true_eq] at hg; first | omega | (refine And.intro ?_ ?_ <;> omega) | (refine And.intro ?_ (And.intro ?_ ?_) <;> first | omega | (show _ < _; omega) | exact Nat.le_of_ble_eq_true rfl)) | (refine And.intro ?_ ?_ <;> omega) | (refine And.intro ?_ (And.intro ?_ ?_) <;> first | omega | (show _ < _; omega) | exact Nat.le_of_ble_eq_true rfl)); done)); (conv => whnf))))
      refine EvIf.neg (implies_none d x y vs) ?_
      ((conv => whnf); (repeat (refine And.intro ?_ ?_; (focus ((first | omega | (intro hg; simp only [Bool.or_eq_false_iff, Bool.or_eq_true, Bool.and_eq_true, Bool.and_eq_false_iff, Bool.not_eq_true, Bool.not_eq_false, Bool.not_eq_true', Bool.not_eq_false', decide_eq_false_iff_not, decide_eq_true_eq] at hg; first | omega | (refine And.intro ?_ ?_ <;> omega) | (refine And.intro ?_ (And.intro ?_ ?_) <;> first | omega | (show _ < _; omega) | exact Nat.le_of_ble_eq_true rfl)) | (refine And.intro ?_ ?_ <;> omega) | (refine And.intro ?_ (And.intro ?_ ?_) <;> first | omega | (show _ < _; omega) | exact Nat.le_of_ble_eq_true rfl)); done)); (conv => whnf))))
      refine LoopI.back (j + 1) (by omega) (by omega) (Sub.of [] [] rfl ?_)
      ((repeat' (refine And.intro ?_ ?_)) <;> first | rfl | trivial | omega)
    · simp only [decide_eq_false_iff_not] at g2
      ((conv => whnf); (repeat (refine And.intro ?_ ?_; (focus ((first | omega | (intro hg; simp only [Bool.or_eq_false_iff, Bool.or_eq_true, Bool.and_eq_true, Bool.and_eq_false_iff, Bool.not_eq_true, Bool.not_eq_false, Bool.not_eq_true', Bool.not_eq_false', decide_eq_false_iff_not, decide_eq_true_eq] at hg; first | omega | (refine And.intro ?_ ?_ <;> omega) | (refine And.intro ?_ (And.intro ?_ ?_) <;> first | omega | (show _ < _; omega) | exact Nat.le_of_ble_eq_true rfl)) | (refine And.intro ?_ ?_ <;> omega) | (refine And.intro ?_ (And.intro ?_ ?_) <;> first | omega | (show _ < _; omega) | exact Nat.le_of_ble_eq_true rfl)); done)); (conv => whnf))))
      refine LoopI.back (i + 1) (by omega) (by omega) (Sub.of [] [] rfl ?_)
      ((repeat' (refine And.intro ?_ ?_)) <;> first | rfl | trivial | omega)
  · ((conv => whnf); (repeat (refine And.intro ?_ ?_; (focus ((first | omega | (intro hg; simp only [Bool.or_eq_false_iff, Bool.or_eq_true, Bool.and_eq_true, Bool.and_eq_false_iff, Bool.not_eq_true, Bool.not_eq_false, Bool.not_eq_true', Bool.not_eq_false', decide_eq_false_iff_not, decide_eq_true_eq] at hg; first | omega | (refine And.intro ?_ ?_ <;> omega) | (refine And.intro ?_ (And.intro ?_ ?_) <;> first | omega | (show _ < _; omega) | exact Nat.le_of_ble_eq_true rfl)) | (refine And.intro ?_ ?_ <;> omega) | (refine And.intro ?_ (And.intro ?_ ?_) <;> first | omega | (show _ < _; omega) | exact Nat.le_of_ble_eq_true rfl)); done)); (conv => whnf))))
    refine EvCall.plain Try.call21 (.v (.bool true)) rfl (fun ρ W hp => lives11_s W) ?_
    ((conv => whnf); (repeat (refine And.intro ?_ ?_; (focus ((first | omega | (intro hg; simp only [Bool.or_eq_false_iff, Bool.or_eq_true, Bool.and_eq_true, Bool.and_eq_false_iff, Bool.not_eq_true, Bool.not_eq_false, Bool.not_eq_true', Bool.not_eq_false', decide_eq_false_iff_not, decide_eq_true_eq] at hg; first | omega | (refine And.intro ?_ ?_ <;> omega) | (refine And.intro ?_ (And.intro ?_ ?_) <;> first | omega | (show _ < _; omega) | exact Nat.le_of_ble_eq_true rfl)) | (refine And.intro ?_ ?_ <;> omega) | (refine And.intro ?_ (And.intro ?_ ?_) <;> first | omega | (show _ < _; omega) | exact Nat.le_of_ble_eq_true rfl)); done)); (conv => whnf))))
    exact EvRet.ret (fun ρ => rfl)
theorem walk_ClaimsImplies (w : World) (V0 : Value) (zs : List Int) (h : Ints w V0 zs) (V1 : Value) (ms : List Int) (h2 : Ints w V1 ms) (V2 : Value) (ks : List Int) (h3 : Ints w V2 ks) (a : Cl) (ha : ClI a) (b : Cl) (hb : ClI b) :
    Calls Try.prog 8 #[V0, V1, V2, .agg (clA a), .agg (clA b)] w fun e w' => e = .returned (.bool true) ∧ Below w.heap.size w w' :=
  (claimsimplies_s V0 V1 V2 zs ms ks a b w h h2 h3).out
end Go.Proofs.Ytofekfpbljihiaa
