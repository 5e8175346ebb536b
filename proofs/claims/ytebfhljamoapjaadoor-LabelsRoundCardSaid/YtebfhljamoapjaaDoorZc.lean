
/- The reference's Parse, walked; what the law asks of both. -/
import Derived.Test.YtebfhljamoapjaaDoorZb
namespace Go.Proofs.YtebfhljamoapjaaDoor
open Go.RowKit
set_option linter.unusedVariables false
set_option linter.unusedSimpArgs false

theorem until_s (s : ByteArray) (k : Nat) (c : UInt8) (w : World) (hs : s.size ≤ 900) (hk : k ≤ 2000) : Con Tryd.prog 37 #[.string s, .int .i64 (k : Int), .int .u8 (c.toNat : Int)] w (Ret w (.int .i64 (untilR s k c))) := by
  refine enter tabOk mixed Tryd.func37 rfl Tryd.ntmps37 Tryd.results37 [.v (.string s), .v (.int .i64 (k : Int)), .v (.int .u8 (c.toNat : Int))] (fun _ => none) [] 0 rfl rfl (hp0 _ _ _) ?_
  ((conv=>whnf);(repeat(refine And.intro ?_ ?_;(focus((first|omega|exact⟨rfl,True.intro⟩|exact⟨rfl,rfl,True.intro⟩|rfl|(simp only[List.length_set];first|omega|(refine⟨?_,?_⟩<;>omega)|(refine⟨?_,?_,?_⟩<;>omega))|(intro hg;(try simp only[bB]at hg);first|omega|(refine⟨?_,?_⟩<;>omega)|(refine⟨?_,?_,?_⟩<;>first|omega|(show _<_;(try simp only[List.length_set]);omega)|exact leT rfl))|(refine⟨?_,?_⟩<;>omega)|(refine⟨?_,?_,?_⟩<;>first|omega|(show _<_;(try simp only[List.length_set]);omega)|exact leT rfl)|(simp only[show rI.d=(0:Int)from rfl];omega));done));(conv=>whnf))))
  refine EvLoop.inv (α := Nat) (fun i => i ≤ 2000 ∧ untilR s i c = untilR s k c) (fun i => 2000 - i) (fun i => [(7, [], .v (.int .i64 ((i : Int)))), (0, [], .v (.string s)), (2, [], .v (.int .u8 (c.toNat : Int)))])
    (fun i => []) 0 k ⟨hk, rfl⟩ (Sub.of [] [] rfl ?_) ?_
  · ((repeat' (refine And.intro ?_ ?_)) <;> first | rfl | exact True.intro | omega)
  intro i ⟨hi1, hi2⟩
  ((conv=>whnf);(repeat(refine And.intro ?_ ?_;(focus((first|omega|exact⟨rfl,True.intro⟩|exact⟨rfl,rfl,True.intro⟩|rfl|(simp only[List.length_set];first|omega|(refine⟨?_,?_⟩<;>omega)|(refine⟨?_,?_,?_⟩<;>omega))|(intro hg;(try simp only[bB]at hg);first|omega|(refine⟨?_,?_⟩<;>omega)|(refine⟨?_,?_,?_⟩<;>first|omega|(show _<_;(try simp only[List.length_set]);omega)|exact leT rfl))|(refine⟨?_,?_⟩<;>omega)|(refine⟨?_,?_,?_⟩<;>first|omega|(show _<_;(try simp only[List.length_set]);omega)|exact leT rfl)|(simp only[show rI.d=(0:Int)from rfl];omega));done));(conv=>whnf))))
  refine EvIf.split (fun g1 => ?_) (fun g1 => ?_)
  · simp only [decide_eq_true_eq] at g1
    have hst := until_step s i c (by omega)
    ((conv=>whnf);(repeat(refine And.intro ?_ ?_;(focus((first|omega|exact⟨rfl,True.intro⟩|exact⟨rfl,rfl,True.intro⟩|rfl|(simp only[List.length_set];first|omega|(refine⟨?_,?_⟩<;>omega)|(refine⟨?_,?_,?_⟩<;>omega))|(intro hg;(try simp only[bB]at hg);first|omega|(refine⟨?_,?_⟩<;>omega)|(refine⟨?_,?_,?_⟩<;>first|omega|(show _<_;(try simp only[List.length_set]);omega)|exact leT rfl))|(refine⟨?_,?_⟩<;>omega)|(refine⟨?_,?_,?_⟩<;>first|omega|(show _<_;(try simp only[List.length_set]);omega)|exact leT rfl)|(simp only[show rI.d=(0:Int)from rfl];omega));done));(conv=>whnf))))
    refine EvIf.split (fun g2 => ?_) (fun g2 => ?_)
    · have g3 : s.data.toList.getD i 0 = c := by
        have := of_decide_eq_true g2
        exact UInt8.toNat_inj.1 (Int.ofNat.inj this)
      rw [if_pos g3, hi2] at hst
      rw [hst]
      ((conv=>whnf);(repeat(refine And.intro ?_ ?_;(focus((first|omega|exact⟨rfl,True.intro⟩|exact⟨rfl,rfl,True.intro⟩|rfl|(simp only[List.length_set];first|omega|(refine⟨?_,?_⟩<;>omega)|(refine⟨?_,?_,?_⟩<;>omega))|(intro hg;(try simp only[bB]at hg);first|omega|(refine⟨?_,?_⟩<;>omega)|(refine⟨?_,?_,?_⟩<;>first|omega|(show _<_;(try simp only[List.length_set]);omega)|exact leT rfl))|(refine⟨?_,?_⟩<;>omega)|(refine⟨?_,?_,?_⟩<;>first|omega|(show _<_;(try simp only[List.length_set]);omega)|exact leT rfl)|(simp only[show rI.d=(0:Int)from rfl];omega));done));(conv=>whnf))))
      exact EvRet.ret (fun _ => rfl)
    · have g3 : s.data.toList.getD i 0 ≠ c := by
        have := of_decide_eq_false g2
        intro he
        exact this (by show ((s.data.toList.getD i 0).toNat : Int) = _; rw [he])
      rw [if_neg g3, hi2] at hst
      ((conv=>whnf);(repeat(refine And.intro ?_ ?_;(focus((first|omega|exact⟨rfl,True.intro⟩|exact⟨rfl,rfl,True.intro⟩|rfl|(simp only[List.length_set];first|omega|(refine⟨?_,?_⟩<;>omega)|(refine⟨?_,?_,?_⟩<;>omega))|(intro hg;(try simp only[bB]at hg);first|omega|(refine⟨?_,?_⟩<;>omega)|(refine⟨?_,?_,?_⟩<;>first|omega|(show _<_;(try simp only[List.length_set]);omega)|exact leT rfl))|(refine⟨?_,?_⟩<;>omega)|(refine⟨?_,?_,?_⟩<;>first|omega|(show _<_;(try simp only[List.length_set]);omega)|exact leT rfl)|(simp only[show rI.d=(0:Int)from rfl];omega));done));(conv=>whnf))))
      refine LoopI.back (i + 1) ⟨by omega, hst.symm⟩ (by omega) (Sub.of [] [] rfl ?_)
      ((repeat' (refine And.intro ?_ ?_)) <;> first | rfl | exact True.intro | omega)
  · simp only [decide_eq_false_iff_not] at g1
    rw [← hi2, until_end s i c (by omega)]
    ((conv=>whnf);(repeat(refine And.intro ?_ ?_;(focus((first|omega|exact⟨rfl,True.intro⟩|exact⟨rfl,rfl,True.intro⟩|rfl|(simp only[List.length_set];first|omega|(refine⟨?_,?_⟩<;>omega)|(refine⟨?_,?_,?_⟩<;>omega))|(intro hg;(try simp only[bB]at hg);first|omega|(refine⟨?_,?_⟩<;>omega)|(refine⟨?_,?_,?_⟩<;>first|omega|(show _<_;(try simp only[List.length_set]);omega)|exact leT rfl))|(refine⟨?_,?_⟩<;>omega)|(refine⟨?_,?_,?_⟩<;>first|omega|(show _<_;(try simp only[List.length_set]);omega)|exact leT rfl)|(simp only[show rI.d=(0:Int)from rfl];omega));done));(conv=>whnf))))
    exact EvRet.ret (fun _ => rfl)
/-- What a text that is a valid set's says of label j's place. -/
theorem off_facts {l : List Lb} {s : ByteArray} (hv : validP l = true) (ht : textR l = s) {j : Nat} (hj : j < l.length) :
    offN l j < s.size ∧ untilR s (offN l j) 61 = ((offN l j + (l.getD j lb0).1.size : Nat) : Int) ∧ untilR s (offN l j + (l.getD j lb0).1.size + 2) 34 = ((offN l j + (l.getD j lb0).1.size + 2 + (l.getD j lb0).2.size : Nat) : Int)
    ∧ s.extract (offN l j) (offN l j + (l.getD j lb0).1.size) = (l.getD j lb0).1 ∧ s.extract (offN l j + (l.getD j lb0).1.size + 2) (offN l j + (l.getD j lb0).1.size + 2 + (l.getD j lb0).2.size) = (l.getD j lb0).2
    ∧ offN l (j + 1) = offN l j + (l.getD j lb0).1.size + 2 + (l.getD j lb0).2.size + 2 := by
  have hg := good_of hv _ (getD_mem hj)
  have ho : offN l (j + 1) = offN l j + (eL (l.getD j lb0)).length + 1 := rfl
  rw [eL_len] at ho
  obtain ⟨rest, h1, h2, _⟩ := off_at ht hj
  generalize l.getD j lb0 = x at *
  generalize offN l j = k at *
  have hl : s.size - k = (eL x).length + rest.length := by
    have := congrArg List.length h1
    simpa using this
  have hel := eL_len x
  have h3 : s.data.toList.drop k = x.1.data.toList ++ 61 :: (34 :: (x.2.data.toList ++ 34 :: rest)) := by
    rw [h1]
    unfold eL
    simp
  have h4 : s.data.toList.drop (k + x.1.size + 2) = x.2.data.toList ++ 34 :: rest := by
    rw [Nat.add_assoc, ← List.drop_drop, h3, List.drop_append]
    have : x.1.data.toList.length = x.1.size := by simp
    rw [List.drop_eq_nil_of_le (by omega), this, show x.1.size + 2 - x.1.size = 2 by omega]
    rfl
  have z1 : x.1.data.toList.length = x.1.size := by simp
  have z2 : x.2.data.toList.length = x.2.size := by simp
  have u1 := until_at s 61 _ _ _ h3 hg.no61
  have u2 := until_at s 34 _ _ _ h4 hg.no34
  rw [z1] at u1
  rw [z2] at u2
  refine ⟨by omega, u1, u2, ba_ext ?_, ba_ext ?_, by omega⟩
  · rw [ByteArray.data_extract, Array.toList_extract]
    show (s.data.toList.drop k).take (k + x.1.size - k) = _
    rw [h3, show k + x.1.size - k = x.1.data.toList.length by omega, List.take_left]
  · rw [ByteArray.data_extract, Array.toList_extract]
    show (s.data.toList.drop (k + x.1.size + 2)).take (k + x.1.size + 2 + x.2.size - (k + x.1.size + 2)) = _
    rw [h4, show k + x.1.size + 2 + x.2.size - (k + x.1.size + 2) = x.2.data.toList.length by omega, List.take_left]
theorem take_all {l ls : List Lb} (h1 : ls.length ≤ l.length) (h2 : ls = l.take ls.length) (h : ¬ ls.length < l.length) : ls = l := by
  rw [h2, List.take_of_length_le (by omega)]
theorem j_lt {l ls : List Lb} {s : ByteArray} {i m : Nat} (ht : textR l = s) (h1 : ls.length ≤ l.length) (h3 : i = offN l ls.length) (hi : i < s.size) (hu : untilR s i 61 = (m : Int)) : ls.length < l.length := by
  rcases Nat.lt_or_ge ls.length l.length with h | h
  · exact h
  exfalso
  have he : ls.length = l.length := by omega
  rw [he] at h3
  rcases Nat.eq_zero_or_pos l.length with h0 | h0
  · obtain rfl := List.eq_nil_of_length_eq_zero h0
    rw [h3, ← ht] at hu
    have : untilR (textR []) (offN [] ([] : List Lb).length) 61 = -1 := by decide +kernel
    omega
  · have := off_end ht (j := l.length - 1) (by omega)
    rw [show l.length - 1 + 1 = l.length by omega] at this
    omega
set_option maxRecDepth 10000 in
theorem ref_parse_s (s : ByteArray) (w : World) (hs : s.size ≤ 900) : Con Tryd.prog 21 #[.string s] w (RetRowsE rL 42 w (parseR s).1 (parseR s).2) := by
  refine enter tabOk mixed Tryd.func21 rfl Tryd.ntmps21 Tryd.results21 [.v (.string s)] (fun _ => none) [] 0 rfl rfl (hp0 _ _ _) ?_
  ((conv=>whnf);(repeat(refine And.intro ?_ ?_;(focus((first|omega|exact⟨rfl,True.intro⟩|exact⟨rfl,rfl,True.intro⟩|rfl|(simp only[List.length_set];first|omega|(refine⟨?_,?_⟩<;>omega)|(refine⟨?_,?_,?_⟩<;>omega))|(intro hg;(try simp only[bB]at hg);first|omega|(refine⟨?_,?_⟩<;>omega)|(refine⟨?_,?_,?_⟩<;>first|omega|(show _<_;(try simp only[List.length_set]);omega)|exact leT rfl))|(refine⟨?_,?_⟩<;>omega)|(refine⟨?_,?_,?_⟩<;>first|omega|(show _<_;(try simp only[List.length_set]);omega)|exact leT rfl)|(simp only[show rI.d=(0:Int)from rfl];omega));done));(conv=>whnf))))
  refine EvLoop.inv (α := List Lb × Nat × Nat) (fun p => p.1.length ≤ 9 ∧ p.2.1 ≤ 902 ∧ p.1.length ≤ p.2.2 ∧ p.2.2 ≤ 9223372036854775807 ∧ (∀ e ∈ p.1, e.1.size ≤ 1000 ∧ e.2.size ≤ 1000) ∧ ∀ l, validP l = true → textR l = s → p.1.length ≤ l.length ∧ p.1 = l.take p.1.length ∧ p.2.1 = offN l p.1.length) (fun p => 2000 - p.2.1) (fun p => [(5, [], .v (.int .i64 ((p.2.1 : Int)))), (4, [], .s 0 2 p.1.length p.2.2), (0, [], .v (.string s))])
    (fun p => [⟨0, true, 42, 2, p.2.2, .rows Lb rL p.1⟩]) 1 ([], 1, 0) ⟨by simp, by decide, by simp, by decide, by simp, fun l _ _ => ⟨by simp, by simp, rfl⟩⟩ (Sub.of [] [0] rfl ?_) ?_
  · ((repeat' (refine And.intro ?_ ?_)) <;> first | rfl | exact True.intro | omega)
  intro p ⟨hi1, hi2, hi3, hi4, hi5, hi6⟩
  obtain ⟨ls, i, cp⟩ := p
  simp only at hi1 hi2 hi3 hi4 hi5 hi6 ⊢
  have hz : LbS ls := lbs_small (by omega) hi5
  ((conv=>whnf);(repeat(refine And.intro ?_ ?_;(focus((first|omega|exact⟨rfl,True.intro⟩|exact⟨rfl,rfl,True.intro⟩|rfl|(simp only[List.length_set];first|omega|(refine⟨?_,?_⟩<;>omega)|(refine⟨?_,?_,?_⟩<;>omega))|(intro hg;(try simp only[bB]at hg);first|omega|(refine⟨?_,?_⟩<;>omega)|(refine⟨?_,?_,?_⟩<;>first|omega|(show _<_;(try simp only[List.length_set]);omega)|exact leT rfl))|(refine⟨?_,?_⟩<;>omega)|(refine⟨?_,?_,?_⟩<;>first|omega|(show _<_;(try simp only[List.length_set]);omega)|exact leT rfl)|(simp only[show rI.d=(0:Int)from rfl];omega));done));(conv=>whnf))))
  refine EvIf.split (fun g1 => ?_) (fun g1 => ?_)
  · simp only [Bool.and_eq_true, decide_eq_true_eq] at g1
    obtain ⟨u, hu⟩ : ∃ u, untilR s i 61 = u := ⟨_, rfl⟩
    ((conv=>whnf);(repeat(refine And.intro ?_ ?_;(focus((first|omega|exact⟨rfl,True.intro⟩|exact⟨rfl,rfl,True.intro⟩|rfl|(simp only[List.length_set];first|omega|(refine⟨?_,?_⟩<;>omega)|(refine⟨?_,?_,?_⟩<;>omega))|(intro hg;(try simp only[bB]at hg);first|omega|(refine⟨?_,?_⟩<;>omega)|(refine⟨?_,?_,?_⟩<;>first|omega|(show _<_;(try simp only[List.length_set]);omega)|exact leT rfl))|(refine⟨?_,?_⟩<;>omega)|(refine⟨?_,?_,?_⟩<;>first|omega|(show _<_;(try simp only[List.length_set]);omega)|exact leT rfl)|(simp only[show rI.d=(0:Int)from rfl];omega));done));(conv=>whnf))))
    refine EvCall.plain Tryd.call37 (.v (.int .i64 u)) rfl (fun ρ W hp => by
      have := until_s s i 61 W hs (by omega)
      rw [hu] at this
      exact this) ?_
    ((conv=>whnf);(repeat(refine And.intro ?_ ?_;(focus((first|omega|exact⟨rfl,True.intro⟩|exact⟨rfl,rfl,True.intro⟩|rfl|(simp only[List.length_set];first|omega|(refine⟨?_,?_⟩<;>omega)|(refine⟨?_,?_,?_⟩<;>omega))|(intro hg;(try simp only[bB]at hg);first|omega|(refine⟨?_,?_⟩<;>omega)|(refine⟨?_,?_,?_⟩<;>first|omega|(show _<_;(try simp only[List.length_set]);omega)|exact leT rfl))|(refine⟨?_,?_⟩<;>omega)|(refine⟨?_,?_,?_⟩<;>first|omega|(show _<_;(try simp only[List.length_set]);omega)|exact leT rfl)|(simp only[show rI.d=(0:Int)from rfl];omega));done));(conv=>whnf))))
    refine EvIf.split (fun g2 => ?_) (fun g2 => ?_)
    · simp only [decide_eq_true_eq] at g2
      have hfin : ∀ l, validP l = true → textR l = s → ls = l := fun l hv hl => by
        obtain ⟨h1, h2, h3⟩ := hi6 l hv hl
        refine take_all h1 h2 fun hj => ?_
        have := (off_facts hv hl hj).2.1
        rw [← h3, hu] at this
        omega
      ((conv=>whnf);(repeat(refine And.intro ?_ ?_;(focus((first|omega|exact⟨rfl,True.intro⟩|exact⟨rfl,rfl,True.intro⟩|rfl|(simp only[List.length_set];first|omega|(refine⟨?_,?_⟩<;>omega)|(refine⟨?_,?_,?_⟩<;>omega))|(intro hg;(try simp only[bB]at hg);first|omega|(refine⟨?_,?_⟩<;>omega)|(refine⟨?_,?_,?_⟩<;>first|omega|(show _<_;(try simp only[List.length_set]);omega)|exact leT rfl))|(refine⟨?_,?_⟩<;>omega)|(refine⟨?_,?_,?_⟩<;>first|omega|(show _<_;(try simp only[List.length_set]);omega)|exact leT rfl)|(simp only[show rI.d=(0:Int)from rfl];omega));done));(conv=>whnf))))
      refine EvCall.plain Tryd.call38 (.v (.bool (validP ls))) rfl (fun ρ W hp => ref_valid_s _ ls W (hp.rowsIn (R := rL) (n := 0) (c := cp) rfl (by decide) hi3 hi4 2) hz) ?_
      ((conv=>whnf);(repeat(refine And.intro ?_ ?_;(focus((first|omega|exact⟨rfl,True.intro⟩|exact⟨rfl,rfl,True.intro⟩|rfl|(simp only[List.length_set];first|omega|(refine⟨?_,?_⟩<;>omega)|(refine⟨?_,?_,?_⟩<;>omega))|(intro hg;(try simp only[bB]at hg);first|omega|(refine⟨?_,?_⟩<;>omega)|(refine⟨?_,?_,?_⟩<;>first|omega|(show _<_;(try simp only[List.length_set]);omega)|exact leT rfl))|(refine⟨?_,?_⟩<;>omega)|(refine⟨?_,?_,?_⟩<;>first|omega|(show _<_;(try simp only[List.length_set]);omega)|exact leT rfl)|(simp only[show rI.d=(0:Int)from rfl];omega));done));(conv=>whnf))))
      refine EvCallC.plain Tryd.call6 (.v (.string (textR ls))) rfl (fun hc ρ W hp => ref_text_s _ ls W (hp.rowsIn (R := rL) (n := 0) (c := cp) rfl (by decide) hi3 hi4 2) hz) ?_
      ((conv=>whnf);(repeat(refine And.intro ?_ ?_;(focus((first|omega|exact⟨rfl,True.intro⟩|exact⟨rfl,rfl,True.intro⟩|rfl|(simp only[List.length_set];first|omega|(refine⟨?_,?_⟩<;>omega)|(refine⟨?_,?_,?_⟩<;>omega))|(intro hg;(try simp only[bB]at hg);first|omega|(refine⟨?_,?_⟩<;>omega)|(refine⟨?_,?_,?_⟩<;>first|omega|(show _<_;(try simp only[List.length_set]);omega)|exact leT rfl))|(refine⟨?_,?_⟩<;>omega)|(refine⟨?_,?_,?_⟩<;>first|omega|(show _<_;(try simp only[List.length_set]);omega)|exact leT rfl)|(simp only[show rI.d=(0:Int)from rfl];omega));done));(conv=>whnf))))
      refine EvIf.split (fun g5 => ?_) (fun g5 => ?_)
      · rw [parseR_no (s := s) ?_]
        · ((conv=>whnf);(repeat(refine And.intro ?_ ?_;(focus((first|omega|exact⟨rfl,True.intro⟩|exact⟨rfl,rfl,True.intro⟩|rfl|(simp only[List.length_set];first|omega|(refine⟨?_,?_⟩<;>omega)|(refine⟨?_,?_,?_⟩<;>omega))|(intro hg;(try simp only[bB]at hg);first|omega|(refine⟨?_,?_⟩<;>omega)|(refine⟨?_,?_,?_⟩<;>first|omega|(show _<_;(try simp only[List.length_set]);omega)|exact leT rfl))|(refine⟨?_,?_⟩<;>omega)|(refine⟨?_,?_,?_⟩<;>first|omega|(show _<_;(try simp only[List.length_set]);omega)|exact leT rfl)|(simp only[show rI.d=(0:Int)from rfl];omega));done));(conv=>whnf))))
          exact EvRet.rowsE_nil rfl rfl
        intro l hv hl
        obtain rfl := hfin l hv hl
        rw [tl_eq] at g5
        simp [hv, hl] at g5
      · rw [tl_eq] at g5
        simp only [Bool.or_eq_false_iff, Bool.not_eq_false', decide_eq_true_eq] at g5
        rw [parseR_yes g5.1 g5.2]
        ((conv=>whnf);(repeat(refine And.intro ?_ ?_;(focus((first|omega|exact⟨rfl,True.intro⟩|exact⟨rfl,rfl,True.intro⟩|rfl|(simp only[List.length_set];first|omega|(refine⟨?_,?_⟩<;>omega)|(refine⟨?_,?_,?_⟩<;>omega))|(intro hg;(try simp only[bB]at hg);first|omega|(refine⟨?_,?_⟩<;>omega)|(refine⟨?_,?_,?_⟩<;>first|omega|(show _<_;(try simp only[List.length_set]);omega)|exact leT rfl))|(refine⟨?_,?_⟩<;>omega)|(refine⟨?_,?_,?_⟩<;>first|omega|(show _<_;(try simp only[List.length_set]);omega)|exact leT rfl)|(simp only[show rI.d=(0:Int)from rfl];omega));done));(conv=>whnf))))
        exact EvRet.rowsE (R := rL) rfl hi3 rfl rfl rfl
    simp only [decide_eq_false_iff_not] at g2
    obtain ⟨m, hm, hm1, hm2⟩ : ∃ m : Nat, u = m ∧ i ≤ m ∧ m < s.size := by
      rcases until_cases s i 61 with h | ⟨m, h, h1, h2⟩
      · omega
      · exact ⟨m, hu.symm.trans h, h1, h2⟩
    subst hm
    obtain ⟨u2, hu2⟩ : ∃ u, untilR s (m + 2) 34 = u := ⟨_, rfl⟩
    ((conv=>whnf);(repeat(refine And.intro ?_ ?_;(focus((first|omega|exact⟨rfl,True.intro⟩|exact⟨rfl,rfl,True.intro⟩|rfl|(simp only[List.length_set];first|omega|(refine⟨?_,?_⟩<;>omega)|(refine⟨?_,?_,?_⟩<;>omega))|(intro hg;(try simp only[bB]at hg);first|omega|(refine⟨?_,?_⟩<;>omega)|(refine⟨?_,?_,?_⟩<;>first|omega|(show _<_;(try simp only[List.length_set]);omega)|exact leT rfl))|(refine⟨?_,?_⟩<;>omega)|(refine⟨?_,?_,?_⟩<;>first|omega|(show _<_;(try simp only[List.length_set]);omega)|exact leT rfl)|(simp only[show rI.d=(0:Int)from rfl];omega));done));(conv=>whnf))))
    refine EvCall.plain Tryd.call37 (.v (.int .i64 u2)) rfl (fun ρ W hp => by
      have := until_s s (m + 2) 34 W hs (by omega)
      rw [hu2, show ((m + 2 : Nat) : Int) = (m : Int) + 2 by omega] at this
      exact this) ?_
    ((conv=>whnf);(repeat(refine And.intro ?_ ?_;(focus((first|omega|exact⟨rfl,True.intro⟩|exact⟨rfl,rfl,True.intro⟩|rfl|(simp only[List.length_set];first|omega|(refine⟨?_,?_⟩<;>omega)|(refine⟨?_,?_,?_⟩<;>omega))|(intro hg;(try simp only[bB]at hg);first|omega|(refine⟨?_,?_⟩<;>omega)|(refine⟨?_,?_,?_⟩<;>first|omega|(show _<_;(try simp only[List.length_set]);omega)|exact leT rfl))|(refine⟨?_,?_⟩<;>omega)|(refine⟨?_,?_,?_⟩<;>first|omega|(show _<_;(try simp only[List.length_set]);omega)|exact leT rfl)|(simp only[show rI.d=(0:Int)from rfl];omega));done));(conv=>whnf))))
    refine EvIf.split (fun g3 => ?_) (fun g3 => ?_)
    · simp only [decide_eq_true_eq] at g3
      have hfin : ∀ l, validP l = true → textR l = s → ls = l := fun l hv hl => by
        obtain ⟨h1, h2, h3⟩ := hi6 l hv hl
        refine take_all h1 h2 fun hj => ?_
        obtain ⟨_, f1, f2, _⟩ := off_facts hv hl hj
        rw [← h3, hu] at f1
        rw [← h3, ← Int.ofNat.inj f1, hu2] at f2
        omega
      ((conv=>whnf);(repeat(refine And.intro ?_ ?_;(focus((first|omega|exact⟨rfl,True.intro⟩|exact⟨rfl,rfl,True.intro⟩|rfl|(simp only[List.length_set];first|omega|(refine⟨?_,?_⟩<;>omega)|(refine⟨?_,?_,?_⟩<;>omega))|(intro hg;(try simp only[bB]at hg);first|omega|(refine⟨?_,?_⟩<;>omega)|(refine⟨?_,?_,?_⟩<;>first|omega|(show _<_;(try simp only[List.length_set]);omega)|exact leT rfl))|(refine⟨?_,?_⟩<;>omega)|(refine⟨?_,?_,?_⟩<;>first|omega|(show _<_;(try simp only[List.length_set]);omega)|exact leT rfl)|(simp only[show rI.d=(0:Int)from rfl];omega));done));(conv=>whnf))))
      refine EvCall.plain Tryd.call38 (.v (.bool (validP ls))) rfl (fun ρ W hp => ref_valid_s _ ls W (hp.rowsIn (R := rL) (n := 0) (c := cp) rfl (by decide) hi3 hi4 2) hz) ?_
      ((conv=>whnf);(repeat(refine And.intro ?_ ?_;(focus((first|omega|exact⟨rfl,True.intro⟩|exact⟨rfl,rfl,True.intro⟩|rfl|(simp only[List.length_set];first|omega|(refine⟨?_,?_⟩<;>omega)|(refine⟨?_,?_,?_⟩<;>omega))|(intro hg;(try simp only[bB]at hg);first|omega|(refine⟨?_,?_⟩<;>omega)|(refine⟨?_,?_,?_⟩<;>first|omega|(show _<_;(try simp only[List.length_set]);omega)|exact leT rfl))|(refine⟨?_,?_⟩<;>omega)|(refine⟨?_,?_,?_⟩<;>first|omega|(show _<_;(try simp only[List.length_set]);omega)|exact leT rfl)|(simp only[show rI.d=(0:Int)from rfl];omega));done));(conv=>whnf))))
      refine EvCallC.plain Tryd.call6 (.v (.string (textR ls))) rfl (fun hc ρ W hp => ref_text_s _ ls W (hp.rowsIn (R := rL) (n := 0) (c := cp) rfl (by decide) hi3 hi4 2) hz) ?_
      ((conv=>whnf);(repeat(refine And.intro ?_ ?_;(focus((first|omega|exact⟨rfl,True.intro⟩|exact⟨rfl,rfl,True.intro⟩|rfl|(simp only[List.length_set];first|omega|(refine⟨?_,?_⟩<;>omega)|(refine⟨?_,?_,?_⟩<;>omega))|(intro hg;(try simp only[bB]at hg);first|omega|(refine⟨?_,?_⟩<;>omega)|(refine⟨?_,?_,?_⟩<;>first|omega|(show _<_;(try simp only[List.length_set]);omega)|exact leT rfl))|(refine⟨?_,?_⟩<;>omega)|(refine⟨?_,?_,?_⟩<;>first|omega|(show _<_;(try simp only[List.length_set]);omega)|exact leT rfl)|(simp only[show rI.d=(0:Int)from rfl];omega));done));(conv=>whnf))))
      refine EvIf.split (fun g5 => ?_) (fun g5 => ?_)
      · rw [parseR_no (s := s) ?_]
        · ((conv=>whnf);(repeat(refine And.intro ?_ ?_;(focus((first|omega|exact⟨rfl,True.intro⟩|exact⟨rfl,rfl,True.intro⟩|rfl|(simp only[List.length_set];first|omega|(refine⟨?_,?_⟩<;>omega)|(refine⟨?_,?_,?_⟩<;>omega))|(intro hg;(try simp only[bB]at hg);first|omega|(refine⟨?_,?_⟩<;>omega)|(refine⟨?_,?_,?_⟩<;>first|omega|(show _<_;(try simp only[List.length_set]);omega)|exact leT rfl))|(refine⟨?_,?_⟩<;>omega)|(refine⟨?_,?_,?_⟩<;>first|omega|(show _<_;(try simp only[List.length_set]);omega)|exact leT rfl)|(simp only[show rI.d=(0:Int)from rfl];omega));done));(conv=>whnf))))
          exact EvRet.rowsE_nil rfl rfl
        intro l hv hl
        obtain rfl := hfin l hv hl
        rw [tl_eq] at g5
        simp [hv, hl] at g5
      · rw [tl_eq] at g5
        simp only [Bool.or_eq_false_iff, Bool.not_eq_false', decide_eq_true_eq] at g5
        rw [parseR_yes g5.1 g5.2]
        ((conv=>whnf);(repeat(refine And.intro ?_ ?_;(focus((first|omega|exact⟨rfl,True.intro⟩|exact⟨rfl,rfl,True.intro⟩|rfl|(simp only[List.length_set];first|omega|(refine⟨?_,?_⟩<;>omega)|(refine⟨?_,?_,?_⟩<;>omega))|(intro hg;(try simp only[bB]at hg);first|omega|(refine⟨?_,?_⟩<;>omega)|(refine⟨?_,?_,?_⟩<;>first|omega|(show _<_;(try simp only[List.length_set]);omega)|exact leT rfl))|(refine⟨?_,?_⟩<;>omega)|(refine⟨?_,?_,?_⟩<;>first|omega|(show _<_;(try simp only[List.length_set]);omega)|exact leT rfl)|(simp only[show rI.d=(0:Int)from rfl];omega));done));(conv=>whnf))))
        exact EvRet.rowsE (R := rL) rfl hi3 rfl rfl rfl
    simp only [decide_eq_false_iff_not] at g3
    obtain ⟨n, hn, hn1, hn2⟩ : ∃ n : Nat, u2 = n ∧ m + 2 ≤ n ∧ n < s.size := by
      rcases until_cases s (m + 2) 34 with h | ⟨n, h, h1, h2⟩
      · omega
      · exact ⟨n, hu2.symm.trans h, h1, h2⟩
    subst hn
    obtain ⟨x, hx⟩ : ∃ x : Lb, (s.extract (Int.toNat (i : Int)) (Int.toNat (m : Int)), s.extract (Int.toNat ((m : Int) + 2)) (Int.toNat (n : Int))) = x := ⟨_, rfl⟩
    have hx' : x = (s.extract i m, s.extract (m + 2) n) := by
      rw [← hx, show Int.toNat ((m : Int) + 2) = m + 2 by omega]
      rfl
    have hxz : x.1.size ≤ 1000 ∧ x.2.size ≤ 1000 := by
      rw [hx']
      refine ⟨?_, ?_⟩ <;> rw [ByteArray.size_extract] <;> omega
    have hnext : ∀ l, validP l = true → textR l = s → ls.length < l.length ∧ x = l.getD ls.length lb0 ∧ n + 2 = offN l (ls.length + 1) := fun l hv hl => by
      obtain ⟨h1, h2, h3⟩ := hi6 l hv hl
      have hj := j_lt hl h1 h3 (by omega) hu
      obtain ⟨_, f1, f2, f3, f4, f5⟩ := off_facts hv hl hj
      rw [← h3] at f1 f2 f3 f4 f5
      have f6 : m = i + (l.getD ls.length lb0).1.size := Int.ofNat.inj (hu.symm.trans f1)
      rw [← f6] at f2 f3 f4 f5
      have f7 : n = m + 2 + (l.getD ls.length lb0).2.size := Int.ofNat.inj (hu2.symm.trans f2)
      rw [← f7] at f4 f5
      refine ⟨hj, ?_, f5.symm⟩
      rw [hx', f3, f4]
    ((conv=>whnf);(repeat(refine And.intro ?_ ?_;(focus((first|omega|exact⟨rfl,True.intro⟩|exact⟨rfl,rfl,True.intro⟩|rfl|(simp only[List.length_set];first|omega|(refine⟨?_,?_⟩<;>omega)|(refine⟨?_,?_,?_⟩<;>omega))|(intro hg;(try simp only[bB]at hg);first|omega|(refine⟨?_,?_⟩<;>omega)|(refine⟨?_,?_,?_⟩<;>first|omega|(show _<_;(try simp only[List.length_set]);omega)|exact leT rfl))|(refine⟨?_,?_⟩<;>omega)|(refine⟨?_,?_,?_⟩<;>first|omega|(show _<_;(try simp only[List.length_set]);omega)|exact leT rfl)|(simp only[show rI.d=(0:Int)from rfl];omega));done));(conv=>whnf))))
    (refine EvDraw.one (.q 0 (.q 1 (.q 2 (.q 3 (.q 4 (.q 5 (.q 6 (.q 7 (.q 8 (.q 9 (.q 10 (.n 11 false (.n 12 true (.q 13 (.z)) (.e)) (.e))))))))))))) (by kernel_rfl) ?_)
    ((conv=>whnf);(repeat(refine And.intro ?_ ?_;(focus((first|omega|exact⟨rfl,True.intro⟩|exact⟨rfl,rfl,True.intro⟩|rfl|(simp only[List.length_set];first|omega|(refine⟨?_,?_⟩<;>omega)|(refine⟨?_,?_,?_⟩<;>omega))|(intro hg;(try simp only[bB]at hg);first|omega|(refine⟨?_,?_⟩<;>omega)|(refine⟨?_,?_,?_⟩<;>first|omega|(show _<_;(try simp only[List.length_set]);omega)|exact leT rfl))|(refine⟨?_,?_⟩<;>omega)|(refine⟨?_,?_,?_⟩<;>first|omega|(show _<_;(try simp only[List.length_set]);omega)|exact leT rfl)|(simp only[show rI.d=(0:Int)from rfl];omega));done));(conv=>whnf))))
    refine EvBi.append (R := rL) tyok25 rfl tyok42 rfl (by decide) rfl rfl rfl hi3 [x] (fun ρ W hp => by
      rw [← hx]
      exact hp.lit (R := rL) (ys := [(s.extract (Int.toNat (i : Int)) (Int.toNat (m : Int)), s.extract (Int.toNat ((m : Int) + 2)) (Int.toNat (n : Int)))]) rfl (by decide) (by simp) (by omega) rfl) (by show (_ + 1) * 32 ≤ _; omega) (by show _ + 1 ≤ _; omega) (fun cap' hq1 hq2 => ?_)
    have hla : (ls ++ [x]).length = ls.length + 1 := by simp
    ((conv=>whnf);(repeat(refine And.intro ?_ ?_;(focus((first|omega|exact⟨rfl,True.intro⟩|exact⟨rfl,rfl,True.intro⟩|rfl|(simp only[List.length_set];first|omega|(refine⟨?_,?_⟩<;>omega)|(refine⟨?_,?_,?_⟩<;>omega))|(intro hg;(try simp only[bB]at hg);first|omega|(refine⟨?_,?_⟩<;>omega)|(refine⟨?_,?_,?_⟩<;>first|omega|(show _<_;(try simp only[List.length_set]);omega)|exact leT rfl))|(refine⟨?_,?_⟩<;>omega)|(refine⟨?_,?_,?_⟩<;>first|omega|(show _<_;(try simp only[List.length_set]);omega)|exact leT rfl)|(simp only[show rI.d=(0:Int)from rfl];omega));done));(conv=>whnf))))
    refine LoopI.back (ls ++ [x], n + 2, cap') ⟨by show (ls ++ [x]).length ≤ 9; omega, by show n + 2 ≤ 902; omega, by show (ls ++ [x]).length ≤ cap'; rw [hla]; exact hq1, hq2, fun e he => ?_, fun l hv hl => ?_⟩ (by show 2000 - (n + 2) < 2000 - i; omega) (Sub.of [(0, 2)] [] rfl ?_)
    · rcases List.mem_append.1 he with h | h
      · exact hi5 e h
      · rw [List.mem_singleton.1 h]; exact hxz
    · obtain ⟨f1, f2, f3⟩ := hnext l hv hl
      obtain ⟨h1, h2, h3⟩ := hi6 l hv hl
      show (ls ++ [x]).length ≤ l.length ∧ ls ++ [x] = l.take (ls ++ [x]).length ∧ n + 2 = offN l (ls ++ [x]).length
      rw [hla]
      refine ⟨f1, ?_, f3⟩
      rw [take_snoc l ls.length lb0 f1, ← h2, f2]
    · (repeat' (refine And.intro ?_ ?_)) <;> first | rfl | exact True.intro | exact hla | exact hla.symm | omega
  have hfin : ∀ l, validP l = true → textR l = s → ls = l := fun l hv hl => by
    obtain ⟨h1, h2, h3⟩ := hi6 l hv hl
    refine take_all h1 h2 fun hj => ?_
    have f1 := (off_facts hv hl hj).1
    have h8 := (valid_inv hv).1
    rw [← h3] at f1
    simp only [Bool.and_eq_false_iff, decide_eq_false_iff_not] at g1
    omega
  ((conv=>whnf);(repeat(refine And.intro ?_ ?_;(focus((first|omega|exact⟨rfl,True.intro⟩|exact⟨rfl,rfl,True.intro⟩|rfl|(simp only[List.length_set];first|omega|(refine⟨?_,?_⟩<;>omega)|(refine⟨?_,?_,?_⟩<;>omega))|(intro hg;(try simp only[bB]at hg);first|omega|(refine⟨?_,?_⟩<;>omega)|(refine⟨?_,?_,?_⟩<;>first|omega|(show _<_;(try simp only[List.length_set]);omega)|exact leT rfl))|(refine⟨?_,?_⟩<;>omega)|(refine⟨?_,?_,?_⟩<;>first|omega|(show _<_;(try simp only[List.length_set]);omega)|exact leT rfl)|(simp only[show rI.d=(0:Int)from rfl];omega));done));(conv=>whnf))))
  refine EvCall.plain Tryd.call38 (.v (.bool (validP ls))) rfl (fun ρ W hp => ref_valid_s _ ls W (hp.rowsIn (R := rL) (n := 0) (c := cp) rfl (by decide) hi3 hi4 2) hz) ?_
  ((conv=>whnf);(repeat(refine And.intro ?_ ?_;(focus((first|omega|exact⟨rfl,True.intro⟩|exact⟨rfl,rfl,True.intro⟩|rfl|(simp only[List.length_set];first|omega|(refine⟨?_,?_⟩<;>omega)|(refine⟨?_,?_,?_⟩<;>omega))|(intro hg;(try simp only[bB]at hg);first|omega|(refine⟨?_,?_⟩<;>omega)|(refine⟨?_,?_,?_⟩<;>first|omega|(show _<_;(try simp only[List.length_set]);omega)|exact leT rfl))|(refine⟨?_,?_⟩<;>omega)|(refine⟨?_,?_,?_⟩<;>first|omega|(show _<_;(try simp only[List.length_set]);omega)|exact leT rfl)|(simp only[show rI.d=(0:Int)from rfl];omega));done));(conv=>whnf))))
  refine EvCallC.plain Tryd.call6 (.v (.string (textR ls))) rfl (fun hc ρ W hp => ref_text_s _ ls W (hp.rowsIn (R := rL) (n := 0) (c := cp) rfl (by decide) hi3 hi4 2) hz) ?_
  ((conv=>whnf);(repeat(refine And.intro ?_ ?_;(focus((first|omega|exact⟨rfl,True.intro⟩|exact⟨rfl,rfl,True.intro⟩|rfl|(simp only[List.length_set];first|omega|(refine⟨?_,?_⟩<;>omega)|(refine⟨?_,?_,?_⟩<;>omega))|(intro hg;(try simp only[bB]at hg);first|omega|(refine⟨?_,?_⟩<;>omega)|(refine⟨?_,?_,?_⟩<;>first|omega|(show _<_;(try simp only[List.length_set]);omega)|exact leT rfl))|(refine⟨?_,?_⟩<;>omega)|(refine⟨?_,?_,?_⟩<;>first|omega|(show _<_;(try simp only[List.length_set]);omega)|exact leT rfl)|(simp only[show rI.d=(0:Int)from rfl];omega));done));(conv=>whnf))))
  refine EvIf.split (fun g5 => ?_) (fun g5 => ?_)
  · rw [parseR_no (s := s) ?_]
    · ((conv=>whnf);(repeat(refine And.intro ?_ ?_;(focus((first|omega|exact⟨rfl,True.intro⟩|exact⟨rfl,rfl,True.intro⟩|rfl|(simp only[List.length_set];first|omega|(refine⟨?_,?_⟩<;>omega)|(refine⟨?_,?_,?_⟩<;>omega))|(intro hg;(try simp only[bB]at hg);first|omega|(refine⟨?_,?_⟩<;>omega)|(refine⟨?_,?_,?_⟩<;>first|omega|(show _<_;(try simp only[List.length_set]);omega)|exact leT rfl))|(refine⟨?_,?_⟩<;>omega)|(refine⟨?_,?_,?_⟩<;>first|omega|(show _<_;(try simp only[List.length_set]);omega)|exact leT rfl)|(simp only[show rI.d=(0:Int)from rfl];omega));done));(conv=>whnf))))
      exact EvRet.rowsE_nil rfl rfl
    intro l hv hl
    obtain rfl := hfin l hv hl
    rw [tl_eq] at g5
    simp [hv, hl] at g5
  · rw [tl_eq] at g5
    simp only [Bool.or_eq_false_iff, Bool.not_eq_false', decide_eq_true_eq] at g5
    rw [parseR_yes g5.1 g5.2]
    ((conv=>whnf);(repeat(refine And.intro ?_ ?_;(focus((first|omega|exact⟨rfl,True.intro⟩|exact⟨rfl,rfl,True.intro⟩|rfl|(simp only[List.length_set];first|omega|(refine⟨?_,?_⟩<;>omega)|(refine⟨?_,?_,?_⟩<;>omega))|(intro hg;(try simp only[bB]at hg);first|omega|(refine⟨?_,?_⟩<;>omega)|(refine⟨?_,?_,?_⟩<;>first|omega|(show _<_;(try simp only[List.length_set]);omega)|exact leT rfl))|(refine⟨?_,?_⟩<;>omega)|(refine⟨?_,?_,?_⟩<;>first|omega|(show _<_;(try simp only[List.length_set]);omega)|exact leT rfl)|(simp only[show rI.d=(0:Int)from rfl];omega));done));(conv=>whnf))))
    exact EvRet.rowsE (R := rL) rfl hi3 rfl rfl rfl
end Go.Proofs.YtebfhljamoapjaaDoor
