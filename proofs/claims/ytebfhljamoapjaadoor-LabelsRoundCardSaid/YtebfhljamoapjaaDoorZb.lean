
/- labels.Parse, walked. -/
import Derived.Test.YtebfhljamoapjaaDoorZq
namespace Go.Proofs.YtebfhljamoapjaaDoor
open Go.RowKit
set_option linter.unusedVariables false
set_option linter.unusedSimpArgs false

theorem form_of {l : List Lb} {s : ByteArray} (ht : textR l = s) : 2 ≤ s.size ∧ s.data.toList.getD 0 0 = 123 ∧ s.data.toList.getD (s.size - 1) 0 = 125 := by
  have h1 := text_form ht
  have h2 := text_size ht
  refine ⟨by omega, by rw [h1]; rfl, ?_⟩
  rw [h1, h2, List.getD_eq_getElem?_getD, show (jL l).length + 2 - 1 = (jL l).length + 1 by omega, List.getElem?_cons_succ, List.getElem?_append_right (Nat.le_refl _)]
  simp
set_option maxRecDepth 10000 in
theorem parse_s (s : ByteArray) (w : World) (hs : s.size ≤ 900) (hm : MaxL w) : Con Tryd.prog 14 #[.string s] w (RetRowsE rL 42 w (parseR s).1 (parseR s).2) := by
  refine enter tabOk mixed Tryd.func14 rfl Tryd.ntmps14 Tryd.results14 [.v (.string s)] (fun _ => none) [] 0 rfl rfl (hp0 _ _ _) ?_
  ((conv=>whnf);(repeat(refine And.intro ?_ ?_;(focus((first|omega|exact⟨rfl,True.intro⟩|exact⟨rfl,rfl,True.intro⟩|rfl|(simp only[List.length_set];first|omega|(refine⟨?_,?_⟩<;>omega)|(refine⟨?_,?_,?_⟩<;>omega))|(intro hg;(try simp only[bB]at hg);first|omega|(refine⟨?_,?_⟩<;>omega)|(refine⟨?_,?_,?_⟩<;>first|omega|(show _<_;(try simp only[List.length_set]);omega)|exact leT rfl))|(refine⟨?_,?_⟩<;>omega)|(refine⟨?_,?_,?_⟩<;>first|omega|(show _<_;(try simp only[List.length_set]);omega)|exact leT rfl)|(simp only[show rI.d=(0:Int)from rfl];omega));done));(conv=>whnf))))
  refine EvIf.split (fun g0 => ?_) (fun g0 => ?_)
  · rw [tl_eq] at g0
    have h0 := of_decide_eq_true g0
    rw [parseR_yes (l := []) (by decide +kernel) (h0 ▸ (by decide +kernel) : textR [] = s)]
    ((conv=>whnf);(repeat(refine And.intro ?_ ?_;(focus((first|omega|exact⟨rfl,True.intro⟩|exact⟨rfl,rfl,True.intro⟩|rfl|(simp only[List.length_set];first|omega|(refine⟨?_,?_⟩<;>omega)|(refine⟨?_,?_,?_⟩<;>omega))|(intro hg;(try simp only[bB]at hg);first|omega|(refine⟨?_,?_⟩<;>omega)|(refine⟨?_,?_,?_⟩<;>first|omega|(show _<_;(try simp only[List.length_set]);omega)|exact leT rfl))|(refine⟨?_,?_⟩<;>omega)|(refine⟨?_,?_,?_⟩<;>first|omega|(show _<_;(try simp only[List.length_set]);omega)|exact leT rfl)|(simp only[show rI.d=(0:Int)from rfl];omega));done));(conv=>whnf))))
    exact EvRet.rowsE_nil rfl rfl
  rw [tl_eq] at g0
  have h0 : s ≠ ⟨#[123, 125]⟩ := of_decide_eq_false g0
  ((conv=>whnf);(repeat(refine And.intro ?_ ?_;(focus((first|omega|exact⟨rfl,True.intro⟩|exact⟨rfl,rfl,True.intro⟩|rfl|(simp only[List.length_set];first|omega|(refine⟨?_,?_⟩<;>omega)|(refine⟨?_,?_,?_⟩<;>omega))|(intro hg;(try simp only[bB]at hg);first|omega|(refine⟨?_,?_⟩<;>omega)|(refine⟨?_,?_,?_⟩<;>first|omega|(show _<_;(try simp only[List.length_set]);omega)|exact leT rfl))|(refine⟨?_,?_⟩<;>omega)|(refine⟨?_,?_,?_⟩<;>first|omega|(show _<_;(try simp only[List.length_set]);omega)|exact leT rfl)|(simp only[show rI.d=(0:Int)from rfl];omega));done));(conv=>whnf))))
  refine EvIf.split (fun g1 => ?_) (fun g1 => ?_)
  · rw [parseR_no (s := s) ?_]
    · ((conv=>whnf);(repeat(refine And.intro ?_ ?_;(focus((first|omega|exact⟨rfl,True.intro⟩|exact⟨rfl,rfl,True.intro⟩|rfl|(simp only[List.length_set];first|omega|(refine⟨?_,?_⟩<;>omega)|(refine⟨?_,?_,?_⟩<;>omega))|(intro hg;(try simp only[bB]at hg);first|omega|(refine⟨?_,?_⟩<;>omega)|(refine⟨?_,?_,?_⟩<;>first|omega|(show _<_;(try simp only[List.length_set]);omega)|exact leT rfl))|(refine⟨?_,?_⟩<;>omega)|(refine⟨?_,?_,?_⟩<;>first|omega|(show _<_;(try simp only[List.length_set]);omega)|exact leT rfl)|(simp only[show rI.d=(0:Int)from rfl];omega));done));(conv=>whnf))))
      exact EvRet.rowsE_nil rfl rfl
    intro l hv ht
    obtain ⟨h1, h2, h3⟩ := form_of ht
    simp only [Bool.or_eq_true, decide_eq_true_eq, Bool.not_eq_true', decide_eq_false_iff_not] at g1
    rw [show Int.toNat ((s.size : Int) - 1) = s.size - 1 by omega, show Int.toNat 0 = 0 from rfl, h2, h3] at g1
    rcases g1 with (g1 | g1) | g1
    · omega
    · exact g1 rfl
    · exact g1 rfl
  have g2 : 2 ≤ s.size := by
    simp only [Bool.or_eq_false_iff, decide_eq_false_iff_not] at g1
    omega
  obtain ⟨t, ht⟩ : ∃ t, s.extract (Int.toNat 1) (Int.toNat ((s.size : Int) - 1)) = t := ⟨_, rfl⟩
  have ht' : s.extract 1 (s.size - 1) = t := by
    rw [← ht, show Int.toNat ((s.size : Int) - 1) = s.size - 1 by omega]
    rfl
  have htz : t.size ≤ 900 := by
    rw [← ht', ByteArray.size_extract]
    omega
  obtain ⟨ps, hps⟩ : ∃ ps, Lib.splitB ⟨#[44]⟩ 0 (min 9 (t.size + 1) - 1) t = ps := ⟨_, rfl⟩
  have hpl : ps.length ≤ 9 := by
    have := Lib.splitB_length_le ⟨#[44]⟩ 0 (min 9 (t.size + 1) - 1) t
    rw [hps] at this
    omega
  have hpz : ∀ x ∈ ps, x.size ≤ 900 := fun x hx => by
    rw [← hps] at hx
    have := split_len _ _ _ _ x hx
    omega
  have hpt : ∀ l, validP l = true → textR l = s → ps = l.map elemT := fun l hv hl => by
    have := parts_text hv hl h0
    rw [ht', hps] at this
    exact this
  ((conv=>whnf);(repeat(refine And.intro ?_ ?_;(focus((first|omega|exact⟨rfl,True.intro⟩|exact⟨rfl,rfl,True.intro⟩|rfl|(simp only[List.length_set];first|omega|(refine⟨?_,?_⟩<;>omega)|(refine⟨?_,?_,?_⟩<;>omega))|(intro hg;(try simp only[bB]at hg);first|omega|(refine⟨?_,?_⟩<;>omega)|(refine⟨?_,?_,?_⟩<;>first|omega|(show _<_;(try simp only[List.length_set]);omega)|exact leT rfl))|(refine⟨?_,?_⟩<;>omega)|(refine⟨?_,?_,?_⟩<;>first|omega|(show _<_;(try simp only[List.length_set]);omega)|exact leT rfl)|(simp only[show rI.d=(0:Int)from rfl];omega));done));(conv=>whnf))))
  rw [ht]
  refine EvCall.rows (R := rS) (ty := 9) (xs := ps) Tryd.call28 (fun ρ W hp => by
    have := splitn_s t ⟨#[44]⟩ 9 W (by omega) (by decide) (by decide) (by decide) (hm.below hp.bel)
    rw [hps] at this
    exact this) (fun ca ha1 ha2 => ?_)
  ((conv=>whnf);(repeat(refine And.intro ?_ ?_;(focus((first|omega|exact⟨rfl,True.intro⟩|exact⟨rfl,rfl,True.intro⟩|rfl|(simp only[List.length_set];first|omega|(refine⟨?_,?_⟩<;>omega)|(refine⟨?_,?_,?_⟩<;>omega))|(intro hg;(try simp only[bB]at hg);first|omega|(refine⟨?_,?_⟩<;>omega)|(refine⟨?_,?_,?_⟩<;>first|omega|(show _<_;(try simp only[List.length_set]);omega)|exact leT rfl))|(refine⟨?_,?_⟩<;>omega)|(refine⟨?_,?_,?_⟩<;>first|omega|(show _<_;(try simp only[List.length_set]);omega)|exact leT rfl)|(simp only[show rI.d=(0:Int)from rfl];omega));done));(conv=>whnf))))
  refine EvLoop.inv (α := List Lb × Nat × Nat) (fun p => p.2.1 ≤ ps.length ∧ p.1.length = p.2.1 ∧ p.2.1 ≤ p.2.2 ∧ p.2.2 ≤ 9223372036854775807 ∧ (∀ e ∈ p.1, e.1.size ≤ 1000 ∧ e.2.size ≤ 1000) ∧ ∀ l, validP l = true → textR l = s → p.1 = l.take p.2.1) (fun p => ps.length - p.2.1) (fun p => [(37, [], .v (.int .i64 ((p.2.1 : Int)))), (36, [], .v (.int .i64 ((ps.length : Int)))), (35, [], .s 0 1 ps.length ca), (4, [], .s 1 2 p.2.1 p.2.2), (0, [], .v (.string s))])
    (fun p => [⟨1, true, 42, 2, p.2.2, .rows Lb rL p.1⟩, ⟨0, true, 9, 1, ca, .rows ByteArray rS ps⟩]) 2 ([], 0, 0) ⟨by simp, rfl, by simp, by decide, by simp, fun l _ _ => by simp⟩ (Sub.of [] [1] rfl ?_) ?_
  · ((repeat' (refine And.intro ?_ ?_)) <;> first | rfl | exact True.intro | omega)
  intro p ⟨hi1, hi2, hi3, hi4, hi5, hi6⟩
  ((conv=>whnf);(repeat(refine And.intro ?_ ?_;(focus((first|omega|exact⟨rfl,True.intro⟩|exact⟨rfl,rfl,True.intro⟩|rfl|(simp only[List.length_set];first|omega|(refine⟨?_,?_⟩<;>omega)|(refine⟨?_,?_,?_⟩<;>omega))|(intro hg;(try simp only[bB]at hg);first|omega|(refine⟨?_,?_⟩<;>omega)|(refine⟨?_,?_,?_⟩<;>first|omega|(show _<_;(try simp only[List.length_set]);omega)|exact leT rfl))|(refine⟨?_,?_⟩<;>omega)|(refine⟨?_,?_,?_⟩<;>first|omega|(show _<_;(try simp only[List.length_set]);omega)|exact leT rfl)|(simp only[show rI.d=(0:Int)from rfl];omega));done));(conv=>whnf))))
  refine EvIf.split (fun g3 => ?_) (fun g3 => ?_)
  · simp only [decide_eq_true_eq] at g3
    have hqz : (ps.getD p.2.1 ByteArray.empty).size ≤ 900 := by
      rw [List.getD_eq_getElem?_getD, List.getElem?_eq_getElem (by omega)]
      exact hpz _ (List.getElem_mem _)
    have hql : ∀ l, validP l = true → textR l = s → p.2.1 < l.length ∧ ps.getD p.2.1 ByteArray.empty = elemT (l.getD p.2.1 lb0) := fun l hv hl => by
      have h1 := hpt l hv hl
      have h2 : p.2.1 < l.length := by
        have := congrArg List.length h1
        rw [List.length_map] at this
        omega
      refine ⟨h2, ?_⟩
      rw [h1, List.getD_eq_getElem?_getD, List.getD_eq_getElem?_getD, List.getElem?_map, List.getElem?_eq_getElem h2]
      rfl
    obtain ⟨q, hq⟩ : ∃ q, ps.getD p.2.1 ByteArray.empty = q := ⟨_, rfl⟩
    rw [hq] at hqz hql
    obtain ⟨⟨c1, c2, cb⟩, hc⟩ : ∃ r, Lib.cut q.data.toList [61, 34] = r := ⟨_, rfl⟩
    have hcl := cut_len q.data.toList [61, 34]
    rw [hc] at hcl
    simp only [Array.length_toList] at hcl
    have hc1 : c1.length ≤ 900 := Nat.le_trans hcl.1 hqz
    have hc2 : c2.length ≤ 900 := Nat.le_trans hcl.2 hqz
    have hct : ∀ l, validP l = true → textR l = s → c1 = (l.getD p.2.1 lb0).1.data.toList ∧ c2 = (l.getD p.2.1 lb0).2.data.toList ++ [34] ∧ cb = true := fun l hv hl => by
      obtain ⟨h1, h2⟩ := hql l hv hl
      have h3 := cut_T (l.getD p.2.1 lb0) (good_of hv _ (getD_mem h1)).no61
      rw [← h2, hc] at h3
      simp only [Prod.mk.injEq] at h3
      exact h3
    have htr := trim_len c2 [34]
    ((conv=>whnf);(repeat(refine And.intro ?_ ?_;(focus((first|omega|exact⟨rfl,True.intro⟩|exact⟨rfl,rfl,True.intro⟩|rfl|(simp only[List.length_set];first|omega|(refine⟨?_,?_⟩<;>omega)|(refine⟨?_,?_,?_⟩<;>omega))|(intro hg;(try simp only[bB]at hg);first|omega|(refine⟨?_,?_⟩<;>omega)|(refine⟨?_,?_,?_⟩<;>first|omega|(show _<_;(try simp only[List.length_set]);omega)|exact leT rfl))|(refine⟨?_,?_⟩<;>omega)|(refine⟨?_,?_,?_⟩<;>first|omega|(show _<_;(try simp only[List.length_set]);omega)|exact leT rfl)|(simp only[show rI.d=(0:Int)from rfl];omega));done));(conv=>whnf))))
    refine EvCall.plain Tryd.call29 (.t [.v (.string ⟨c1.toArray⟩), .v (.string ⟨c2.toArray⟩), .v (.bool cb)]) rfl (fun ρ W hp => by
      have := cut_s q ⟨#[61, 34]⟩ W (by omega) (hm.below hp.bel)
      rw [show (⟨#[61, 34]⟩ : ByteArray).data.toList = [61, 34] from rfl, hc, ← hq] at this
      exact this) ?_
    ((conv=>whnf);(repeat(refine And.intro ?_ ?_;(focus((first|omega|exact⟨rfl,True.intro⟩|exact⟨rfl,rfl,True.intro⟩|rfl|(simp only[List.length_set];first|omega|(refine⟨?_,?_⟩<;>omega)|(refine⟨?_,?_,?_⟩<;>omega))|(intro hg;(try simp only[bB]at hg);first|omega|(refine⟨?_,?_⟩<;>omega)|(refine⟨?_,?_,?_⟩<;>first|omega|(show _<_;(try simp only[List.length_set]);omega)|exact leT rfl))|(refine⟨?_,?_⟩<;>omega)|(refine⟨?_,?_,?_⟩<;>first|omega|(show _<_;(try simp only[List.length_set]);omega)|exact leT rfl)|(simp only[show rI.d=(0:Int)from rfl];omega));done));(conv=>whnf))))
    refine EvCall.plain Tryd.call30 (.t [.v (.string ⟨(Lib.trimSuffix c2 [34]).toArray⟩), .v (.bool (Lib.hasSuffix c2 [34]))]) rfl (fun ρ W hp => cutsuf_s ⟨c2.toArray⟩ ⟨#[34]⟩ W (by show c2.length ≤ _; omega)) ?_
    ((conv=>whnf);(repeat(refine And.intro ?_ ?_;(focus((first|omega|exact⟨rfl,True.intro⟩|exact⟨rfl,rfl,True.intro⟩|rfl|(simp only[List.length_set];first|omega|(refine⟨?_,?_⟩<;>omega)|(refine⟨?_,?_,?_⟩<;>omega))|(intro hg;(try simp only[bB]at hg);first|omega|(refine⟨?_,?_⟩<;>omega)|(refine⟨?_,?_,?_⟩<;>first|omega|(show _<_;(try simp only[List.length_set]);omega)|exact leT rfl))|(refine⟨?_,?_⟩<;>omega)|(refine⟨?_,?_,?_⟩<;>first|omega|(show _<_;(try simp only[List.length_set]);omega)|exact leT rfl)|(simp only[show rI.d=(0:Int)from rfl];omega));done));(conv=>whnf))))
    refine EvIf.split (fun g4 => ?_) (fun g4 => ?_)
    · rw [parseR_no (s := s) ?_]
      · ((conv=>whnf);(repeat(refine And.intro ?_ ?_;(focus((first|omega|exact⟨rfl,True.intro⟩|exact⟨rfl,rfl,True.intro⟩|rfl|(simp only[List.length_set];first|omega|(refine⟨?_,?_⟩<;>omega)|(refine⟨?_,?_,?_⟩<;>omega))|(intro hg;(try simp only[bB]at hg);first|omega|(refine⟨?_,?_⟩<;>omega)|(refine⟨?_,?_,?_⟩<;>first|omega|(show _<_;(try simp only[List.length_set]);omega)|exact leT rfl))|(refine⟨?_,?_⟩<;>omega)|(refine⟨?_,?_,?_⟩<;>first|omega|(show _<_;(try simp only[List.length_set]);omega)|exact leT rfl)|(simp only[show rI.d=(0:Int)from rfl];omega));done));(conv=>whnf))))
        exact EvRet.rowsE_nil rfl rfl
      intro l hv hl
      obtain ⟨h1, h2, h3⟩ := hct l hv hl
      rw [h2, h3, suf_T] at g4
      cases g4
    have hx : ∀ l, validP l = true → textR l = s → ((⟨c1.toArray⟩, ⟨(Lib.trimSuffix c2 [34]).toArray⟩) : Lb) = l.getD p.2.1 lb0 := fun l hv hl => by
      obtain ⟨h1, h2, h3⟩ := hct l hv hl
      rw [h1, h2, trim_T]
    obtain ⟨x, hxx⟩ : ∃ x : Lb, (⟨c1.toArray⟩, ⟨(Lib.trimSuffix c2 [34]).toArray⟩) = x := ⟨_, rfl⟩
    have hxz : x.1.size ≤ 1000 ∧ x.2.size ≤ 1000 := by
      rw [← hxx]
      exact ⟨by show c1.length ≤ _; omega, by show (Lib.trimSuffix c2 [34]).length ≤ _; omega⟩
    rw [hxx] at hx
    ((conv=>whnf);(repeat(refine And.intro ?_ ?_;(focus((first|omega|exact⟨rfl,True.intro⟩|exact⟨rfl,rfl,True.intro⟩|rfl|(simp only[List.length_set];first|omega|(refine⟨?_,?_⟩<;>omega)|(refine⟨?_,?_,?_⟩<;>omega))|(intro hg;(try simp only[bB]at hg);first|omega|(refine⟨?_,?_⟩<;>omega)|(refine⟨?_,?_,?_⟩<;>first|omega|(show _<_;(try simp only[List.length_set]);omega)|exact leT rfl))|(refine⟨?_,?_⟩<;>omega)|(refine⟨?_,?_,?_⟩<;>first|omega|(show _<_;(try simp only[List.length_set]);omega)|exact leT rfl)|(simp only[show rI.d=(0:Int)from rfl];omega));done));(conv=>whnf))))
    refine EvBi.append (R := rL) tyok25 rfl tyok42 rfl (by decide) rfl rfl hi2.symm (by rw [hi2]; exact hi3) [x] (fun ρ W hp => by
      rw [← hxx]
      exact hp.lit (R := rL) (ys := [(⟨c1.toArray⟩, ⟨(Lib.trimSuffix c2 [34]).toArray⟩)]) (n := 2) rfl (by decide) (by simp) (by omega) rfl) (by rw [hi2]; show (_ + 1) * 32 ≤ _; omega) (by rw [hi2]; show _ + 1 ≤ _; omega) (fun cap' hq1 hq2 => ?_)
    rw [hi2] at hq1
    ((conv=>whnf);(repeat(refine And.intro ?_ ?_;(focus((first|omega|exact⟨rfl,True.intro⟩|exact⟨rfl,rfl,True.intro⟩|rfl|(simp only[List.length_set];first|omega|(refine⟨?_,?_⟩<;>omega)|(refine⟨?_,?_,?_⟩<;>omega))|(intro hg;(try simp only[bB]at hg);first|omega|(refine⟨?_,?_⟩<;>omega)|(refine⟨?_,?_,?_⟩<;>first|omega|(show _<_;(try simp only[List.length_set]);omega)|exact leT rfl))|(refine⟨?_,?_⟩<;>omega)|(refine⟨?_,?_,?_⟩<;>first|omega|(show _<_;(try simp only[List.length_set]);omega)|exact leT rfl)|(simp only[show rI.d=(0:Int)from rfl];omega));done));(conv=>whnf))))
    refine LoopI.back (p.1 ++ [x], p.2.1 + 1, cap') ⟨by show p.2.1 + 1 ≤ ps.length; omega, by simp [hi2], hq1, hq2, fun e he => ?_, fun l hv hl => ?_⟩ (by show ps.length - (p.2.1 + 1) < ps.length - p.2.1; omega) (Sub.of [(1, 3)] [] rfl ?_)
    · rcases List.mem_append.1 he with h | h
      · exact hi5 e h
      · rw [List.mem_singleton.1 h]; exact hxz
    · show p.1 ++ [x] = l.take (p.2.1 + 1)
      rw [take_snoc l p.2.1 lb0 (hql l hv hl).1, ← hi6 l hv hl, ← hx l hv hl]
    · (repeat' (refine And.intro ?_ ?_)) <;> first | rfl | exact True.intro | (rw [hi2]; rfl) | omega
  simp only [decide_eq_false_iff_not] at g3
  obtain ⟨ls, i, cp⟩ := p
  simp only at hi1 hi2 hi3 hi4 hi5 hi6 g3 ⊢
  obtain rfl : i = ps.length := by omega
  have hz : LbS ls := lbs_small (by omega) hi5
  have hfin : ∀ l, validP l = true → textR l = s → ls = l := fun l hv hl => by
    have h1 := hpt l hv hl
    have h2 := congrArg List.length h1
    rw [List.length_map] at h2
    rw [hi6 l hv hl, h2, List.take_length]
  ((conv=>whnf);(repeat(refine And.intro ?_ ?_;(focus((first|omega|exact⟨rfl,True.intro⟩|exact⟨rfl,rfl,True.intro⟩|rfl|(simp only[List.length_set];first|omega|(refine⟨?_,?_⟩<;>omega)|(refine⟨?_,?_,?_⟩<;>omega))|(intro hg;(try simp only[bB]at hg);first|omega|(refine⟨?_,?_⟩<;>omega)|(refine⟨?_,?_,?_⟩<;>first|omega|(show _<_;(try simp only[List.length_set]);omega)|exact leT rfl))|(refine⟨?_,?_⟩<;>omega)|(refine⟨?_,?_,?_⟩<;>first|omega|(show _<_;(try simp only[List.length_set]);omega)|exact leT rfl)|(simp only[show rI.d=(0:Int)from rfl];omega));done));(conv=>whnf))))
  refine EvCall.plain Tryd.call31 (.v (.bool (validP ls))) rfl (fun ρ W hp => by
    rw [← hi2]
    exact valid_s _ ls W (hp.rowsIn (R := rL) (n := 1) (c := cp) rfl (by decide) (by omega) hi4 2) hz) ?_
  ((conv=>whnf);(repeat(refine And.intro ?_ ?_;(focus((first|omega|exact⟨rfl,True.intro⟩|exact⟨rfl,rfl,True.intro⟩|rfl|(simp only[List.length_set];first|omega|(refine⟨?_,?_⟩<;>omega)|(refine⟨?_,?_,?_⟩<;>omega))|(intro hg;(try simp only[bB]at hg);first|omega|(refine⟨?_,?_⟩<;>omega)|(refine⟨?_,?_,?_⟩<;>first|omega|(show _<_;(try simp only[List.length_set]);omega)|exact leT rfl))|(refine⟨?_,?_⟩<;>omega)|(refine⟨?_,?_,?_⟩<;>first|omega|(show _<_;(try simp only[List.length_set]);omega)|exact leT rfl)|(simp only[show rI.d=(0:Int)from rfl];omega));done));(conv=>whnf))))
  refine EvCallC.plain Tryd.call15 (.v (.string (textR ls))) rfl (fun hc ρ W hp => by
    rw [← hi2]
    exact text_s _ ls W (hp.rowsIn (R := rL) (n := 1) (c := cp) rfl (by decide) (by omega) hi4 2) hz) ?_
  ((conv=>whnf);(repeat(refine And.intro ?_ ?_;(focus((first|omega|exact⟨rfl,True.intro⟩|exact⟨rfl,rfl,True.intro⟩|rfl|(simp only[List.length_set];first|omega|(refine⟨?_,?_⟩<;>omega)|(refine⟨?_,?_,?_⟩<;>omega))|(intro hg;(try simp only[bB]at hg);first|omega|(refine⟨?_,?_⟩<;>omega)|(refine⟨?_,?_,?_⟩<;>first|omega|(show _<_;(try simp only[List.length_set]);omega)|exact leT rfl))|(refine⟨?_,?_⟩<;>omega)|(refine⟨?_,?_,?_⟩<;>first|omega|(show _<_;(try simp only[List.length_set]);omega)|exact leT rfl)|(simp only[show rI.d=(0:Int)from rfl];omega));done));(conv=>whnf))))
  refine EvIf.split (fun g5 => ?_) (fun g5 => ?_)
  · rw [parseR_no (s := s) ?_]
    · ((conv=>whnf);(repeat(refine And.intro ?_ ?_;(focus((first|omega|exact⟨rfl,True.intro⟩|exact⟨rfl,rfl,True.intro⟩|rfl|(simp only[List.length_set];first|omega|(refine⟨?_,?_⟩<;>omega)|(refine⟨?_,?_,?_⟩<;>omega))|(intro hg;(try simp only[bB]at hg);first|omega|(refine⟨?_,?_⟩<;>omega)|(refine⟨?_,?_,?_⟩<;>first|omega|(show _<_;(try simp only[List.length_set]);omega)|exact leT rfl))|(refine⟨?_,?_⟩<;>omega)|(refine⟨?_,?_,?_⟩<;>first|omega|(show _<_;(try simp only[List.length_set]);omega)|exact leT rfl)|(simp only[show rI.d=(0:Int)from rfl];omega));done));(conv=>whnf))))
      exact EvRet.rowsE_nil rfl rfl
    intro l hv hl
    obtain rfl := hfin l hv hl
    rw [tl_eq] at g5
    simp [hv, hl] at g5
  · rw [tl_eq] at g5
    simp only [Bool.or_eq_false_iff, Bool.not_eq_false', decide_eq_true_eq] at g5
    rw [parseR_yes g5.1 g5.2]
    ((conv=>whnf);(repeat(refine And.intro ?_ ?_;(focus((first|omega|exact⟨rfl,True.intro⟩|exact⟨rfl,rfl,True.intro⟩|rfl|(simp only[List.length_set];first|omega|(refine⟨?_,?_⟩<;>omega)|(refine⟨?_,?_,?_⟩<;>omega))|(intro hg;(try simp only[bB]at hg);first|omega|(refine⟨?_,?_⟩<;>omega)|(refine⟨?_,?_,?_⟩<;>first|omega|(show _<_;(try simp only[List.length_set]);omega)|exact leT rfl))|(refine⟨?_,?_⟩<;>omega)|(refine⟨?_,?_,?_⟩<;>first|omega|(show _<_;(try simp only[List.length_set]);omega)|exact leT rfl)|(simp only[show rI.d=(0:Int)from rfl];omega));done));(conv=>whnf))))
    exact EvRet.rowsE (R := rL) hi2.symm (by show ls.length ≤ cp; omega) rfl rfl rfl
end Go.Proofs.YtebfhljamoapjaaDoor
