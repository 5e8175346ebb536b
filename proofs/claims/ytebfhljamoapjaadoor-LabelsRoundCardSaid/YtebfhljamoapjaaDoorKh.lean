
/- Label sets: the reference's New, both Valid, walked; the law LabelsNew. -/
import Derived.Test.YtebfhljamoapjaaDoorKe
namespace Go.Proofs.YtebfhljamoapjaaDoor
open Go.RowKit
set_option linter.unusedVariables false
set_option linter.unusedSimpArgs false

theorem sorted_at {s : List Lb} (h : SortedL s) {i j : Nat} (hij : i < j) (hj : j < s.length) : cmpN (s.getD i lb0) (s.getD j lb0) ≤ 0 := by
  have := List.pairwise_iff_getElem.1 h i j (by omega) hj hij
  rw [List.getD_eq_getElem?_getD, List.getElem?_eq_getElem (by omega), List.getD_eq_getElem?_getD, List.getElem?_eq_getElem hj]
  exact this
theorem mem_getD {s : List Lb} {x : Lb} (h : x ∈ s) : ∃ i, i < s.length ∧ s.getD i lb0 = x := by
  obtain ⟨i, hi, rfl⟩ := List.getElem_of_mem h
  exact ⟨i, hi, by rw [List.getD_eq_getElem?_getD, List.getElem?_eq_getElem hi]; rfl⟩
theorem getD_mem {s : List Lb} {i : Nat} (h : i < s.length) : s.getD i lb0 ∈ s := by
  rw [List.getD_eq_getElem?_getD, List.getElem?_eq_getElem h]
  exact List.getElem_mem h
theorem take_getD {s : List Lb} {i k : Nat} (h : i < k) : (s.take k).getD i lb0 = s.getD i lb0 := by
  rw [List.getD_eq_getElem?_getD, List.getD_eq_getElem?_getD, List.getElem?_take, if_pos h]
/-- A name stands among the first i labels. -/
theorem dup_mem (l : List Lb) (i : Nat) (hi : i < l.length) : dupB l i = true ↔ ∃ y ∈ sortL (l.take i), y.1 = (l.getD i lb0).1 := by
  rw [dupB_iff]
  constructor
  · rintro ⟨j, hj, he⟩
    refine ⟨l.getD j lb0, (mem_sortL _ _).2 ?_, he⟩
    rw [← take_getD hj]
    exact getD_mem (by simp; omega)
  · rintro ⟨y, hy, he⟩
    obtain ⟨j, hj, hy'⟩ := mem_getD ((mem_sortL _ _).1 hy)
    have hji : j < i := by simp at hj; omega
    rw [take_getD hji] at hy'
    exact ⟨j, hji, by rw [hy', he]⟩
theorem ltS_cmpN {x y : Lb} (h : ltS x.1 y.1 = true) : cmpN x y = -1 := by
  unfold cmpN cmpS
  rw [if_pos h]
/-- Where a new name belongs. -/
theorem place_new {s : List Lb} {x : Lb} {k : Nat} (hs : SortedL s) (hk : k ≤ s.length) (h1 : ∀ m, m < k → ltS (s.getD m lb0).1 x.1 = true) (h2 : k < s.length → ltS (s.getD k lb0).1 x.1 = false) (h3 : k < s.length → (s.getD k lb0).1 ≠ x.1) :
    (∀ y ∈ s, y.1 ≠ x.1) ∧ insL s x = s.take k ++ x :: s.drop k := by
  have hgt : ∀ m, k ≤ m → m < s.length → ltS x.1 (s.getD m lb0).1 = true := by
    intro m hm hml
    have hk0 : ltS x.1 (s.getD k lb0).1 = true := by
      cases h : ltS x.1 (s.getD k lb0).1 with
      | true => rfl
      | false => exact absurd (ltS_tri (h2 (by omega)) h) (h3 (by omega))
    by_cases hmk : m = k
    · rw [hmk]; exact hk0
    · have := sorted_at hs (show k < m by omega) hml
      unfold cmpN at this
      rcases cmpS_cases (s.getD k lb0).1 (s.getD m lb0).1 with ⟨h, _⟩ | ⟨h, _⟩ | ⟨_, e⟩
      · exact ltS_trans hk0 h
      · rw [← h]; exact hk0
      · omega
  refine ⟨fun y hy he => ?_, insL_at x s k hk (fun m hm => by rw [ltS_cmpN (h1 m hm)]; omega) (fun hks => ?_)⟩
  · obtain ⟨m, hm, rfl⟩ := mem_getD hy
    by_cases hmk : m < k
    · exact ltS_ne (h1 m hmk) he
    · exact ltS_ne (hgt m (by omega) hm) he.symm
  · have := ltS_cmpN (hgt k (Nat.le_refl _) hks)
    have h5 := cmpS_neg x.1 (s.getD k lb0).1
    unfold cmpN at *
    omega
set_option maxRecDepth 10000 in
theorem ref_new_s (v : Value) (l : List Lb) (w : World) (hv : RowsIn rL w v l) (hz : LbS l) : Con Tryd.prog 49 #[v] w (RetRowsE rL 42 w (newP l).1 (newP l).2) := by
  obtain ⟨A1, c1, rfl, e1, e2⟩ := hv.form
  refine enter tabOk mixed Tryd.func49 rfl Tryd.ntmps49 Tryd.results49 [.s 0 2 l.length c1] (fun _ => A1) [⟨0, false, 42, 2, c1, .rows (ByteArray × ByteArray) rL (l)⟩] 1 rfl rfl (.ro (hp0 _ _ _) _ rfl rfl rfl (ro_rows hv rfl _)) ?_
  ((conv=>whnf);(repeat(refine And.intro ?_ ?_;(focus((first|omega|exact⟨rfl,True.intro⟩|exact⟨rfl,rfl,True.intro⟩|rfl|(simp only[List.length_set];first|omega|(refine⟨?_,?_⟩<;>omega)|(refine⟨?_,?_,?_⟩<;>omega))|(intro hg;(try simp only[bB]at hg);first|omega|(refine⟨?_,?_⟩<;>omega)|(refine⟨?_,?_,?_⟩<;>first|omega|(show _<_;(try simp only[List.length_set]);omega)|exact leT rfl))|(refine⟨?_,?_⟩<;>omega)|(refine⟨?_,?_,?_⟩<;>first|omega|(show _<_;(try simp only[List.length_set]);omega)|exact leT rfl)|(simp only[show rI.d=(0:Int)from rfl];omega));done));(conv=>whnf))))
  refine EvIf.split (fun g0 => ?_) (fun g0 => ?_)
  · simp only [decide_eq_true_eq] at g0
    rw [newP_4 (by omega)]
    ((conv=>whnf);(repeat(refine And.intro ?_ ?_;(focus((first|omega|exact⟨rfl,True.intro⟩|exact⟨rfl,rfl,True.intro⟩|rfl|(simp only[List.length_set];first|omega|(refine⟨?_,?_⟩<;>omega)|(refine⟨?_,?_,?_⟩<;>omega))|(intro hg;(try simp only[bB]at hg);first|omega|(refine⟨?_,?_⟩<;>omega)|(refine⟨?_,?_,?_⟩<;>first|omega|(show _<_;(try simp only[List.length_set]);omega)|exact leT rfl))|(refine⟨?_,?_⟩<;>omega)|(refine⟨?_,?_,?_⟩<;>first|omega|(show _<_;(try simp only[List.length_set]);omega)|exact leT rfl)|(simp only[show rI.d=(0:Int)from rfl];omega));done));(conv=>whnf))))
    exact EvRet.rowsE_nil rfl rfl
  simp only [decide_eq_false_iff_not] at g0
  have h8 : ¬ 8 < l.length := by omega
  ((conv=>whnf);(repeat(refine And.intro ?_ ?_;(focus((first|omega|exact⟨rfl,True.intro⟩|exact⟨rfl,rfl,True.intro⟩|rfl|(simp only[List.length_set];first|omega|(refine⟨?_,?_⟩<;>omega)|(refine⟨?_,?_,?_⟩<;>omega))|(intro hg;(try simp only[bB]at hg);first|omega|(refine⟨?_,?_⟩<;>omega)|(refine⟨?_,?_,?_⟩<;>first|omega|(show _<_;(try simp only[List.length_set]);omega)|exact leT rfl))|(refine⟨?_,?_⟩<;>omega)|(refine⟨?_,?_,?_⟩<;>first|omega|(show _<_;(try simp only[List.length_set]);omega)|exact leT rfl)|(simp only[show rI.d=(0:Int)from rfl];omega));done));(conv=>whnf))))
  refine EvLoop.inv (α := Nat × Nat) (fun p => p.1 ≤ l.length ∧ newC l p.1 = 0 ∧ p.1 ≤ p.2 ∧ p.2 ≤ 9223372036854775807) (fun p => l.length - p.1) (fun p => [(5, [], .v (.int .i64 ((p.1 : Int)))), (4, [], .s 1 2 p.1 p.2), (0, [], .s 0 2 l.length c1)])
    (fun p => [⟨1, true, 42, 2, p.2, .rows (ByteArray × ByteArray) rL (sortL (l.take p.1))⟩, ⟨0, false, 42, 2, c1, .rows (ByteArray × ByteArray) rL (l)⟩]) 2 (0, 0) ⟨by simp, rfl, by simp, by decide⟩ (Sub.of [] [1] rfl ?_) ?_
  · ((repeat' (refine And.intro ?_ ?_)) <;> first | rfl | exact True.intro | omega)
  intro p ⟨hi1, hi2, hi3, hi4⟩
  have hzi := hz.2 p.1
  have hsl : (sortL (l.take p.1)).length = p.1 := by rw [sortL_len]; simp; omega
  ((conv=>whnf);(repeat(refine And.intro ?_ ?_;(focus((first|omega|exact⟨rfl,True.intro⟩|exact⟨rfl,rfl,True.intro⟩|rfl|(simp only[List.length_set];first|omega|(refine⟨?_,?_⟩<;>omega)|(refine⟨?_,?_,?_⟩<;>omega))|(intro hg;(try simp only[bB]at hg);first|omega|(refine⟨?_,?_⟩<;>omega)|(refine⟨?_,?_,?_⟩<;>first|omega|(show _<_;(try simp only[List.length_set]);omega)|exact leT rfl))|(refine⟨?_,?_⟩<;>omega)|(refine⟨?_,?_,?_⟩<;>first|omega|(show _<_;(try simp only[List.length_set]);omega)|exact leT rfl)|(simp only[show rI.d=(0:Int)from rfl];omega));done));(conv=>whnf))))
  refine EvIf.split (fun g1 => ?_) (fun g1 => ?_)
  · simp only [decide_eq_true_eq] at g1
    have hbad : badC l p.1 = if nameB (l.getD p.1 lb0).1 = false then 8 else if (l.getD p.1 lb0).2 = ByteArray.empty ∨ valueB (l.getD p.1 lb0).2 = false then 1 else if dupB l p.1 = true then 10 else 0 := rfl
    have hall := newC_bad l p.1 hi2 (by omega)
    ((conv=>whnf);(repeat(refine And.intro ?_ ?_;(focus((first|omega|exact⟨rfl,True.intro⟩|exact⟨rfl,rfl,True.intro⟩|rfl|(simp only[List.length_set];first|omega|(refine⟨?_,?_⟩<;>omega)|(refine⟨?_,?_,?_⟩<;>omega))|(intro hg;(try simp only[bB]at hg);first|omega|(refine⟨?_,?_⟩<;>omega)|(refine⟨?_,?_,?_⟩<;>first|omega|(show _<_;(try simp only[List.length_set]);omega)|exact leT rfl))|(refine⟨?_,?_⟩<;>omega)|(refine⟨?_,?_,?_⟩<;>first|omega|(show _<_;(try simp only[List.length_set]);omega)|exact leT rfl)|(simp only[show rI.d=(0:Int)from rfl];omega));done));(conv=>whnf))))
    refine EvCall.plain Tryd.call67 (.v (.bool (nameB (l.getD p.1 lb0).1))) rfl (fun ρ W hp => ref_name_s _ W (by show (l.getD p.1 lb0).1.size ≤ _; omega)) ?_
    ((conv=>whnf);(repeat(refine And.intro ?_ ?_;(focus((first|omega|exact⟨rfl,True.intro⟩|exact⟨rfl,rfl,True.intro⟩|rfl|(simp only[List.length_set];first|omega|(refine⟨?_,?_⟩<;>omega)|(refine⟨?_,?_,?_⟩<;>omega))|(intro hg;(try simp only[bB]at hg);first|omega|(refine⟨?_,?_⟩<;>omega)|(refine⟨?_,?_,?_⟩<;>first|omega|(show _<_;(try simp only[List.length_set]);omega)|exact leT rfl))|(refine⟨?_,?_⟩<;>omega)|(refine⟨?_,?_,?_⟩<;>first|omega|(show _<_;(try simp only[List.length_set]);omega)|exact leT rfl)|(simp only[show rI.d=(0:Int)from rfl];omega));done));(conv=>whnf))))
    refine EvIf.split (fun g2 => ?_) (fun g2 => ?_)
    · have g3 : nameB (l.getD p.1 lb0).1 = false := by simpa using g2
      rw [if_pos g3] at hbad
      rw [hbad] at hall
      rw [newP_bad h8 (hall (by decide)) (by decide)]
      ((conv=>whnf);(repeat(refine And.intro ?_ ?_;(focus((first|omega|exact⟨rfl,True.intro⟩|exact⟨rfl,rfl,True.intro⟩|rfl|(simp only[List.length_set];first|omega|(refine⟨?_,?_⟩<;>omega)|(refine⟨?_,?_,?_⟩<;>omega))|(intro hg;(try simp only[bB]at hg);first|omega|(refine⟨?_,?_⟩<;>omega)|(refine⟨?_,?_,?_⟩<;>first|omega|(show _<_;(try simp only[List.length_set]);omega)|exact leT rfl))|(refine⟨?_,?_⟩<;>omega)|(refine⟨?_,?_,?_⟩<;>first|omega|(show _<_;(try simp only[List.length_set]);omega)|exact leT rfl)|(simp only[show rI.d=(0:Int)from rfl];omega));done));(conv=>whnf))))
      exact EvRet.rowsE_nil rfl rfl
    have g3 : nameB (l.getD p.1 lb0).1 = true := by simpa using g2
    rw [if_neg (by rw [g3]; simp)] at hbad
    ((conv=>whnf);(repeat(refine And.intro ?_ ?_;(focus((first|omega|exact⟨rfl,True.intro⟩|exact⟨rfl,rfl,True.intro⟩|rfl|(simp only[List.length_set];first|omega|(refine⟨?_,?_⟩<;>omega)|(refine⟨?_,?_,?_⟩<;>omega))|(intro hg;(try simp only[bB]at hg);first|omega|(refine⟨?_,?_⟩<;>omega)|(refine⟨?_,?_,?_⟩<;>first|omega|(show _<_;(try simp only[List.length_set]);omega)|exact leT rfl))|(refine⟨?_,?_⟩<;>omega)|(refine⟨?_,?_,?_⟩<;>first|omega|(show _<_;(try simp only[List.length_set]);omega)|exact leT rfl)|(simp only[show rI.d=(0:Int)from rfl];omega));done));(conv=>whnf))))
    refine EvCallC.plain Tryd.call68 (.v (.bool (valueB (l.getD p.1 lb0).2))) rfl (fun hc ρ W hp => ref_value_s _ W (by show (l.getD p.1 lb0).2.size ≤ _; omega)) ?_
    ((conv=>whnf);(repeat(refine And.intro ?_ ?_;(focus((first|omega|exact⟨rfl,True.intro⟩|exact⟨rfl,rfl,True.intro⟩|rfl|(simp only[List.length_set];first|omega|(refine⟨?_,?_⟩<;>omega)|(refine⟨?_,?_,?_⟩<;>omega))|(intro hg;(try simp only[bB]at hg);first|omega|(refine⟨?_,?_⟩<;>omega)|(refine⟨?_,?_,?_⟩<;>first|omega|(show _<_;(try simp only[List.length_set]);omega)|exact leT rfl))|(refine⟨?_,?_⟩<;>omega)|(refine⟨?_,?_,?_⟩<;>first|omega|(show _<_;(try simp only[List.length_set]);omega)|exact leT rfl)|(simp only[show rI.d=(0:Int)from rfl];omega));done));(conv=>whnf))))
    refine EvIf.split (fun g4 => ?_) (fun g4 => ?_)
    · have g5 : (l.getD p.1 lb0).2 = ByteArray.empty ∨ valueB (l.getD p.1 lb0).2 = false := by
        rw [tl_eq] at g4
        simp only [Bool.or_eq_true, decide_eq_true_eq, Bool.not_eq_true'] at g4
        exact g4
      rw [if_pos g5] at hbad
      rw [hbad] at hall
      rw [newP_bad h8 (hall (by decide)) (by decide)]
      ((conv=>whnf);(repeat(refine And.intro ?_ ?_;(focus((first|omega|exact⟨rfl,True.intro⟩|exact⟨rfl,rfl,True.intro⟩|rfl|(simp only[List.length_set];first|omega|(refine⟨?_,?_⟩<;>omega)|(refine⟨?_,?_,?_⟩<;>omega))|(intro hg;(try simp only[bB]at hg);first|omega|(refine⟨?_,?_⟩<;>omega)|(refine⟨?_,?_,?_⟩<;>first|omega|(show _<_;(try simp only[List.length_set]);omega)|exact leT rfl))|(refine⟨?_,?_⟩<;>omega)|(refine⟨?_,?_,?_⟩<;>first|omega|(show _<_;(try simp only[List.length_set]);omega)|exact leT rfl)|(simp only[show rI.d=(0:Int)from rfl];omega));done));(conv=>whnf))))
      exact EvRet.rowsE_nil rfl rfl
    have g5 : ¬ ((l.getD p.1 lb0).2 = ByteArray.empty ∨ valueB (l.getD p.1 lb0).2 = false) := by
      rw [tl_eq] at g4
      simp only [Bool.or_eq_false_iff, decide_eq_false_iff_not, Bool.not_eq_false'] at g4
      rintro (h | h)
      · exact g4.1 h
      · rw [g4.2] at h; cases h
    rw [if_neg g5] at hbad
    have hdm := dup_mem l p.1 (by omega)
    have hso := sortL_sorted (l.take p.1)
    have hts : sortL (l.take (p.1 + 1)) = insL (sortL (l.take p.1)) (l.getD p.1 lb0) := by rw [take_snoc l p.1 lb0 (by omega), sortL_snoc]
    obtain ⟨s, hs⟩ : ∃ s, sortL (l.take p.1) = s := ⟨_, rfl⟩
    rw [hs] at hsl hdm hso hts ⊢
    ((conv=>whnf);(repeat(refine And.intro ?_ ?_;(focus((first|omega|exact⟨rfl,True.intro⟩|exact⟨rfl,rfl,True.intro⟩|rfl|(simp only[List.length_set];first|omega|(refine⟨?_,?_⟩<;>omega)|(refine⟨?_,?_,?_⟩<;>omega))|(intro hg;(try simp only[bB]at hg);first|omega|(refine⟨?_,?_⟩<;>omega)|(refine⟨?_,?_,?_⟩<;>first|omega|(show _<_;(try simp only[List.length_set]);omega)|exact leT rfl))|(refine⟨?_,?_⟩<;>omega)|(refine⟨?_,?_,?_⟩<;>first|omega|(show _<_;(try simp only[List.length_set]);omega)|exact leT rfl)|(simp only[show rI.d=(0:Int)from rfl];omega));done));(conv=>whnf))))
    refine EvLoop.inv (α := Nat × Nat) (fun q => q.1 ≤ s.length ∧ q.1 ≤ q.2 ∧ q.2 ≤ 9223372036854775807 ∧ ∀ m, m < q.1 → ltS (s.getD m lb0).1 (l.getD p.1 lb0).1 = true) (fun q => s.length - q.1) (fun q => [(7, [], .v (.int .i64 ((q.1 : Int)))), (6, [], .s 2 2 q.1 q.2), (5, [], .v (.int .i64 ((p.1 : Int)))), (4, [], .s 1 2 p.1 p.2), (0, [], .s 0 2 l.length c1)])
      (fun q => [⟨2, true, 42, 2, q.2, .rows (ByteArray × ByteArray) rL (s.take q.1)⟩, ⟨1, true, 42, 2, p.2, .rows (ByteArray × ByteArray) rL (s)⟩, ⟨0, false, 42, 2, c1, .rows (ByteArray × ByteArray) rL (l)⟩]) 3 (0, 0) ⟨by simp, by simp, by decide, fun m hm => by simp at hm⟩ (Sub.of [] [2] rfl ?_) ?_
    · ((repeat' (refine And.intro ?_ ?_)) <;> first | rfl | exact True.intro | omega)
    intro q ⟨hk1, hk2, hk3, hk4⟩
    have htl : (s.take q.1).length = q.1 := by simp; omega
    ((conv=>whnf);(repeat(refine And.intro ?_ ?_;(focus((first|omega|exact⟨rfl,True.intro⟩|exact⟨rfl,rfl,True.intro⟩|rfl|(simp only[List.length_set];first|omega|(refine⟨?_,?_⟩<;>omega)|(refine⟨?_,?_,?_⟩<;>omega))|(intro hg;(try simp only[bB]at hg);first|omega|(refine⟨?_,?_⟩<;>omega)|(refine⟨?_,?_,?_⟩<;>first|omega|(show _<_;(try simp only[List.length_set]);omega)|exact leT rfl))|(refine⟨?_,?_⟩<;>omega)|(refine⟨?_,?_,?_⟩<;>first|omega|(show _<_;(try simp only[List.length_set]);omega)|exact leT rfl)|(simp only[show rI.d=(0:Int)from rfl];omega));done));(conv=>whnf))))
    (refine EvDraw.one (.q 0 (.q 1 (.q 2 (.q 3 (.q 4 (.q 5 (.q 6 (.q 7 (.q 8 (.q 9 (.q 10 (.q 11 (.q 12 (.q 13 (.q 14 (.q 15 (.q 16 (.z)))))))))))))))))) (by kernel_rfl) ?_)
    ((conv=>whnf);(repeat(refine And.intro ?_ ?_;(focus((first|omega|exact⟨rfl,True.intro⟩|exact⟨rfl,rfl,True.intro⟩|rfl|(simp only[List.length_set];first|omega|(refine⟨?_,?_⟩<;>omega)|(refine⟨?_,?_,?_⟩<;>omega))|(intro hg;(try simp only[bB]at hg);first|omega|(refine⟨?_,?_⟩<;>omega)|(refine⟨?_,?_,?_⟩<;>first|omega|(show _<_;(try simp only[List.length_set]);omega)|exact leT rfl))|(refine⟨?_,?_⟩<;>omega)|(refine⟨?_,?_,?_⟩<;>first|omega|(show _<_;(try simp only[List.length_set]);omega)|exact leT rfl)|(simp only[show rI.d=(0:Int)from rfl];omega));done));(conv=>whnf))))
    refine EvIf.split (fun g6 => ?_) (fun g6 => ?_)
    · have g7 : (q.1 : Int) < (p.1 : Int) ∧ ltS (s.getD q.1 lb0).1 (l.getD p.1 lb0).1 = true := by
        simp only [Bool.and_eq_true, decide_eq_true_eq] at g6
        exact g6
      ((conv=>whnf);(repeat(refine And.intro ?_ ?_;(focus((first|omega|exact⟨rfl,True.intro⟩|exact⟨rfl,rfl,True.intro⟩|rfl|(simp only[List.length_set];first|omega|(refine⟨?_,?_⟩<;>omega)|(refine⟨?_,?_,?_⟩<;>omega))|(intro hg;(try simp only[bB]at hg);first|omega|(refine⟨?_,?_⟩<;>omega)|(refine⟨?_,?_,?_⟩<;>first|omega|(show _<_;(try simp only[List.length_set]);omega)|exact leT rfl))|(refine⟨?_,?_⟩<;>omega)|(refine⟨?_,?_,?_⟩<;>first|omega|(show _<_;(try simp only[List.length_set]);omega)|exact leT rfl)|(simp only[show rI.d=(0:Int)from rfl];omega));done));(conv=>whnf))))
      refine EvBi.append (R := rL) tyok25 rfl tyok42 rfl (by decide) rfl rfl htl.symm (by rw [htl]; exact hk2) [s.getD q.1 lb0] (fun ρ W hp => hp.lit (R := rL) (ys := [s.getD q.1 lb0]) rfl (by decide) (by simp) (by omega) rfl) (by rw [htl]; show (_ + 1) * 32 ≤ _; omega) (by rw [htl]; show _ + 1 ≤ _; omega) (fun cap' hq1 hq2 => ?_)
      rw [htl] at hq1
      have htk : s.take q.1 ++ [s.getD q.1 lb0] = s.take (q.1 + 1) := (take_snoc s q.1 lb0 (by omega)).symm
      rw [htk]
      ((conv=>whnf);(repeat(refine And.intro ?_ ?_;(focus((first|omega|exact⟨rfl,True.intro⟩|exact⟨rfl,rfl,True.intro⟩|rfl|(simp only[List.length_set];first|omega|(refine⟨?_,?_⟩<;>omega)|(refine⟨?_,?_,?_⟩<;>omega))|(intro hg;(try simp only[bB]at hg);first|omega|(refine⟨?_,?_⟩<;>omega)|(refine⟨?_,?_,?_⟩<;>first|omega|(show _<_;(try simp only[List.length_set]);omega)|exact leT rfl))|(refine⟨?_,?_⟩<;>omega)|(refine⟨?_,?_,?_⟩<;>first|omega|(show _<_;(try simp only[List.length_set]);omega)|exact leT rfl)|(simp only[show rI.d=(0:Int)from rfl];omega));done));(conv=>whnf))))
      refine LoopI.back (q.1 + 1, cap') ⟨by show q.1 + 1 ≤ s.length; omega, hq1, hq2, fun m hm => ?_⟩ (by show s.length - (q.1 + 1) < s.length - q.1; omega) (Sub.of [(2, 4)] [] rfl ?_)
      · by_cases hmq : m = q.1
        · rw [hmq]; exact g7.2
        · exact hk4 m (by have : m < q.1 + 1 := hm; omega)
      · (repeat' (refine And.intro ?_ ?_)) <;> first | rfl | exact True.intro | (rw [htl]; rfl) | omega
    · have g7 : q.1 < s.length → ltS (s.getD q.1 lb0).1 (l.getD p.1 lb0).1 = false := by
        intro hq
        simp only [Bool.and_eq_false_iff, decide_eq_false_iff_not] at g6
        rcases g6 with g6 | g6
        · omega
        · exact g6
      ((conv=>whnf);(repeat(refine And.intro ?_ ?_;(focus((first|omega|exact⟨rfl,True.intro⟩|exact⟨rfl,rfl,True.intro⟩|rfl|(simp only[List.length_set];first|omega|(refine⟨?_,?_⟩<;>omega)|(refine⟨?_,?_,?_⟩<;>omega))|(intro hg;(try simp only[bB]at hg);first|omega|(refine⟨?_,?_⟩<;>omega)|(refine⟨?_,?_,?_⟩<;>first|omega|(show _<_;(try simp only[List.length_set]);omega)|exact leT rfl))|(refine⟨?_,?_⟩<;>omega)|(refine⟨?_,?_,?_⟩<;>first|omega|(show _<_;(try simp only[List.length_set]);omega)|exact leT rfl)|(simp only[show rI.d=(0:Int)from rfl];omega));done));(conv=>whnf))))
      (refine EvDraw.one (.q 0 (.q 1 (.q 2 (.q 3 (.q 4 (.q 5 (.q 6 (.q 7 (.q 8 (.q 9 (.q 10 (.q 11 (.q 12 (.q 13 (.q 14 (.q 15 (.q 16 (.z)))))))))))))))))) (by kernel_rfl) ?_)
      ((conv=>whnf);(repeat(refine And.intro ?_ ?_;(focus((first|omega|exact⟨rfl,True.intro⟩|exact⟨rfl,rfl,True.intro⟩|rfl|(simp only[List.length_set];first|omega|(refine⟨?_,?_⟩<;>omega)|(refine⟨?_,?_,?_⟩<;>omega))|(intro hg;(try simp only[bB]at hg);first|omega|(refine⟨?_,?_⟩<;>omega)|(refine⟨?_,?_,?_⟩<;>first|omega|(show _<_;(try simp only[List.length_set]);omega)|exact leT rfl))|(refine⟨?_,?_⟩<;>omega)|(refine⟨?_,?_,?_⟩<;>first|omega|(show _<_;(try simp only[List.length_set]);omega)|exact leT rfl)|(simp only[show rI.d=(0:Int)from rfl];omega));done));(conv=>whnf))))
      refine EvIf.split (fun g8 => ?_) (fun g8 => ?_)
      · have g9 : (q.1 : Int) < (p.1 : Int) ∧ (s.getD q.1 lb0).1 = (l.getD p.1 lb0).1 := by
          rw [tl_eq] at g8
          simp only [Bool.and_eq_true, decide_eq_true_eq] at g8
          exact g8
        rw [if_pos (hdm.2 ⟨_, getD_mem (by omega), g9.2⟩)] at hbad
        rw [hbad] at hall
        rw [newP_bad h8 (hall (by decide)) (by decide)]
        ((conv=>whnf);(repeat(refine And.intro ?_ ?_;(focus((first|omega|exact⟨rfl,True.intro⟩|exact⟨rfl,rfl,True.intro⟩|rfl|(simp only[List.length_set];first|omega|(refine⟨?_,?_⟩<;>omega)|(refine⟨?_,?_,?_⟩<;>omega))|(intro hg;(try simp only[bB]at hg);first|omega|(refine⟨?_,?_⟩<;>omega)|(refine⟨?_,?_,?_⟩<;>first|omega|(show _<_;(try simp only[List.length_set]);omega)|exact leT rfl))|(refine⟨?_,?_⟩<;>omega)|(refine⟨?_,?_,?_⟩<;>first|omega|(show _<_;(try simp only[List.length_set]);omega)|exact leT rfl)|(simp only[show rI.d=(0:Int)from rfl];omega));done));(conv=>whnf))))
        exact EvRet.rowsE_nil rfl rfl
      · have g9 : q.1 < s.length → (s.getD q.1 lb0).1 ≠ (l.getD p.1 lb0).1 := by
          intro hq
          rw [tl_eq] at g8
          simp only [Bool.and_eq_false_iff, decide_eq_false_iff_not] at g8
          rcases g8 with g8 | g8
          · omega
          · exact g8
        obtain ⟨hnm, hins⟩ := place_new hso hk1 hk4 g7 g9
        have hnd : ¬ dupB l p.1 = true := by
          rw [hdm]
          rintro ⟨y, hy, he⟩
          exact hnm y hy he
        rw [if_neg hnd] at hbad
        ((conv=>whnf);(repeat(refine And.intro ?_ ?_;(focus((first|omega|exact⟨rfl,True.intro⟩|exact⟨rfl,rfl,True.intro⟩|rfl|(simp only[List.length_set];first|omega|(refine⟨?_,?_⟩<;>omega)|(refine⟨?_,?_,?_⟩<;>omega))|(intro hg;(try simp only[bB]at hg);first|omega|(refine⟨?_,?_⟩<;>omega)|(refine⟨?_,?_,?_⟩<;>first|omega|(show _<_;(try simp only[List.length_set]);omega)|exact leT rfl))|(refine⟨?_,?_⟩<;>omega)|(refine⟨?_,?_,?_⟩<;>first|omega|(show _<_;(try simp only[List.length_set]);omega)|exact leT rfl)|(simp only[show rI.d=(0:Int)from rfl];omega));done));(conv=>whnf))))
        refine EvBi.append (R := rL) tyok25 rfl tyok42 rfl (by decide) rfl rfl htl.symm (by rw [htl]; exact hk2) [l.getD p.1 lb0] (fun ρ W hp => hp.lit (R := rL) (ys := [l.getD p.1 lb0]) rfl (by decide) (by simp) (by omega) rfl) (by rw [htl]; show (_ + 1) * 32 ≤ _; omega) (by rw [htl]; show _ + 1 ≤ _; omega) (fun cb hq1 hq2 => ?_)
        ((conv=>whnf);(repeat(refine And.intro ?_ ?_;(focus((first|omega|exact⟨rfl,True.intro⟩|exact⟨rfl,rfl,True.intro⟩|rfl|(simp only[List.length_set];first|omega|(refine⟨?_,?_⟩<;>omega)|(refine⟨?_,?_,?_⟩<;>omega))|(intro hg;(try simp only[bB]at hg);first|omega|(refine⟨?_,?_⟩<;>omega)|(refine⟨?_,?_,?_⟩<;>first|omega|(show _<_;(try simp only[List.length_set]);omega)|exact leT rfl))|(refine⟨?_,?_⟩<;>omega)|(refine⟨?_,?_,?_⟩<;>first|omega|(show _<_;(try simp only[List.length_set]);omega)|exact leT rfl)|(simp only[show rI.d=(0:Int)from rfl];omega));done));(conv=>whnf))))
        have hdl : ((s.drop q.1).take (s.length - q.1)) = s.drop q.1 := List.take_of_length_le (by simp)
        have hll : (s.take q.1 ++ [l.getD p.1 lb0]).length = q.1 + 1 := by simp; omega
        have hdk : (s.drop q.1).length = s.length - q.1 := by simp
        refine EvBi.append (R := rL) (xs := s.take q.1 ++ [l.getD p.1 lb0]) tyok25 rfl tyok42 rfl (by decide) rfl rfl (by rw [hll, htl]; rfl) (by rw [hll]; rw [htl] at hq1; exact hq1) (s.drop q.1) (fun ρ W hp => by
          have := hp.part (R := rL) (n := 1) (xs := s) (c := p.2) rfl (by decide) (by omega) hi4 q.1 s.length hk1 (Nat.le_refl _)
          rw [hdl, hsl] at this
          exact this) (by rw [hll, hdk]; show (q.1 + 1 + (s.length - q.1)) * 32 ≤ _; omega) (by rw [hll, hdk]; omega) (fun cc hq5 hq6 => ?_)
        have hfin : s.take q.1 ++ [l.getD p.1 lb0] ++ s.drop q.1 = sortL (l.take (p.1 + 1)) := by rw [hts, hins]; simp
        rw [hfin]
        rw [hll, hdk] at hq5
        ((conv=>whnf);(repeat(refine And.intro ?_ ?_;(focus((first|omega|exact⟨rfl,True.intro⟩|exact⟨rfl,rfl,True.intro⟩|rfl|(simp only[List.length_set];first|omega|(refine⟨?_,?_⟩<;>omega)|(refine⟨?_,?_,?_⟩<;>omega))|(intro hg;(try simp only[bB]at hg);first|omega|(refine⟨?_,?_⟩<;>omega)|(refine⟨?_,?_,?_⟩<;>first|omega|(show _<_;(try simp only[List.length_set]);omega)|exact leT rfl))|(refine⟨?_,?_⟩<;>omega)|(refine⟨?_,?_,?_⟩<;>first|omega|(show _<_;(try simp only[List.length_set]);omega)|exact leT rfl)|(simp only[show rI.d=(0:Int)from rfl];omega));done));(conv=>whnf))))
        refine LoopI.back (p.1 + 1, cc) ⟨by show p.1 + 1 ≤ l.length; omega, newC_ok l p.1 hi2 hbad, by show p.1 + 1 ≤ cc; omega, hq6⟩ (by show l.length - (p.1 + 1) < l.length - p.1; omega) (Sub.of [(1, 5)] [] rfl ?_)
        (repeat' (refine And.intro ?_ ?_)) <;> first | rfl | exact True.intro | (rw [hll, hdk]; show _ = _; omega) | omega
  simp only [decide_eq_false_iff_not] at g1
  obtain ⟨i, cp⟩ := p
  obtain rfl : i = l.length := by simp only at g1 hi1; omega
  rw [newP_ok h8 hi2]
  simp only [List.take_length] at hsl ⊢
  ((conv=>whnf);(repeat(refine And.intro ?_ ?_;(focus((first|omega|exact⟨rfl,True.intro⟩|exact⟨rfl,rfl,True.intro⟩|rfl|(simp only[List.length_set];first|omega|(refine⟨?_,?_⟩<;>omega)|(refine⟨?_,?_,?_⟩<;>omega))|(intro hg;(try simp only[bB]at hg);first|omega|(refine⟨?_,?_⟩<;>omega)|(refine⟨?_,?_,?_⟩<;>first|omega|(show _<_;(try simp only[List.length_set]);omega)|exact leT rfl))|(refine⟨?_,?_⟩<;>omega)|(refine⟨?_,?_,?_⟩<;>first|omega|(show _<_;(try simp only[List.length_set]);omega)|exact leT rfl)|(simp only[show rI.d=(0:Int)from rfl];omega));done));(conv=>whnf))))
  exact EvRet.rowsE (R := rL) hsl.symm (by show (sortL l).length ≤ cp; rw [hsl]; exact hi3) rfl rfl rfl
/-- Label i may stand where it stands. -/
def vAt (l : List Lb) (i : Nat) : Prop := nameB (l.getD i lb0).1 = true ∧ (l.getD i lb0).2 ≠ ByteArray.empty ∧ valueB (l.getD i lb0).2 = true ∧ (0 < i → ltS (l.getD (i - 1) lb0).1 (l.getD i lb0).1 = true)
def validP (l : List Lb) : Bool := decide (newP l = (l, 0))
theorem insL_last (x : Lb) : ∀ s : List Lb, (∀ y ∈ s, cmpN y x ≤ 0) → insL s x = s ++ [x]
  | [], _ => rfl
  | y :: r, h => by
    unfold insL
    rw [if_pos (h y (by simp)), insL_last x r (fun z hz => h z (by simp [hz]))]
    rfl
theorem sortL_take {l : List Lb} (h : SortedL l) : ∀ i, i ≤ l.length → sortL (l.take i) = l.take i
  | 0, _ => by simp [sortL]
  | i + 1, hi => by
    rw [take_snoc l i lb0 (by omega), sortL_snoc, sortL_take h i (by omega), insL_last]
    intro y hy
    obtain ⟨j, hj, rfl⟩ := mem_getD hy
    have hji : j < i := by simp at hj; omega
    rw [take_getD hji]
    exact sorted_at h hji (by omega)
theorem sortL_id {l : List Lb} (h : SortedL l) : sortL l = l := by
  have := sortL_take h l.length (Nat.le_refl _)
  rwa [List.take_length] at this
theorem lt_all {l : List Lb} (h : ∀ i, i < l.length → vAt l i) : ∀ i j, i < j → j < l.length → ltS (l.getD i lb0).1 (l.getD j lb0).1 = true := by
  intro i j
  induction j with
  | zero => intro hij; omega
  | succ j ih =>
    intro hij hj
    have h1 := (h (j + 1) hj).2.2.2 (by omega)
    simp only [Nat.add_sub_cancel] at h1
    by_cases hie : i = j
    · rw [hie]; exact h1
    · exact ltS_trans (ih (by omega) (by omega)) h1
theorem badC_0 {l : List Lb} {i : Nat} (h1 : nameB (l.getD i lb0).1 = true) (h2 : (l.getD i lb0).2 ≠ ByteArray.empty) (h3 : valueB (l.getD i lb0).2 = true) (h4 : ¬ dupB l i = true) : badC l i = 0 := by
  unfold badC
  rw [if_neg (by rw [h1]; simp), if_neg (by rw [h3]; rintro (h | h); exact h2 h; cases h), if_neg h4]
theorem badC_inv {l : List Lb} {i : Nat} (h : badC l i = 0) : nameB (l.getD i lb0).1 = true ∧ (l.getD i lb0).2 ≠ ByteArray.empty ∧ valueB (l.getD i lb0).2 = true ∧ ¬ dupB l i = true := by
  unfold badC at h
  split at h
  · cases h
  · rename_i h1
    split at h
    · cases h
    · rename_i h2
      split at h
      · cases h
      · rename_i h3
        exact ⟨by simpa using h1, fun h => h2 (.inl h), by cases hv : valueB (l.getD i lb0).2 with | true => rfl | false => exact absurd (.inr hv) h2, h3⟩
theorem sorted_of {l : List Lb} (h : ∀ i, i < l.length → vAt l i) : SortedL l := by
  refine List.pairwise_iff_getElem.2 fun i j hi hj hij => ?_
  have := ltS_cmpN (lt_all h i j hij hj)
  rw [List.getD_eq_getElem?_getD, List.getElem?_eq_getElem hi, List.getD_eq_getElem?_getD, List.getElem?_eq_getElem hj] at this
  simp only [Option.getD_some] at this
  omega
theorem valid_yes {l : List Lb} (hl : ¬ 8 < l.length) (h : ∀ i, i < l.length → vAt l i) : validP l = true := by
  have hc : ∀ i, i ≤ l.length → newC l i = 0 := by
    intro i
    induction i with
    | zero => intro _; rfl
    | succ i ih =>
      intro hi
      obtain ⟨a1, a2, a3, _⟩ := h i (by omega)
      refine newC_ok l i (ih (by omega)) (badC_0 a1 a2 a3 ?_)
      rw [dupB_iff]
      rintro ⟨j, hj, he⟩
      exact ltS_ne (lt_all h j i hj (by omega)) he
  unfold validP
  rw [newP_ok hl (hc _ (Nat.le_refl _)), sortL_id (sorted_of h)]
  simp
theorem valid_inv {l : List Lb} (h : validP l = true) : ¬ 8 < l.length ∧ ∀ i, i < l.length → vAt l i := by
  have h0 : newP l = (l, 0) := of_decide_eq_true h
  unfold newP at h0
  split at h0
  · simp at h0
  rename_i hl
  split at h0
  · rename_i hc
    simp only [Prod.mk.injEq] at h0
    exact absurd h0.2 hc
  rename_i hc
  have hc0 : newC l l.length = 0 := Classical.not_not.1 hc
  simp only [Prod.mk.injEq, and_true] at h0
  have hb := newC_all l l.length hc0
  have hso := sortL_sorted l
  rw [h0] at hso
  refine ⟨hl, fun i hi => ?_⟩
  obtain ⟨a1, a2, a3, a4⟩ := badC_inv (hb i hi)
  refine ⟨a1, a2, a3, fun h0 => ?_⟩
  have h1 := sorted_at hso (show i - 1 < i by omega) hi
  unfold cmpN at h1
  rcases cmpS_cases (l.getD (i - 1) lb0).1 (l.getD i lb0).1 with ⟨h, _⟩ | ⟨h, _⟩ | ⟨_, e⟩
  · exact h
  · exact absurd ((dupB_iff l i).2 ⟨i - 1, by omega, h⟩) a4
  · omega
theorem valid_no {l : List Lb} (i : Nat) (hi : i < l.length) (h : ¬ vAt l i) : validP l = false := by
  cases hv : validP l with
  | false => rfl
  | true => exact absurd ((valid_inv hv).2 i hi) h
theorem valid_long {l : List Lb} (h : 8 < l.length) : validP l = false := by
  cases hv : validP l with
  | false => rfl
  | true => exact absurd h (valid_inv hv).1
set_option maxRecDepth 10000 in
theorem valid_s (v : Value) (l : List Lb) (w : World) (hv : RowsIn rL w v l) (hz : LbS l) : Con Tryd.prog 31 #[v] w (Ret w (.bool (validP l))) := by
  obtain ⟨A1, c1, rfl, e1, e2⟩ := hv.form
  refine enter tabOk mixed Tryd.func31 rfl Tryd.ntmps31 Tryd.results31 [.s 0 2 l.length c1] (fun _ => A1) [⟨0, false, 42, 2, c1, .rows (ByteArray × ByteArray) rL (l)⟩] 1 rfl rfl (.ro (hp0 _ _ _) _ rfl rfl rfl (ro_rows hv rfl _)) ?_
  ((conv=>whnf);(repeat(refine And.intro ?_ ?_;(focus((first|omega|exact⟨rfl,True.intro⟩|exact⟨rfl,rfl,True.intro⟩|rfl|(simp only[List.length_set];first|omega|(refine⟨?_,?_⟩<;>omega)|(refine⟨?_,?_,?_⟩<;>omega))|(intro hg;(try simp only[bB]at hg);first|omega|(refine⟨?_,?_⟩<;>omega)|(refine⟨?_,?_,?_⟩<;>first|omega|(show _<_;(try simp only[List.length_set]);omega)|exact leT rfl))|(refine⟨?_,?_⟩<;>omega)|(refine⟨?_,?_,?_⟩<;>first|omega|(show _<_;(try simp only[List.length_set]);omega)|exact leT rfl)|(simp only[show rI.d=(0:Int)from rfl];omega));done));(conv=>whnf))))
  refine EvIf.split (fun g0 => ?_) (fun g0 => ?_)
  · simp only [decide_eq_true_eq] at g0
    rw [valid_long (by omega)]
    ((conv=>whnf);(repeat(refine And.intro ?_ ?_;(focus((first|omega|exact⟨rfl,True.intro⟩|exact⟨rfl,rfl,True.intro⟩|rfl|(simp only[List.length_set];first|omega|(refine⟨?_,?_⟩<;>omega)|(refine⟨?_,?_,?_⟩<;>omega))|(intro hg;(try simp only[bB]at hg);first|omega|(refine⟨?_,?_⟩<;>omega)|(refine⟨?_,?_,?_⟩<;>first|omega|(show _<_;(try simp only[List.length_set]);omega)|exact leT rfl))|(refine⟨?_,?_⟩<;>omega)|(refine⟨?_,?_,?_⟩<;>first|omega|(show _<_;(try simp only[List.length_set]);omega)|exact leT rfl)|(simp only[show rI.d=(0:Int)from rfl];omega));done));(conv=>whnf))))
    exact EvRet.ret (fun _ => rfl)
  simp only [decide_eq_false_iff_not] at g0
  have h8 : ¬ 8 < l.length := by omega
  ((conv=>whnf);(repeat(refine And.intro ?_ ?_;(focus((first|omega|exact⟨rfl,True.intro⟩|exact⟨rfl,rfl,True.intro⟩|rfl|(simp only[List.length_set];first|omega|(refine⟨?_,?_⟩<;>omega)|(refine⟨?_,?_,?_⟩<;>omega))|(intro hg;(try simp only[bB]at hg);first|omega|(refine⟨?_,?_⟩<;>omega)|(refine⟨?_,?_,?_⟩<;>first|omega|(show _<_;(try simp only[List.length_set]);omega)|exact leT rfl))|(refine⟨?_,?_⟩<;>omega)|(refine⟨?_,?_,?_⟩<;>first|omega|(show _<_;(try simp only[List.length_set]);omega)|exact leT rfl)|(simp only[show rI.d=(0:Int)from rfl];omega));done));(conv=>whnf))))
  refine EvLoop.inv (α := Nat) (fun i => i ≤ l.length ∧ ∀ j, j < i → vAt l j) (fun i => l.length - i) (fun i => [(10, [], .v (.int .i64 ((i : Int)))), (9, [], .v (.int .i64 ((l.length : Int)))), (8, [], .s 0 2 l.length c1), (0, [], .s 0 2 l.length c1)])
    (fun i => [⟨0, false, 42, 2, c1, .rows (ByteArray × ByteArray) rL (l)⟩]) 1 0 ⟨by omega, fun j hj => by omega⟩ (Sub.of [] [] rfl ?_) ?_
  · ((repeat' (refine And.intro ?_ ?_)) <;> first | rfl | exact True.intro | omega)
  intro i ⟨hi1, hi2⟩
  have hzi := hz.2 i
  ((conv=>whnf);(repeat(refine And.intro ?_ ?_;(focus((first|omega|exact⟨rfl,True.intro⟩|exact⟨rfl,rfl,True.intro⟩|rfl|(simp only[List.length_set];first|omega|(refine⟨?_,?_⟩<;>omega)|(refine⟨?_,?_,?_⟩<;>omega))|(intro hg;(try simp only[bB]at hg);first|omega|(refine⟨?_,?_⟩<;>omega)|(refine⟨?_,?_,?_⟩<;>first|omega|(show _<_;(try simp only[List.length_set]);omega)|exact leT rfl))|(refine⟨?_,?_⟩<;>omega)|(refine⟨?_,?_,?_⟩<;>first|omega|(show _<_;(try simp only[List.length_set]);omega)|exact leT rfl)|(simp only[show rI.d=(0:Int)from rfl];omega));done));(conv=>whnf))))
  refine EvIf.split (fun g1 => ?_) (fun g1 => ?_)
  · simp only [decide_eq_true_eq] at g1
    ((conv=>whnf);(repeat(refine And.intro ?_ ?_;(focus((first|omega|exact⟨rfl,True.intro⟩|exact⟨rfl,rfl,True.intro⟩|rfl|(simp only[List.length_set];first|omega|(refine⟨?_,?_⟩<;>omega)|(refine⟨?_,?_,?_⟩<;>omega))|(intro hg;(try simp only[bB]at hg);first|omega|(refine⟨?_,?_⟩<;>omega)|(refine⟨?_,?_,?_⟩<;>first|omega|(show _<_;(try simp only[List.length_set]);omega)|exact leT rfl))|(refine⟨?_,?_⟩<;>omega)|(refine⟨?_,?_,?_⟩<;>first|omega|(show _<_;(try simp only[List.length_set]);omega)|exact leT rfl)|(simp only[show rI.d=(0:Int)from rfl];omega));done));(conv=>whnf))))
    refine EvCall.plain Tryd.call22 (.v (.bool (nameB (l.getD i lb0).1))) rfl (fun ρ W hp => name_s _ W (by show (l.getD i lb0).1.size ≤ _; omega)) ?_
    ((conv=>whnf);(repeat(refine And.intro ?_ ?_;(focus((first|omega|exact⟨rfl,True.intro⟩|exact⟨rfl,rfl,True.intro⟩|rfl|(simp only[List.length_set];first|omega|(refine⟨?_,?_⟩<;>omega)|(refine⟨?_,?_,?_⟩<;>omega))|(intro hg;(try simp only[bB]at hg);first|omega|(refine⟨?_,?_⟩<;>omega)|(refine⟨?_,?_,?_⟩<;>first|omega|(show _<_;(try simp only[List.length_set]);omega)|exact leT rfl))|(refine⟨?_,?_⟩<;>omega)|(refine⟨?_,?_,?_⟩<;>first|omega|(show _<_;(try simp only[List.length_set]);omega)|exact leT rfl)|(simp only[show rI.d=(0:Int)from rfl];omega));done));(conv=>whnf))))
    refine EvCallC.plain Tryd.call23 (.v (.bool (valueB (l.getD i lb0).2))) rfl (fun hc ρ W hp => value_s _ W (by show (l.getD i lb0).2.size ≤ _; omega)) ?_
    ((conv=>whnf);(repeat(refine And.intro ?_ ?_;(focus((first|omega|exact⟨rfl,True.intro⟩|exact⟨rfl,rfl,True.intro⟩|rfl|(simp only[List.length_set];first|omega|(refine⟨?_,?_⟩<;>omega)|(refine⟨?_,?_,?_⟩<;>omega))|(intro hg;(try simp only[bB]at hg);first|omega|(refine⟨?_,?_⟩<;>omega)|(refine⟨?_,?_,?_⟩<;>first|omega|(show _<_;(try simp only[List.length_set]);omega)|exact leT rfl))|(refine⟨?_,?_⟩<;>omega)|(refine⟨?_,?_,?_⟩<;>first|omega|(show _<_;(try simp only[List.length_set]);omega)|exact leT rfl)|(simp only[show rI.d=(0:Int)from rfl];omega));done));(conv=>whnf))))
    refine EvIf.split (fun g2 => ?_) (fun g2 => ?_)
    · have hn : ¬ vAt l i := by
        rintro ⟨b1, b2, b3, _⟩
        rw [tl_eq, b1, b3] at g2
        simp only [Bool.not_true, Bool.false_or, Bool.or_false, decide_eq_true_eq] at g2
        exact b2 g2
      rw [valid_no i (by omega) hn]
      ((conv=>whnf);(repeat(refine And.intro ?_ ?_;(focus((first|omega|exact⟨rfl,True.intro⟩|exact⟨rfl,rfl,True.intro⟩|rfl|(simp only[List.length_set];first|omega|(refine⟨?_,?_⟩<;>omega)|(refine⟨?_,?_,?_⟩<;>omega))|(intro hg;(try simp only[bB]at hg);first|omega|(refine⟨?_,?_⟩<;>omega)|(refine⟨?_,?_,?_⟩<;>first|omega|(show _<_;(try simp only[List.length_set]);omega)|exact leT rfl))|(refine⟨?_,?_⟩<;>omega)|(refine⟨?_,?_,?_⟩<;>first|omega|(show _<_;(try simp only[List.length_set]);omega)|exact leT rfl)|(simp only[show rI.d=(0:Int)from rfl];omega));done));(conv=>whnf))))
      exact EvRet.ret (fun _ => rfl)
    have g3 : nameB (l.getD i lb0).1 = true ∧ (l.getD i lb0).2 ≠ ByteArray.empty ∧ valueB (l.getD i lb0).2 = true := by
      rw [tl_eq] at g2
      simp only [Bool.or_eq_false_iff, Bool.not_eq_false', decide_eq_false_iff_not] at g2
      exact ⟨g2.1.1, g2.1.2, g2.2⟩
    ((conv=>whnf);(repeat(refine And.intro ?_ ?_;(focus((first|omega|exact⟨rfl,True.intro⟩|exact⟨rfl,rfl,True.intro⟩|rfl|(simp only[List.length_set];first|omega|(refine⟨?_,?_⟩<;>omega)|(refine⟨?_,?_,?_⟩<;>omega))|(intro hg;(try simp only[bB]at hg);first|omega|(refine⟨?_,?_⟩<;>omega)|(refine⟨?_,?_,?_⟩<;>first|omega|(show _<_;(try simp only[List.length_set]);omega)|exact leT rfl))|(refine⟨?_,?_⟩<;>omega)|(refine⟨?_,?_,?_⟩<;>first|omega|(show _<_;(try simp only[List.length_set]);omega)|exact leT rfl)|(simp only[show rI.d=(0:Int)from rfl];omega));done));(conv=>whnf))))
    (refine EvDraw.one (.q 0 (.q 1 (.q 2 (.q 3 (.q 4 (.q 5 (.q 6 (.q 7 (.q 8 (.q 9 (.q 10 (.q 11 (.q 12 (.z)))))))))))))) (by kernel_rfl) ?_)
    ((conv=>whnf);(repeat(refine And.intro ?_ ?_;(focus((first|omega|exact⟨rfl,True.intro⟩|exact⟨rfl,rfl,True.intro⟩|rfl|(simp only[List.length_set];first|omega|(refine⟨?_,?_⟩<;>omega)|(refine⟨?_,?_,?_⟩<;>omega))|(intro hg;(try simp only[bB]at hg);first|omega|(refine⟨?_,?_⟩<;>omega)|(refine⟨?_,?_,?_⟩<;>first|omega|(show _<_;(try simp only[List.length_set]);omega)|exact leT rfl))|(refine⟨?_,?_⟩<;>omega)|(refine⟨?_,?_,?_⟩<;>first|omega|(show _<_;(try simp only[List.length_set]);omega)|exact leT rfl)|(simp only[show rI.d=(0:Int)from rfl];omega));done));(conv=>whnf))))
    refine EvIf.split (fun g4 => ?_) (fun g4 => ?_)
    · simp only [Bool.and_eq_true, decide_eq_true_eq, Bool.not_eq_true'] at g4
      rw [show Int.toNat ((i : Int) - 1) = i - 1 by omega] at g4
      have hn : ¬ vAt l i := by
        rintro ⟨_, _, _, b4⟩
        have g5 : ltS (l.getD (i - 1) lb0).1 (l.getD i lb0).1 = false := g4.2
        rw [b4 (by omega)] at g5
        cases g5
      rw [valid_no i (by omega) hn]
      ((conv=>whnf);(repeat(refine And.intro ?_ ?_;(focus((first|omega|exact⟨rfl,True.intro⟩|exact⟨rfl,rfl,True.intro⟩|rfl|(simp only[List.length_set];first|omega|(refine⟨?_,?_⟩<;>omega)|(refine⟨?_,?_,?_⟩<;>omega))|(intro hg;(try simp only[bB]at hg);first|omega|(refine⟨?_,?_⟩<;>omega)|(refine⟨?_,?_,?_⟩<;>first|omega|(show _<_;(try simp only[List.length_set]);omega)|exact leT rfl))|(refine⟨?_,?_⟩<;>omega)|(refine⟨?_,?_,?_⟩<;>first|omega|(show _<_;(try simp only[List.length_set]);omega)|exact leT rfl)|(simp only[show rI.d=(0:Int)from rfl];omega));done));(conv=>whnf))))
      exact EvRet.ret (fun _ => rfl)
    · have g5 : 0 < i → ltS (l.getD (i - 1) lb0).1 (l.getD i lb0).1 = true := by
        intro h0
        simp only [Bool.and_eq_false_iff, decide_eq_false_iff_not, Bool.not_eq_false'] at g4
        rw [show Int.toNat ((i : Int) - 1) = i - 1 by omega] at g4
        rcases g4 with g4 | g4
        · omega
        · exact g4
      ((conv=>whnf);(repeat(refine And.intro ?_ ?_;(focus((first|omega|exact⟨rfl,True.intro⟩|exact⟨rfl,rfl,True.intro⟩|rfl|(simp only[List.length_set];first|omega|(refine⟨?_,?_⟩<;>omega)|(refine⟨?_,?_,?_⟩<;>omega))|(intro hg;(try simp only[bB]at hg);first|omega|(refine⟨?_,?_⟩<;>omega)|(refine⟨?_,?_,?_⟩<;>first|omega|(show _<_;(try simp only[List.length_set]);omega)|exact leT rfl))|(refine⟨?_,?_⟩<;>omega)|(refine⟨?_,?_,?_⟩<;>first|omega|(show _<_;(try simp only[List.length_set]);omega)|exact leT rfl)|(simp only[show rI.d=(0:Int)from rfl];omega));done));(conv=>whnf))))
      refine LoopI.back (i + 1) ⟨by omega, fun j hj => ?_⟩ (by omega) (Sub.of [] [] rfl ?_)
      · by_cases hji : j = i
        · rw [hji]; exact ⟨g3.1, g3.2.1, g3.2.2, g5⟩
        · exact hi2 j (by omega)
      · ((repeat' (refine And.intro ?_ ?_)) <;> first | rfl | exact True.intro | omega)
  · simp only [decide_eq_false_iff_not] at g1
    obtain rfl : i = l.length := by omega
    rw [valid_yes h8 hi2]
    ((conv=>whnf);(repeat(refine And.intro ?_ ?_;(focus((first|omega|exact⟨rfl,True.intro⟩|exact⟨rfl,rfl,True.intro⟩|rfl|(simp only[List.length_set];first|omega|(refine⟨?_,?_⟩<;>omega)|(refine⟨?_,?_,?_⟩<;>omega))|(intro hg;(try simp only[bB]at hg);first|omega|(refine⟨?_,?_⟩<;>omega)|(refine⟨?_,?_,?_⟩<;>first|omega|(show _<_;(try simp only[List.length_set]);omega)|exact leT rfl))|(refine⟨?_,?_⟩<;>omega)|(refine⟨?_,?_,?_⟩<;>first|omega|(show _<_;(try simp only[List.length_set]);omega)|exact leT rfl)|(simp only[show rI.d=(0:Int)from rfl];omega));done));(conv=>whnf))))
    exact EvRet.ret (fun _ => rfl)
theorem validP_eq (l : List Lb) : (decide ((newP l).2 = 0) && decide ((newP l).1 = l)) = validP l := by
  unfold validP
  obtain ⟨a, b⟩ := newP l
  by_cases h1 : b = 0 <;> by_cases h2 : a = l <;> simp [h1, h2]
theorem ref_valid_s (v : Value) (l : List Lb) (w : World) (hv : RowsIn rL w v l) (hz : LbS l) : Con Tryd.prog 38 #[v] w (Ret w (.bool (validP l))) := by
  obtain ⟨A1, c1, rfl, e1, e2⟩ := hv.form
  rw [← validP_eq]
  refine enter tabOk mixed Tryd.func38 rfl Tryd.ntmps38 Tryd.results38 [.s 0 2 l.length c1] (fun _ => A1) [⟨0, false, 42, 2, c1, .rows (ByteArray × ByteArray) rL (l)⟩] 1 rfl rfl (.ro (hp0 _ _ _) _ rfl rfl rfl (ro_rows hv rfl _)) ?_
  ((conv=>whnf);(repeat(refine And.intro ?_ ?_;(focus((first|omega|exact⟨rfl,True.intro⟩|exact⟨rfl,rfl,True.intro⟩|rfl|(simp only[List.length_set];first|omega|(refine⟨?_,?_⟩<;>omega)|(refine⟨?_,?_,?_⟩<;>omega))|(intro hg;(try simp only[bB]at hg);first|omega|(refine⟨?_,?_⟩<;>omega)|(refine⟨?_,?_,?_⟩<;>first|omega|(show _<_;(try simp only[List.length_set]);omega)|exact leT rfl))|(refine⟨?_,?_⟩<;>omega)|(refine⟨?_,?_,?_⟩<;>first|omega|(show _<_;(try simp only[List.length_set]);omega)|exact leT rfl)|(simp only[show rI.d=(0:Int)from rfl];omega));done));(conv=>whnf))))
  refine EvCall.rowsE (R := rL) (ty := 42) (xs := (newP l).1) (z := (newP l).2) Tryd.call49 (fun ρ W hp => ref_new_s _ l W (hp.rowsIn (R := rL) (n := 0) (c := c1) rfl (by decide) e1 e2 2) hz) (fun ca ha1 ha2 => ?_)
  generalize newP l = x at *
  ((conv=>whnf);(repeat(refine And.intro ?_ ?_;(focus((first|omega|exact⟨rfl,True.intro⟩|exact⟨rfl,rfl,True.intro⟩|rfl|(simp only[List.length_set];first|omega|(refine⟨?_,?_⟩<;>omega)|(refine⟨?_,?_,?_⟩<;>omega))|(intro hg;(try simp only[bB]at hg);first|omega|(refine⟨?_,?_⟩<;>omega)|(refine⟨?_,?_,?_⟩<;>first|omega|(show _<_;(try simp only[List.length_set]);omega)|exact leT rfl))|(refine⟨?_,?_⟩<;>omega)|(refine⟨?_,?_,?_⟩<;>first|omega|(show _<_;(try simp only[List.length_set]);omega)|exact leT rfl)|(simp only[show rI.d=(0:Int)from rfl];omega));done));(conv=>whnf))))
  refine EvCallC.plain Tryd.call16 (.v (.bool (decide (x.1 = l)))) rfl (fun hc ρ W hp => same_s _ _ x.1 l W (hp.rowsIn (R := rL) (n := 1) (c := ca) rfl (by decide) ha1 ha2 2) (hp.rowsIn (R := rL) (n := 0) (c := c1) rfl (by decide) e1 e2 2)) ?_
  ((conv=>whnf);(repeat(refine And.intro ?_ ?_;(focus((first|omega|exact⟨rfl,True.intro⟩|exact⟨rfl,rfl,True.intro⟩|rfl|(simp only[List.length_set];first|omega|(refine⟨?_,?_⟩<;>omega)|(refine⟨?_,?_,?_⟩<;>omega))|(intro hg;(try simp only[bB]at hg);first|omega|(refine⟨?_,?_⟩<;>omega)|(refine⟨?_,?_,?_⟩<;>first|omega|(show _<_;(try simp only[List.length_set]);omega)|exact leT rfl))|(refine⟨?_,?_⟩<;>omega)|(refine⟨?_,?_,?_⟩<;>first|omega|(show _<_;(try simp only[List.length_set]);omega)|exact leT rfl)|(simp only[show rI.d=(0:Int)from rfl];omega));done));(conv=>whnf))))
  exact EvRet.ret (fun _ => rfl)
theorem mem_small {ls : List ByteArray} {i : Nat} (h : ∀ s ∈ ls, s.size ≤ 1000) : (ls.getD i ByteArray.empty).size ≤ 1000 := by
  by_cases hi : i < ls.length
  · rw [List.getD_eq_getElem?_getD, List.getElem?_eq_getElem hi]
    exact h _ (List.getElem_mem hi)
  · rw [List.getD_eq_getElem?_getD, List.getElem?_eq_none (by omega)]
    decide
theorem dirty_lbs (zs : List Int) : LbS (dirtyL zs) := by
  refine lbs_small (by have := dirty_len zs; omega) ?_
  intro e he
  simp only [dirtyL, List.mem_map] at he
  obtain ⟨i, _, rfl⟩ := he
  exact ⟨mem_small (by decide), mem_small (by decide)⟩
theorem set_lbs (zs : List Int) : LbS (setL zs) := by
  refine lbs_small (by have := setN_len zs 6; show (setN zs 6).length ≤ 1000; omega) ?_
  have : ∀ i, ∀ e ∈ setN zs i, e.1.size ≤ 1000 ∧ e.2.size ≤ 1000 := by
    intro i
    induction i with
    | zero => intro e he; simp [setN] at he
    | succ i ih =>
      intro e he
      unfold setN at he
      split at he
      · rcases List.mem_append.1 he with h | h
        · exact ih e h
        · simp only [List.mem_singleton] at h
          subst h
          exact ⟨mem_small (by decide), mem_small (by decide)⟩
      · exact ih e he
  exact this 6
theorem insL_pair (x : Lb) : ∀ s : List Lb, (∀ y ∈ s, y.1 ≠ x.1) → s.Pairwise (fun a b => a.1 ≠ b.1) → (insL s x).Pairwise (fun a b => a.1 ≠ b.1)
  | [], _, _ => by simp [insL]
  | y :: r, h, hp => by
    obtain ⟨p1, p2⟩ := List.pairwise_cons.1 hp
    unfold insL
    split
    · refine List.pairwise_cons.2 ⟨fun z hz => ?_, insL_pair x r (fun z hz => h z (by simp [hz])) p2⟩
      rcases (mem_insL x z r).1 hz with rfl | hz
      · exact h y (by simp)
      · exact p1 z hz
    · refine List.pairwise_cons.2 ⟨fun z hz => ?_, hp⟩
      exact fun he => h z hz he.symm
theorem sortL_pair {l : List Lb} (hb : ∀ j, j < l.length → badC l j = 0) : ∀ i, i ≤ l.length → (sortL (l.take i)).Pairwise (fun a b => a.1 ≠ b.1)
  | 0, _ => by simp [sortL]
  | i + 1, hi => by
    rw [take_snoc l i lb0 (by omega), sortL_snoc]
    refine insL_pair _ _ (fun y hy he => ?_) (sortL_pair hb i (by omega))
    exact (badC_inv (hb i (by omega))).2.2.2 ((dup_mem l i (by omega)).2 ⟨y, hy, he⟩)
theorem sortL_nodup {l : List Lb} (hb : ∀ j, j < l.length → badC l j = 0) (i j : Nat) (hij : i < j) (hj : j < (sortL l).length) : ((sortL l).getD i lb0).1 ≠ ((sortL l).getD j lb0).1 := by
  have h := sortL_pair hb l.length (Nat.le_refl _)
  rw [List.take_length] at h
  have := List.pairwise_iff_getElem.1 h i j (by omega) hj hij
  rw [List.getD_eq_getElem?_getD, List.getElem?_eq_getElem (by omega), List.getD_eq_getElem?_getD, List.getElem?_eq_getElem hj]
  exact this
theorem newP_valid {l : List Lb} (h : (newP l).2 = 0) : validP (newP l).1 = true := by
  unfold newP at h ⊢
  split at h
  · cases h
  rename_i hl
  split at h
  · rename_i hc; exact absurd h hc
  rename_i hc
  rw [if_neg hl, if_neg hc]
  have hc0 : newC l l.length = 0 := Classical.not_not.1 hc
  have hb := newC_all l l.length hc0
  have hso := sortL_sorted l
  have hlen := sortL_len l
  refine valid_yes (by show ¬ 8 < (sortL l).length; omega) fun i hi => ?_
  have hi' : i < (sortL l).length := hi
  have hmem : ∀ k, k < (sortL l).length → ∃ j, j < l.length ∧ l.getD j lb0 = (sortL l).getD k lb0 := fun k hk => mem_getD ((mem_sortL _ _).1 (getD_mem hk))
  obtain ⟨j, hj, hje⟩ := hmem i hi'
  obtain ⟨a1, a2, a3, _⟩ := badC_inv (hb j hj)
  rw [hje] at a1 a2 a3
  refine ⟨a1, a2, a3, fun h0 => ?_⟩
  have h1 := sorted_at hso (show i - 1 < i by omega) hi'
  unfold cmpN at h1
  rcases cmpS_cases ((sortL l).getD (i - 1) lb0).1 ((sortL l).getD i lb0).1 with ⟨h, _⟩ | ⟨h, _⟩ | ⟨_, e⟩
  · exact h
  · exact absurd h (sortL_nodup hb (i - 1) i (by omega) hi')
  · omega
theorem newP_lbs {l : List Lb} (h : LbS l) : LbS (newP l).1 := by
  have h1 : ∀ e ∈ l, e.1.size ≤ 1000 ∧ e.2.size ≤ 1000 := by
    intro e he
    obtain ⟨i, _, rfl⟩ := mem_getD he
    exact h.2 i
  unfold newP
  split
  · exact lbs_small (by simp) (by simp)
  · split
    · exact lbs_small (by simp) (by simp)
    · refine lbs_small (by show (sortL l).length ≤ _; rw [sortL_len]; exact h.1) (fun e he => h1 e ((mem_sortL _ _).1 he))
end Go.Proofs.YtebfhljamoapjaaDoor
