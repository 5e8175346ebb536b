/- The law EnvelopeFixed, walked. -/
import Derived.Test.YtofekfpbljihiaaEr
namespace Go.Proofs.Ytofekfpbljihiaa
open Go.RowKit
set_option linter.unusedVariables false
set_option linter.unusedSimpArgs false

theorem someL_lenF (d : Dc) (zs ms : List Int) (b : Bool) : (someL d zs ms b).length ≤ 5 := by
  unfold someL
  split
  · rw [wildL_len]; unfold wildN; omega
  · rw [arL_len]; unfold arN; omega
/-- The claims of the tightest bounds have the same bounds. -/
theorem fixed_law {d : Dc} {l : List Cl} {n : Nat} (hv : validCode d = 0) (hl : ∀ c ∈ l, validB d c = true) (hn : (n : Int) = d.last - d.first + 1) (h : ∀ i : Nat, i < n → rLo d l (d.first + i) ≤ rHi d l (d.first + i)) :
    bandsR d (envC ⟨d.first, rLoL d l n, rHiL d l n⟩) = (envC ⟨d.first, rLoL d l n, rHiL d l n⟩, 0) ∧ newR d (envC ⟨d.first, rLoL d l n, rHiL d l n⟩) = (⟨d.first, rLoL d l n, rHiL d l n⟩, 0) := by
  have hb := valid_bounds hv
  obtain ⟨hL, hH⟩ := rL_hist hv hl hn h
  have hg := fun i hi => rL_get d l n i hi
  have hll := rLoL_len d l n
  have hlh := rHiL_len d l n
  have hin : ∀ i : Nat, i < n → d.lo ≤ rLo d l (d.first + i) ∧ rLo d l (d.first + i) ≤ rHi d l (d.first + i) ∧ rHi d l (d.first + i) ≤ d.hi := by
    intro i hi
    have a := r_src (d := d) (l := l) (c := rangeC d) (t := d.first + i) (List.mem_cons_self ..) (by show d.first ≤ _; omega) (by show _ ≤ d.last; omega)
    simp only [rangeC] at a
    exact ⟨a.1, h i hi, a.2⟩
  have hown : envC ⟨d.first, rLoL d l n, rHiL d l n⟩ = runsG d.first (fun i => rLo d l (d.first + i)) (fun i => rHi d l (d.first + i)) n := by
    unfold envC
    simp only [hll, hlh, Nat.min_self]
    exact runsG_congr n (fun i hi => hg i hi)
  rw [hown]
  have hr := runs_ok d.first (fun i : Nat => rLo d l (d.first + i)) (fun i : Nat => rHi d l (d.first + i)) n
  have hval := runs_valid (lo := fun i : Nat => rLo d l (d.first + i)) (hi := fun i : Nat => rHi d l (d.first + i)) hv hn hin
  refine ⟨bands_runs hv hn hin, ?_⟩
  generalize runsG d.first (fun i : Nat => rLo d l (d.first + i)) (fun i : Nat => rHi d l (d.first + i)) n = own at hr hval
  have hlen := hr.len
  have hsrc : ∀ c ∈ srcL d own, ∀ s : Nat, c.f ≤ d.first + s → d.first + s ≤ c.t → s < n → c.lo ≤ rLo d l (d.first + s) ∧ rHi d l (d.first + s) ≤ c.hi := by
    intro c hc s h1 h2 h3
    rcases List.mem_cons.1 hc with rfl | hc
    · have := hin s h3
      simp only [rangeC]
      omega
    · have := (hr.each c hc).2.2.2 s h1 h2
      omega
  have hok := src_ok hv hval
  have eLo : ∀ i : Nat, i < n → rLo d own (d.first + i) = rLo d l (d.first + i) := by
    intro i hi
    apply Int.le_antisymm
    · rw [rLo_le]
      intro c hc
      have hc1 := hok c hc
      unfold SrcOk at hc1
      rw [leastV_le (by omega)]
      intro s h1 h2
      obtain ⟨k, hk⟩ : ∃ k : Nat, s = d.first + k := ⟨(s - d.first).toNat, by omega⟩
      subst hk
      have a1 := hsrc c hc k h1 h2 (by omega)
      have a2 := (hist_low hL (s := k) (t := i) (by omega) (by omega)).1
      rw [(hg k (by omega)).1, (hg i hi).1, lowV_0] at a2
      rw [lowV_add]
      omega
    · obtain ⟨c, hc, hc1, hc2⟩ := hr.cover i hi
      have a1 := (hr.each c hc).2.2.2 i hc1 hc2
      have a2 := r_src (d := d) (l := own) (t := d.first + i) (List.mem_cons_of_mem (rangeC d) hc) hc1 hc2
      change c.lo ≤ rLo d own (d.first + i) ∧ _ at a2
      omega
  have eHi : ∀ i : Nat, i < n → rHi d own (d.first + i) = rHi d l (d.first + i) := by
    intro i hi
    apply Int.le_antisymm
    · obtain ⟨c, hc, hc1, hc2⟩ := hr.cover i hi
      have a1 := (hr.each c hc).2.2.2 i hc1 hc2
      have a2 := r_src (d := d) (l := own) (t := d.first + i) (List.mem_cons_of_mem (rangeC d) hc) hc1 hc2
      change _ ∧ rHi d own (d.first + i) ≤ c.hi at a2
      omega
    · rw [rHi_ge]
      intro c hc
      have hc1 := hok c hc
      unfold SrcOk at hc1
      rw [greatV_ge (by omega)]
      intro s h1 h2
      obtain ⟨k, hk⟩ : ∃ k : Nat, s = d.first + k := ⟨(s - d.first).toNat, by omega⟩
      subst hk
      have a1 := hsrc c hc k h1 h2 (by omega)
      have a2 := (hist_low hH (s := k) (t := i) (by omega) (by omega)).2
      rw [(hg k (by omega)).2, (hg i hi).2, highV_0] at a2
      rw [highV_add]
      omega
  have e1 : rLoL d own n = rLoL d l n := List.map_congr_left fun i hi => eLo i (List.mem_range.1 hi)
  have e2 : rHiL d own n = rHiL d l n := List.map_congr_left fun i hi => eHi i (List.mem_range.1 hi)
  rcases newR_cases (l := own) hv (by omega) hval hn with ⟨_, h2⟩ | ⟨h1, _⟩
  · rw [h2, e1, e2]
  · exact absurd (fun i hi => by rw [eLo i hi, eHi i hi]; exact h i hi) h1
set_option maxRecDepth 20000 in
theorem envelopefixed_s (v1 v2 v3 : Value) (zs ms ks : List Int) (b : Bool) (w : World) (h1 : Ints w v1 zs) (h2 : Ints w v2 ms) (h3 : Ints w v3 ks) :
    Con Try.prog 14 #[v1, v2, v3, .bool b] w (Ret w (.bool true)) := by
  obtain ⟨A1, c1, rfl, e1, e2⟩ := h1.form
  obtain ⟨A2, c2, rfl, e3, e4⟩ := h2.form
  obtain ⟨A3, c3, rfl, e5, e6⟩ := h3.form
  have hT := declOf_T zs
  have hI := declOf_I' zs
  have hvc := declOf_vc zs
  refine enter tabOk mixed Try.func14 rfl Try.ntmps14 Try.results14 [.s 0 1 zs.length c1, .s 1 1 ms.length c2, .s 2 1 ks.length c3, .v (.bool b)] (fun n => if n = 0 then A1 else if n = 1 then A2 else A3) [⟨2, false, 3, 1, c3, .rows Int rI (ks)⟩, ⟨1, false, 3, 1, c2, .rows Int rI (ms)⟩, ⟨0, false, 3, 1, c1, .rows Int rI (zs)⟩] 3 rfl rfl (.ro (.ro (.ro (hp0 _ _ _) _ rfl rfl rfl (ro_ints h1 rfl _)) _ rfl rfl rfl (ro_ints h2 rfl _)) _ rfl rfl rfl (ro_ints h3 rfl _)) ?_
  ((conv => whnf); (repeat (refine And.intro ?_ ?_; (focus ((first | omega | exact ⟨rfl, True.intro⟩ | exact ⟨rfl, rfl, True.intro⟩ | rfl | (simp only [List.length_set]; first | omega | (refine And.intro ?_ ?_ <;> omega) | (refine And.intro ?_ (And.intro ?_ ?_) <;> omega)) | (intro hg; (try simp only [Bool.or_eq_false_iff, Bool.or_eq_true, Bool.and_eq_true, Bool.and_eq_false_iff, Bool.not_eq_true, Bool.not_eq_false, Bool.not_eq_true', Bool.not_eq_false', decide_eq_false_iff_not, decide_eq_true_eq] at hg); first | omega | (refine And.intro ?_ ?_ <;> omega) | (refine And.intro ?_ (And.intro ?_ ?_) <;> first | omega | (show _ < _; (try simp only [List.length_set]); omega) | exact Nat.le_of_ble_eq_true rfl)) | (refine And.intro ?_ ?_ <;> omega) | (refine And.intro ?_ (And.intro ?_ ?_) <;> first | omega | (show _ < _; (try simp only [List.length_set]); omega) | exact Nat.le_of_ble_eq_true rfl)); done)); (conv => whnf))))
  refine EvCall.decl Try.call15 (fun ρ W hp => decl_s _ zs W (hp.ints (n := 0) rfl e1 e2 h1.2)) (fun nm l c5 hnm hl hc1 hc2 => ?_)
  generalize declOf zs = d at hT hI hvc ⊢
  have hbd := valid_bounds hvc
  have hlv := some_valid d ms ks b hT
  have hsl := someL_lenF d ms ks b
  ((conv => whnf); (repeat (refine And.intro ?_ ?_; (focus ((first | omega | exact ⟨rfl, True.intro⟩ | exact ⟨rfl, rfl, True.intro⟩ | rfl | (simp only [List.length_set]; first | omega | (refine And.intro ?_ ?_ <;> omega) | (refine And.intro ?_ (And.intro ?_ ?_) <;> omega)) | (intro hg; (try simp only [Bool.or_eq_false_iff, Bool.or_eq_true, Bool.and_eq_true, Bool.and_eq_false_iff, Bool.not_eq_true, Bool.not_eq_false, Bool.not_eq_true', Bool.not_eq_false', decide_eq_false_iff_not, decide_eq_true_eq] at hg); first | omega | (refine And.intro ?_ ?_ <;> omega) | (refine And.intro ?_ (And.intro ?_ ?_) <;> first | omega | (show _ < _; (try simp only [List.length_set]); omega) | exact Nat.le_of_ble_eq_true rfl)) | (refine And.intro ?_ ?_ <;> omega) | (refine And.intro ?_ (And.intro ?_ ?_) <;> first | omega | (show _ < _; (try simp only [List.length_set]); omega) | exact Nat.le_of_ble_eq_true rfl)); done)); (conv => whnf))))
  refine EvCall.rows (R := rC) (ty := 32) (xs := someL d ms ks b) Try.call22 (fun ρ W hp => some_s nm _ _ _ d _ _ ms ks b W hT (hp.ints (n := 1) rfl e3 e4 h2.2) (hp.ints (n := 2) rfl e5 e6 h3.2)) (fun cap hc3 hc4 => ?_)
  generalize someL d ms ks b = sm at hc3 hlv hsl ⊢
  obtain ⟨sp, hsp⟩ : ∃ sp : Nat, (sp : Int) = d.last - d.first + 1 := ⟨(d.last - d.first + 1).toNat, by omega⟩
  rcases newR_cases hvc (by omega) hlv hsp with ⟨hok, hN⟩ | ⟨hno, hN⟩
  · obtain ⟨hB, hN2⟩ := fixed_law hvc hlv hsp hok
    have hl1 := rLoL_len d sm sp
    have hl2 := rHiL_len d sm sp
    generalize rLoL d sm sp = lo at *
    generalize rHiL d sm sp = hi at *
    ((conv => whnf); (repeat (refine And.intro ?_ ?_; (focus ((first | omega | exact ⟨rfl, True.intro⟩ | exact ⟨rfl, rfl, True.intro⟩ | rfl | (simp only [List.length_set]; first | omega | (refine And.intro ?_ ?_ <;> omega) | (refine And.intro ?_ (And.intro ?_ ?_) <;> omega)) | (intro hg; (try simp only [Bool.or_eq_false_iff, Bool.or_eq_true, Bool.and_eq_true, Bool.and_eq_false_iff, Bool.not_eq_true, Bool.not_eq_false, Bool.not_eq_true', Bool.not_eq_false', decide_eq_false_iff_not, decide_eq_true_eq] at hg); first | omega | (refine And.intro ?_ ?_ <;> omega) | (refine And.intro ?_ (And.intro ?_ ?_) <;> first | omega | (show _ < _; (try simp only [List.length_set]); omega) | exact Nat.le_of_ble_eq_true rfl)) | (refine And.intro ?_ ?_ <;> omega) | (refine And.intro ?_ (And.intro ?_ ?_) <;> first | omega | (show _ < _; (try simp only [List.length_set]); omega) | exact Nat.le_of_ble_eq_true rfl)); done)); (conv => whnf))))
    refine EvCall.two (ty := 3) (xs := lo) (ys := hi) (envES d.first 0) (envES_den _ _) (envES_lt _ _) Try.call41 (fun ρ W hp => by
      have := new_s _ _ d sm W (hp.decl (n := 3) (d := d) hnm hl hc1 hc2 rfl) hI (hp.rowsIn (R := rC) (n := 5) (c := cap) rfl (by decide) hc3 hc4 4)
      rw [hN] at this
      exact this) (fun p1 p2 q1 q2 q3 q4 => ?_)
    ((conv => whnf); (repeat (refine And.intro ?_ ?_; (focus ((first | omega | exact ⟨rfl, True.intro⟩ | exact ⟨rfl, rfl, True.intro⟩ | rfl | (simp only [List.length_set]; first | omega | (refine And.intro ?_ ?_ <;> omega) | (refine And.intro ?_ (And.intro ?_ ?_) <;> omega)) | (intro hg; (try simp only [Bool.or_eq_false_iff, Bool.or_eq_true, Bool.and_eq_true, Bool.and_eq_false_iff, Bool.not_eq_true, Bool.not_eq_false, Bool.not_eq_true', Bool.not_eq_false', decide_eq_false_iff_not, decide_eq_true_eq] at hg); first | omega | (refine And.intro ?_ ?_ <;> omega) | (refine And.intro ?_ (And.intro ?_ ?_) <;> first | omega | (show _ < _; (try simp only [List.length_set]); omega) | exact Nat.le_of_ble_eq_true rfl)) | (refine And.intro ?_ ?_ <;> omega) | (refine And.intro ?_ (And.intro ?_ ?_) <;> first | omega | (show _ < _; (try simp only [List.length_set]); omega) | exact Nat.le_of_ble_eq_true rfl)); done)); (conv => whnf))))
    refine EvIf.neg rfl ?_
    ((conv => whnf); (repeat (refine And.intro ?_ ?_; (focus ((first | omega | exact ⟨rfl, True.intro⟩ | exact ⟨rfl, rfl, True.intro⟩ | rfl | (simp only [List.length_set]; first | omega | (refine And.intro ?_ ?_ <;> omega) | (refine And.intro ?_ (And.intro ?_ ?_) <;> omega)) | (intro hg; (try simp only [Bool.or_eq_false_iff, Bool.or_eq_true, Bool.and_eq_true, Bool.and_eq_false_iff, Bool.not_eq_true, Bool.not_eq_false, Bool.not_eq_true', Bool.not_eq_false', decide_eq_false_iff_not, decide_eq_true_eq] at hg); first | omega | (refine And.intro ?_ ?_ <;> omega) | (refine And.intro ?_ (And.intro ?_ ?_) <;> first | omega | (show _ < _; (try simp only [List.length_set]); omega) | exact Nat.le_of_ble_eq_true rfl)) | (refine And.intro ?_ ?_ <;> omega) | (refine And.intro ?_ (And.intro ?_ ?_) <;> first | omega | (show _ < _; (try simp only [List.length_set]); omega) | exact Nat.le_of_ble_eq_true rfl)); done)); (conv => whnf))))
    refine EvCall.rows (R := rC) (ty := 32) (xs := envC ⟨d.first, lo, hi⟩) Try.call49 (fun ρ W hp => envclaims_s ⟨d.first, lo, hi⟩ _ _ _ _ _ _ W (hp.rowsIn (R := rI) (n := 6) rfl (by decide) q1 q2 1) (hp.rowsIn (R := rI) (n := 7) rfl (by decide) q3 q4 1) (by show -1000000000 ≤ d.first ∧ d.first ≤ 1000000000; omega) (by show lo.length ≤ _; omega)) (fun ca ha1 ha2 => ?_)
    generalize envC ⟨d.first, lo, hi⟩ = own at hB hN2 ha1 ⊢
    ((conv => whnf); (repeat (refine And.intro ?_ ?_; (focus ((first | omega | exact ⟨rfl, True.intro⟩ | exact ⟨rfl, rfl, True.intro⟩ | rfl | (simp only [List.length_set]; first | omega | (refine And.intro ?_ ?_ <;> omega) | (refine And.intro ?_ (And.intro ?_ ?_) <;> omega)) | (intro hg; (try simp only [Bool.or_eq_false_iff, Bool.or_eq_true, Bool.and_eq_true, Bool.and_eq_false_iff, Bool.not_eq_true, Bool.not_eq_false, Bool.not_eq_true', Bool.not_eq_false', decide_eq_false_iff_not, decide_eq_true_eq] at hg); first | omega | (refine And.intro ?_ ?_ <;> omega) | (refine And.intro ?_ (And.intro ?_ ?_) <;> first | omega | (show _ < _; (try simp only [List.length_set]); omega) | exact Nat.le_of_ble_eq_true rfl)) | (refine And.intro ?_ ?_ <;> omega) | (refine And.intro ?_ (And.intro ?_ ?_) <;> first | omega | (show _ < _; (try simp only [List.length_set]); omega) | exact Nat.le_of_ble_eq_true rfl)); done)); (conv => whnf))))
    refine EvCall.two (ty := 3) (xs := lo) (ys := hi) (envES d.first 0) (envES_den _ _) (envES_lt _ _) Try.call41 (fun ρ W hp => by
      have := new_s _ _ d own W (hp.decl (n := 3) (d := d) hnm hl hc1 hc2 rfl) hI (hp.rowsIn (R := rC) (n := 9) (c := ca) rfl (by decide) ha1 ha2 4)
      rw [hN2] at this
      exact this) (fun p3 p4 q5 q6 q7 q8 => ?_)
    ((conv => whnf); (repeat (refine And.intro ?_ ?_; (focus ((first | omega | exact ⟨rfl, True.intro⟩ | exact ⟨rfl, rfl, True.intro⟩ | rfl | (simp only [List.length_set]; first | omega | (refine And.intro ?_ ?_ <;> omega) | (refine And.intro ?_ (And.intro ?_ ?_) <;> omega)) | (intro hg; (try simp only [Bool.or_eq_false_iff, Bool.or_eq_true, Bool.and_eq_true, Bool.and_eq_false_iff, Bool.not_eq_true, Bool.not_eq_false, Bool.not_eq_true', Bool.not_eq_false', decide_eq_false_iff_not, decide_eq_true_eq] at hg); first | omega | (refine And.intro ?_ ?_ <;> omega) | (refine And.intro ?_ (And.intro ?_ ?_) <;> first | omega | (show _ < _; (try simp only [List.length_set]); omega) | exact Nat.le_of_ble_eq_true rfl)) | (refine And.intro ?_ ?_ <;> omega) | (refine And.intro ?_ (And.intro ?_ ?_) <;> first | omega | (show _ < _; (try simp only [List.length_set]); omega) | exact Nat.le_of_ble_eq_true rfl)); done)); (conv => whnf))))
    refine EvCall.rowsE (R := rC) (ty := 32) (xs := own) (z := 0) Try.call23 (fun ρ W hp => by
      have := bands_s _ _ d own W (hp.decl (n := 3) (d := d) hnm hl hc1 hc2 rfl) hI (hp.rowsIn (R := rC) (n := 9) (c := ca) rfl (by decide) ha1 ha2 4)
      rw [hB] at this
      exact this) (fun cb hb1 hb2 => ?_)
    ((conv => whnf); (repeat (refine And.intro ?_ ?_; (focus ((first | omega | exact ⟨rfl, True.intro⟩ | exact ⟨rfl, rfl, True.intro⟩ | rfl | (simp only [List.length_set]; first | omega | (refine And.intro ?_ ?_ <;> omega) | (refine And.intro ?_ (And.intro ?_ ?_) <;> omega)) | (intro hg; (try simp only [Bool.or_eq_false_iff, Bool.or_eq_true, Bool.and_eq_true, Bool.and_eq_false_iff, Bool.not_eq_true, Bool.not_eq_false, Bool.not_eq_true', Bool.not_eq_false', decide_eq_false_iff_not, decide_eq_true_eq] at hg); first | omega | (refine And.intro ?_ ?_ <;> omega) | (refine And.intro ?_ (And.intro ?_ ?_) <;> first | omega | (show _ < _; (try simp only [List.length_set]); omega) | exact Nat.le_of_ble_eq_true rfl)) | (refine And.intro ?_ ?_ <;> omega) | (refine And.intro ?_ (And.intro ?_ ?_) <;> first | omega | (show _ < _; (try simp only [List.length_set]); omega) | exact Nat.le_of_ble_eq_true rfl)); done)); (conv => whnf))))
    refine EvCallC.plain Try.call50 (.v (.bool true)) rfl (fun _ ρ W hp => by
      have := lequal_s d.first d.first _ _ _ _ _ _ _ _ _ _ _ _ lo hi lo hi W (hp.rowsIn (R := rI) (n := 6) (c := p1) rfl (by decide) q1 q2 1) (hp.rowsIn (R := rI) (n := 7) (c := p2) rfl (by decide) q3 q4 1) (hp.rowsIn (R := rI) (n := 10) (c := p3) rfl (by decide) q5 q6 1) (hp.rowsIn (R := rI) (n := 11) (c := p4) rfl (by decide) q7 q8 1)
      simp only [decide_true, Bool.and_self] at this
      exact this) ?_
    ((conv => whnf); (repeat (refine And.intro ?_ ?_; (focus ((first | omega | exact ⟨rfl, True.intro⟩ | exact ⟨rfl, rfl, True.intro⟩ | rfl | (simp only [List.length_set]; first | omega | (refine And.intro ?_ ?_ <;> omega) | (refine And.intro ?_ (And.intro ?_ ?_) <;> omega)) | (intro hg; (try simp only [Bool.or_eq_false_iff, Bool.or_eq_true, Bool.and_eq_true, Bool.and_eq_false_iff, Bool.not_eq_true, Bool.not_eq_false, Bool.not_eq_true', Bool.not_eq_false', decide_eq_false_iff_not, decide_eq_true_eq] at hg); first | omega | (refine And.intro ?_ ?_ <;> omega) | (refine And.intro ?_ (And.intro ?_ ?_) <;> first | omega | (show _ < _; (try simp only [List.length_set]); omega) | exact Nat.le_of_ble_eq_true rfl)) | (refine And.intro ?_ ?_ <;> omega) | (refine And.intro ?_ (And.intro ?_ ?_) <;> first | omega | (show _ < _; (try simp only [List.length_set]); omega) | exact Nat.le_of_ble_eq_true rfl)); done)); (conv => whnf))))
    refine EvCallC.plain Try.call25 (.v (.bool true)) rfl (fun _ ρ W hp => by
      have := same_s _ _ own own W (hp.rowsIn (R := rC) (n := 9) (c := ca) rfl (by decide) ha1 ha2 4) (hp.rowsIn (R := rC) (n := 13) (c := cb) rfl (by decide) hb1 hb2 4)
      rw [decide_eq_true rfl] at this
      exact this) ?_
    ((conv => whnf); (repeat (refine And.intro ?_ ?_; (focus ((first | omega | exact ⟨rfl, True.intro⟩ | exact ⟨rfl, rfl, True.intro⟩ | rfl | (simp only [List.length_set]; first | omega | (refine And.intro ?_ ?_ <;> omega) | (refine And.intro ?_ (And.intro ?_ ?_) <;> omega)) | (intro hg; (try simp only [Bool.or_eq_false_iff, Bool.or_eq_true, Bool.and_eq_true, Bool.and_eq_false_iff, Bool.not_eq_true, Bool.not_eq_false, Bool.not_eq_true', Bool.not_eq_false', decide_eq_false_iff_not, decide_eq_true_eq] at hg); first | omega | (refine And.intro ?_ ?_ <;> omega) | (refine And.intro ?_ (And.intro ?_ ?_) <;> first | omega | (show _ < _; (try simp only [List.length_set]); omega) | exact Nat.le_of_ble_eq_true rfl)) | (refine And.intro ?_ ?_ <;> omega) | (refine And.intro ?_ (And.intro ?_ ?_) <;> first | omega | (show _ < _; (try simp only [List.length_set]); omega) | exact Nat.le_of_ble_eq_true rfl)); done)); (conv => whnf))))
    refine EvIf.neg rfl ?_
    ((conv => whnf); (repeat (refine And.intro ?_ ?_; (focus ((first | omega | exact ⟨rfl, True.intro⟩ | exact ⟨rfl, rfl, True.intro⟩ | rfl | (simp only [List.length_set]; first | omega | (refine And.intro ?_ ?_ <;> omega) | (refine And.intro ?_ (And.intro ?_ ?_) <;> omega)) | (intro hg; (try simp only [Bool.or_eq_false_iff, Bool.or_eq_true, Bool.and_eq_true, Bool.and_eq_false_iff, Bool.not_eq_true, Bool.not_eq_false, Bool.not_eq_true', Bool.not_eq_false', decide_eq_false_iff_not, decide_eq_true_eq] at hg); first | omega | (refine And.intro ?_ ?_ <;> omega) | (refine And.intro ?_ (And.intro ?_ ?_) <;> first | omega | (show _ < _; (try simp only [List.length_set]); omega) | exact Nat.le_of_ble_eq_true rfl)) | (refine And.intro ?_ ?_ <;> omega) | (refine And.intro ?_ (And.intro ?_ ?_) <;> first | omega | (show _ < _; (try simp only [List.length_set]); omega) | exact Nat.le_of_ble_eq_true rfl)); done)); (conv => whnf))))
    refine EvCall.plain Try.call44 (.v (.bool true)) rfl (fun ρ W hp => lives12_s W) ?_
    ((conv => whnf); (repeat (refine And.intro ?_ ?_; (focus ((first | omega | exact ⟨rfl, True.intro⟩ | exact ⟨rfl, rfl, True.intro⟩ | rfl | (simp only [List.length_set]; first | omega | (refine And.intro ?_ ?_ <;> omega) | (refine And.intro ?_ (And.intro ?_ ?_) <;> omega)) | (intro hg; (try simp only [Bool.or_eq_false_iff, Bool.or_eq_true, Bool.and_eq_true, Bool.and_eq_false_iff, Bool.not_eq_true, Bool.not_eq_false, Bool.not_eq_true', Bool.not_eq_false', decide_eq_false_iff_not, decide_eq_true_eq] at hg); first | omega | (refine And.intro ?_ ?_ <;> omega) | (refine And.intro ?_ (And.intro ?_ ?_) <;> first | omega | (show _ < _; (try simp only [List.length_set]); omega) | exact Nat.le_of_ble_eq_true rfl)) | (refine And.intro ?_ ?_ <;> omega) | (refine And.intro ?_ (And.intro ?_ ?_) <;> first | omega | (show _ < _; (try simp only [List.length_set]); omega) | exact Nat.le_of_ble_eq_true rfl)); done)); (conv => whnf))))
    exact EvRet.ret (fun ρ => rfl)
  · ((conv => whnf); (repeat (refine And.intro ?_ ?_; (focus ((first | omega | exact ⟨rfl, True.intro⟩ | exact ⟨rfl, rfl, True.intro⟩ | rfl | (simp only [List.length_set]; first | omega | (refine And.intro ?_ ?_ <;> omega) | (refine And.intro ?_ (And.intro ?_ ?_) <;> omega)) | (intro hg; (try simp only [Bool.or_eq_false_iff, Bool.or_eq_true, Bool.and_eq_true, Bool.and_eq_false_iff, Bool.not_eq_true, Bool.not_eq_false, Bool.not_eq_true', Bool.not_eq_false', decide_eq_false_iff_not, decide_eq_true_eq] at hg); first | omega | (refine And.intro ?_ ?_ <;> omega) | (refine And.intro ?_ (And.intro ?_ ?_) <;> first | omega | (show _ < _; (try simp only [List.length_set]); omega) | exact Nat.le_of_ble_eq_true rfl)) | (refine And.intro ?_ ?_ <;> omega) | (refine And.intro ?_ (And.intro ?_ ?_) <;> first | omega | (show _ < _; (try simp only [List.length_set]); omega) | exact Nat.le_of_ble_eq_true rfl)); done)); (conv => whnf))))
    refine EvCall.two (ty := 3) (xs := []) (ys := []) (envES 0 13) (envES_den _ _) (envES_lt _ _) Try.call41 (fun ρ W hp => by
      have := new_s _ _ d sm W (hp.decl (n := 3) (d := d) hnm hl hc1 hc2 rfl) hI (hp.rowsIn (R := rC) (n := 5) (c := cap) rfl (by decide) hc3 hc4 4)
      rw [hN] at this
      exact this) (fun p1 p2 q1 q2 q3 q4 => ?_)
    ((conv => whnf); (repeat (refine And.intro ?_ ?_; (focus ((first | omega | exact ⟨rfl, True.intro⟩ | exact ⟨rfl, rfl, True.intro⟩ | rfl | (simp only [List.length_set]; first | omega | (refine And.intro ?_ ?_ <;> omega) | (refine And.intro ?_ (And.intro ?_ ?_) <;> omega)) | (intro hg; (try simp only [Bool.or_eq_false_iff, Bool.or_eq_true, Bool.and_eq_true, Bool.and_eq_false_iff, Bool.not_eq_true, Bool.not_eq_false, Bool.not_eq_true', Bool.not_eq_false', decide_eq_false_iff_not, decide_eq_true_eq] at hg); first | omega | (refine And.intro ?_ ?_ <;> omega) | (refine And.intro ?_ (And.intro ?_ ?_) <;> first | omega | (show _ < _; (try simp only [List.length_set]); omega) | exact Nat.le_of_ble_eq_true rfl)) | (refine And.intro ?_ ?_ <;> omega) | (refine And.intro ?_ (And.intro ?_ ?_) <;> first | omega | (show _ < _; (try simp only [List.length_set]); omega) | exact Nat.le_of_ble_eq_true rfl)); done)); (conv => whnf))))
    refine EvIf.pos rfl ?_
    ((conv => whnf); (repeat (refine And.intro ?_ ?_; (focus ((first | omega | exact ⟨rfl, True.intro⟩ | exact ⟨rfl, rfl, True.intro⟩ | rfl | (simp only [List.length_set]; first | omega | (refine And.intro ?_ ?_ <;> omega) | (refine And.intro ?_ (And.intro ?_ ?_) <;> omega)) | (intro hg; (try simp only [Bool.or_eq_false_iff, Bool.or_eq_true, Bool.and_eq_true, Bool.and_eq_false_iff, Bool.not_eq_true, Bool.not_eq_false, Bool.not_eq_true', Bool.not_eq_false', decide_eq_false_iff_not, decide_eq_true_eq] at hg); first | omega | (refine And.intro ?_ ?_ <;> omega) | (refine And.intro ?_ (And.intro ?_ ?_) <;> first | omega | (show _ < _; (try simp only [List.length_set]); omega) | exact Nat.le_of_ble_eq_true rfl)) | (refine And.intro ?_ ?_ <;> omega) | (refine And.intro ?_ (And.intro ?_ ?_) <;> first | omega | (show _ < _; (try simp only [List.length_set]); omega) | exact Nat.le_of_ble_eq_true rfl)); done)); (conv => whnf))))
    refine EvCall.rows (R := rC) (ty := 32) (xs := []) Try.call49 (fun ρ W hp => envclaims_s ⟨0, [], []⟩ _ _ _ _ _ _ W (hp.rowsIn (R := rI) (n := 6) rfl (by decide) q1 q2 1) (hp.rowsIn (R := rI) (n := 7) rfl (by decide) q3 q4 1) (by decide) (by decide)) (fun ca ha1 ha2 => ?_)
    ((conv => whnf); (repeat (refine And.intro ?_ ?_; (focus ((first | omega | exact ⟨rfl, True.intro⟩ | exact ⟨rfl, rfl, True.intro⟩ | rfl | (simp only [List.length_set]; first | omega | (refine And.intro ?_ ?_ <;> omega) | (refine And.intro ?_ (And.intro ?_ ?_) <;> omega)) | (intro hg; (try simp only [Bool.or_eq_false_iff, Bool.or_eq_true, Bool.and_eq_true, Bool.and_eq_false_iff, Bool.not_eq_true, Bool.not_eq_false, Bool.not_eq_true', Bool.not_eq_false', decide_eq_false_iff_not, decide_eq_true_eq] at hg); first | omega | (refine And.intro ?_ ?_ <;> omega) | (refine And.intro ?_ (And.intro ?_ ?_) <;> first | omega | (show _ < _; (try simp only [List.length_set]); omega) | exact Nat.le_of_ble_eq_true rfl)) | (refine And.intro ?_ ?_ <;> omega) | (refine And.intro ?_ (And.intro ?_ ?_) <;> first | omega | (show _ < _; (try simp only [List.length_set]); omega) | exact Nat.le_of_ble_eq_true rfl)); done)); (conv => whnf))))
    refine EvCallC.plain Try.call44 (.v (.bool true)) rfl (fun _ ρ W hp => lives12_s W) ?_
    ((conv => whnf); (repeat (refine And.intro ?_ ?_; (focus ((first | omega | exact ⟨rfl, True.intro⟩ | exact ⟨rfl, rfl, True.intro⟩ | rfl | (simp only [List.length_set]; first | omega | (refine And.intro ?_ ?_ <;> omega) | (refine And.intro ?_ (And.intro ?_ ?_) <;> omega)) | (intro hg; (try simp only [Bool.or_eq_false_iff, Bool.or_eq_true, Bool.and_eq_true, Bool.and_eq_false_iff, Bool.not_eq_true, Bool.not_eq_false, Bool.not_eq_true', Bool.not_eq_false', decide_eq_false_iff_not, decide_eq_true_eq] at hg); first | omega | (refine And.intro ?_ ?_ <;> omega) | (refine And.intro ?_ (And.intro ?_ ?_) <;> first | omega | (show _ < _; (try simp only [List.length_set]); omega) | exact Nat.le_of_ble_eq_true rfl)) | (refine And.intro ?_ ?_ <;> omega) | (refine And.intro ?_ (And.intro ?_ ?_) <;> first | omega | (show _ < _; (try simp only [List.length_set]); omega) | exact Nat.le_of_ble_eq_true rfl)); done)); (conv => whnf))))
    exact EvRet.ret (fun ρ => rfl)
theorem walk_EnvelopeFixed (w : World) (V0 : Value) (zs : List Int) (h : Ints w V0 zs) (V1 : Value) (ms : List Int) (h2 : Ints w V1 ms) (V2 : Value) (ks : List Int) (h3 : Ints w V2 ks) (b : Bool) :
    Calls Try.prog 14 #[V0, V1, V2, .bool b] w fun e w' => e = .returned (.bool true) ∧ Below w.heap.size w w' :=
  (envelopefixed_s V0 V1 V2 zs ms ks b w h h2 h3).out
end Go.Proofs.Ytofekfpbljihiaa
