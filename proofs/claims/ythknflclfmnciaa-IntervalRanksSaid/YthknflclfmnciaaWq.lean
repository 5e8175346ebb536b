
/- Small intervals: results, parts, least and greatest; what the laws Tight, Sound and Monotone need. No program in sight. -/
import Derived.Test.YthknflclfmnciaaWo
import Derived.Test.YthknflclfmnciaaVd
namespace Go.Proofs.Ythknflclfmnciaa
set_option linter.unusedVariables false
set_option linter.unusedSimpArgs false

theorem Rep.sm {a : Fq} {N D : Int} (h : Rep a N D) (h1 : N.natAbs ≤ 1073741824) (h2 : D ≤ 1073741824) : smF a := by
  have := h.le
  exact ⟨by omega, by omega⟩
theorem Lv.sm {x : Iv} {D : Int} (h : Lv x D) (hD : D ≤ 20000) : smF x.lo ∧ smF x.hi := by
  obtain ⟨Nl, Nh, hl, hh, hle, b1, b2⟩ := h
  have := hl.2.1
  exact ⟨hl.sm (by omega) (by omega), hh.sm (by omega) (by omega)⟩
theorem innF_sm {x : Iv} {D : Int} (t : Int) (hx : Lv x D) (hD : D ≤ 20000) : smF (innF x t) := by
  obtain ⟨Nl, Nh, hl, hh, hle, b1, b2⟩ := hx
  obtain ⟨_, _, _, ⟨_, r4⟩, k1, k2⟩ := inn_steps t hD hl hh hle b1 b2
  have := hl.2.1
  exact r4.sm (by omega) (by omega)
theorem cont_has {z : Iv} {c : Fq} (hz : vI z) (hc : vF c) (h : Has z (qv c)) : contB z c = true := by
  unfold contB
  simp only [Bool.and_eq_true, decide_eq_true_eq, ivB_iff, vB_iff]
  exact ⟨⟨⟨hz, hc⟩, (cmp_qv hz.1 hc).2 h.1⟩, (cmp_qv hc hz.2.1).2 h.2⟩
theorem with_has {w z : Iv} (hw : vI w) (hz : vI z) (h1 : qv z.lo ≤ qv w.lo) (h2 : qv w.hi ≤ qv z.hi) : withB w z = true := by
  unfold withB
  simp only [Bool.and_eq_true, decide_eq_true_eq, ivB_iff]
  exact ⟨⟨⟨hw, hz⟩, (cmp_qv hz.1 hw.1).2 h1⟩, (cmp_qv hw.2.1 hz.2.1).2 h2⟩
theorem les_qv {a b : Fq} (ha : vF a) (hb : vF b) : vF (lesF a b) ∧ qv (lesF a b) ≤ qv a ∧ qv (lesF a b) ≤ qv b ∧ (lesF a b = a ∨ lesF a b = b) := by
  obtain ⟨h1, h2, h3, h4⟩ := lesF_v ha hb
  exact ⟨h1, (cmp_qv h1 ha).1 h2, (cmp_qv h1 hb).1 h3, h4⟩
theorem gre_qv {a b : Fq} (ha : vF a) (hb : vF b) : vF (greF a b) ∧ qv a ≤ qv (greF a b) ∧ qv b ≤ qv (greF a b) ∧ (greF a b = a ∨ greF a b = b) := by
  obtain ⟨h1, h2, h3, h4⟩ := greF_v ha hb
  exact ⟨h1, (cmp_qv ha h1).1 h2, (cmp_qv hb h1).1 h3, h4⟩
theorem les_mono {a b c d : Fq} (ha : vF a) (hb : vF b) (hc : vF c) (hd : vF d) (h1 : qv a ≤ qv c) (h2 : qv b ≤ qv d) : qv (lesF a b) ≤ qv (lesF c d) := by
  obtain ⟨_, p1, p2, _⟩ := les_qv ha hb
  obtain ⟨_, _, _, q⟩ := les_qv hc hd
  rcases q with q | q <;> rw [q]
  · exact Rat.le_trans p1 h1
  · exact Rat.le_trans p2 h2
theorem gre_mono {a b c d : Fq} (ha : vF a) (hb : vF b) (hc : vF c) (hd : vF d) (h1 : qv a ≤ qv c) (h2 : qv b ≤ qv d) : qv (greF a b) ≤ qv (greF c d) := by
  obtain ⟨_, p1, p2, _⟩ := gre_qv hc hd
  obtain ⟨_, _, _, q⟩ := gre_qv ha hb
  rcases q with q | q <;> rw [q]
  · exact Rat.le_trans h1 p1
  · exact Rat.le_trans h2 p2
theorem imin_eq {x y : Iv} (hx : vI x) (hy : vI y) : iminF x y = ⟨lesF x.lo y.lo, lesF x.hi y.hi⟩ := by unfold iminF; rw [and_i hx hy, if_pos rfl]
theorem imax_eq {x y : Iv} (hx : vI x) (hy : vI y) : imaxF x y = ⟨greF x.lo y.lo, greF x.hi y.hi⟩ := by unfold imaxF; rw [and_i hx hy, if_pos rfl]
theorem ihull_eq {x y : Iv} (hx : vI x) (hy : vI y) : ihullF x y = ⟨lesF x.lo y.lo, greF x.hi y.hi⟩ := by unfold ihullF; rw [and_i hx hy, if_pos rfl]
theorem imin_v {x y : Iv} (hx : vI x) (hy : vI y) : vI (iminF x y) := by
  rw [imin_eq hx hy]
  have a := (les_qv hx.1 hy.1).1
  have b := (les_qv hx.2.1 hy.2.1).1
  exact ⟨a, b, (cmp_qv a b).2 (les_mono hx.1 hy.1 hx.2.1 hy.2.1 hx.le hy.le)⟩
theorem imax_v {x y : Iv} (hx : vI x) (hy : vI y) : vI (imaxF x y) := by
  rw [imax_eq hx hy]
  have a := (gre_qv hx.1 hy.1).1
  have b := (gre_qv hx.2.1 hy.2.1).1
  exact ⟨a, b, (cmp_qv a b).2 (gre_mono hx.1 hy.1 hx.2.1 hy.2.1 hx.le hy.le)⟩
theorem ihull_v {x y : Iv} (hx : vI x) (hy : vI y) : vI (ihullF x y) := by
  rw [ihull_eq hx hy]
  have a := les_qv hx.1 hy.1
  have b := gre_qv hx.2.1 hy.2.1
  exact ⟨a.1, b.1, (cmp_qv a.1 b.1).2 (Rat.le_trans a.2.1 (Rat.le_trans hx.le b.2.1))⟩
/-- The smaller and the greater number lie in the least and the greatest interval. -/
theorem min_cont {x y : Iv} {a b : Fq} (hx : vI x) (hy : vI y) (ha : vF a) (hb : vF b) (h1 : Has x (qv a)) (h2 : Has y (qv b)) : contB (iminF x y) (lesF a b) = true ∧ contB (imaxF x y) (greF a b) = true := by
  constructor
  · refine cont_has (imin_v hx hy) (les_qv ha hb).1 ?_
    rw [imin_eq hx hy]
    exact ⟨les_mono hx.1 hy.1 ha hb h1.1 h2.1, les_mono ha hb hx.2.1 hy.2.1 h1.2 h2.2⟩
  · refine cont_has (imax_v hx hy) (gre_qv ha hb).1 ?_
    rw [imax_eq hx hy]
    exact ⟨gre_mono hx.1 hy.1 ha hb h1.1 h2.1, gre_mono ha hb hx.2.1 hy.2.1 h1.2 h2.2⟩
/-- u is a part of x. -/
def Pt (u x : Iv) : Prop := qv x.lo ≤ qv u.lo ∧ qv u.hi ≤ qv x.hi
theorem Pt.has {u x : Iv} (h : Pt u x) {r : Rat} (hr : Has u r) : Has x r := ⟨Rat.le_trans h.1 hr.1, Rat.le_trans hr.2 h.2⟩
theorem lattice_mono {x y u v : Iv} (hx : vI x) (hy : vI y) (hu : vI u) (hv : vI v) (h1 : Pt u x) (h2 : Pt v y) :
    withB (iminF u v) (iminF x y) = true ∧ withB (imaxF u v) (imaxF x y) = true ∧ withB (ihullF u v) (ihullF x y) = true := by
  refine ⟨with_has (imin_v hu hv) (imin_v hx hy) ?_ ?_, with_has (imax_v hu hv) (imax_v hx hy) ?_ ?_, with_has (ihull_v hu hv) (ihull_v hx hy) ?_ ?_⟩
  · rw [imin_eq hx hy, imin_eq hu hv]; exact les_mono hx.1 hy.1 hu.1 hv.1 h1.1 h2.1
  · rw [imin_eq hx hy, imin_eq hu hv]; exact les_mono hu.2.1 hv.2.1 hx.2.1 hy.2.1 h1.2 h2.2
  · rw [imax_eq hx hy, imax_eq hu hv]; exact gre_mono hx.1 hy.1 hu.1 hv.1 h1.1 h2.1
  · rw [imax_eq hx hy, imax_eq hu hv]; exact gre_mono hu.2.1 hv.2.1 hx.2.1 hy.2.1 h1.2 h2.2
  · rw [ihull_eq hx hy, ihull_eq hu hv]; exact les_mono hx.1 hy.1 hu.1 hv.1 h1.1 h2.1
  · rw [ihull_eq hx hy, ihull_eq hu hv]; exact gre_mono hu.2.1 hv.2.1 hx.2.1 hy.2.1 h1.2 h2.2
theorem Nz.part {y v : Iv} (hy : vI y) (hv : vI v) (h : Nz y) (hp : Pt v y) : Nz v := by
  intro ⟨h1, h2⟩
  have a1 := (qv_sign hv.1.pos).2.2 h1
  have a2 := (qv_sign hv.2.1.pos).1.2 h2
  exact h ⟨(qv_sign hy.1.pos).2.1 (Rat.le_trans hp.1 a1), (qv_sign hy.2.1.pos).1.1 (Rat.le_trans a2 hp.2)⟩
/-- An end of the result for parts lies in the result for the whole. -/
theorem iok_has {op : Nat} {x y z u v : Iv} {f : Fq} (hk : IOk op x y z) (hu : vI u) (hv : vI v) (p1 : Pt u x) (p2 : Pt v y) (h0 : 3 ≤ op → Nz v) (h : ∃ a b, (a = u.lo ∨ a = u.hi) ∧ (b = v.lo ∨ b = v.hi) ∧ opF op a b = (f, 0)) : Has z (qv f) := by
  obtain ⟨a, b, ha, hb, he⟩ := h
  obtain ⟨va, ia⟩ := end_v hu ha
  obtain ⟨vb, ib⟩ := end_v hv hb
  obtain ⟨v1, v2⟩ := opF_val va vb (fun h3 => (h0 h3).ne hv vb ib) (by rw [he])
  rw [he] at v2
  simp only at v2
  rw [v2]
  exact hk.all _ _ (p1.has ia) (p2.has ib)
theorem iop_mono {op : Nat} {x y z u v w : Iv} (hk : IOk op x y z) (hj : IOk op u v w) (hu : vI u) (hv : vI v) (p1 : Pt u x) (p2 : Pt v y) (h0 : 3 ≤ op → Nz v) : withB w z = true :=
  with_has hj.v hk.v (iok_has hk hu hv p1 p2 h0 hj.lo).1 (iok_has hk hu hv p1 p2 h0 hj.hi).2
/-- The result of numbers lies in the result of the intervals. -/
theorem iop_sound {op : Nat} {x y z : Iv} {a b : Fq} (hk : IOk op x y z) (hy : vI y) (ha : vF a) (hb : vF b) (sa : smF a) (sb : smF b) (h0 : op = 3 → Nz y) (hop : op < 4) (h1 : Has x (qv a)) (h2 : Has y (qv b)) :
    ∃ c, opF op a b = (c, 0) ∧ contB z c = true := by
  have hn : 3 ≤ op → b.n ≠ 0 := fun h3 => (h0 (by omega)).ne hy hb h2
  have hc := opF_small ha hb sa sb hn
  obtain ⟨v1, v2⟩ := opF_val ha hb hn hc
  refine ⟨(opF op a b).1, Prod.ext rfl hc, cont_has hk.v v1 ?_⟩
  rw [v2]
  exact hk.all _ _ h1 h2
end Go.Proofs.Ythknflclfmnciaa
