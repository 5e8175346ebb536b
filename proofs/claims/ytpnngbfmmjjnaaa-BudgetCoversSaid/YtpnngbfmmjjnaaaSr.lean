
/- slices.SortFunc at claims, laid from the shelf by its own tool in plain words (this seat's numbers); claims.Sort at any length. -/
import Derived.Test.YtpnngbfmmjjnaaaSq
import Derived.Shelf.SlSortCmp.WholeK
namespace Go.Proofs.Ytpnngbfmmjjnaaa
open Go.RowKit Go.Sort Go.Shelf
set_option linter.unusedVariables false
set_option linter.unusedSimpArgs false

def Try.sortC_ren : Go.Shelf.Ren := ⟨fun | 6 => 70 | 15 => 85 | 14 => 84 | 28 => 107 | 29 => 108 | 20 => 99 | 21 => 100 | 22 => 101 | 23 => 102 | 24 => 103 | 25 => 104 | 26 => 105 | 27 => 106 | 46 => 115 | 47 => 116 | 48 => 117 | 49 => 118 | 50 => 119 | 57 => 123 | n => n, fun | 22 => 29 | 24 => 62 | 25 => 111 | 3 => 3 | 39 => 105 | 0 => 0 | 53 => 121 | 55 => 91 | 4 => 4 | 46 => 137 | 45 => 136 | 50 => 141 | 5 => 5 | 9 => 9 | 66 => 148 | 70 => 152 | 76 => 158 | 77 => 119 | n => n, fun | n => n⟩
theorem Try.sortC : Go.Proofs.SlLaysF0.n6 Try.prog Try.sortC_ren := {
  mixed := by kernel_rfl
  f6 := ⟨Try.f70.name, by decide, Try.func70.trans (congrArg some (by kernel_rfl))⟩
  f14 := ⟨Try.f84.name, by decide, Try.func84.trans (congrArg some (by kernel_rfl))⟩
  f15 := Try.func85.trans (congrArg some (by kernel_rfl))
  f20 := ⟨Try.f99.name, by decide, Try.func99.trans (congrArg some (by kernel_rfl))⟩
  f21 := ⟨Try.f100.name, by decide, Try.func100.trans (congrArg some (by kernel_rfl))⟩
  f22 := ⟨Try.f101.name, by decide, Try.func101.trans (congrArg some (by kernel_rfl))⟩
  f23 := ⟨Try.f102.name, by decide, Try.func102.trans (congrArg some (by kernel_rfl))⟩
  f24 := ⟨Try.f103.name, by decide, Try.func103.trans (congrArg some (by kernel_rfl))⟩
  f25 := ⟨Try.f104.name, by decide, Try.func104.trans (congrArg some (by kernel_rfl))⟩
  f26 := ⟨Try.f105.name, by decide, Try.func105.trans (congrArg some (by kernel_rfl))⟩
  f27 := ⟨Try.f106.name, by decide, Try.func106.trans (congrArg some (by kernel_rfl))⟩
  f28 := Try.func107.trans (congrArg some (by kernel_rfl))
  f29 := Try.func108.trans (congrArg some (by kernel_rfl))
  f46 := ⟨Try.f115.name, by decide, Try.func115.trans (congrArg some (by kernel_rfl))⟩
  f47 := Try.func116.trans (congrArg some (by kernel_rfl))
  f48 := Try.func117.trans (congrArg some (by kernel_rfl))
  f49 := ⟨Try.f118.name, by decide, Try.func118.trans (congrArg some (by kernel_rfl))⟩
  f50 := ⟨Try.f119.name, by decide, Try.func119.trans (congrArg some (by kernel_rfl))⟩
  f57 := ⟨Try.f123.name, by decide, Try.func123.trans (congrArg some (by kernel_rfl))⟩
  t0 := Try.underlying0
  a0 := Try.isAgg0
  z0 := Try.sizeOf0
  v0 := Try.zeroValue0
  t3 := Try.underlying3
  a3 := Try.isAgg3
  z3 := Try.sizeOf3
  v3 := Try.zeroValue3
  t4 := Try.underlying4
  a4 := Try.isAgg4
  z4 := Try.sizeOf4
  v4 := Try.zeroValue4
  t5 := Try.underlying5
  a5 := Try.isAgg5
  z5 := Try.sizeOf5
  v5 := Try.zeroValue5
  t9 := Try.underlying9
  a9 := Try.isAgg9
  z9 := Try.sizeOf9
  v9 := Try.zeroValue9
  t22 := Try.underlying29
  a22 := Try.isAgg29
  z22 := Try.sizeOf29
  v22 := Try.zeroValue29
  t25 := Try.underlying111
  a25 := Try.isAgg111
  z25 := Try.sizeOf111
  v25 := Try.zeroValue111
  t39 := Try.underlying105
  a39 := Try.isAgg105
  z39 := Try.sizeOf105
  v39 := Try.zeroValue105
  t45 := Try.underlying136
  a45 := Try.isAgg136
  z45 := Try.sizeOf136
  v45 := Try.zeroValue136
  t46 := Try.underlying137
  a46 := Try.isAgg137
  z46 := Try.sizeOf137
  v46 := Try.zeroValue137
  t50 := Try.underlying141
  a50 := Try.isAgg141
  z50 := Try.sizeOf141
  v50 := Try.zeroValue141
  t53 := Try.underlying121
  a53 := Try.isAgg121
  z53 := Try.sizeOf121
  v53 := Try.zeroValue121
  t55 := Try.underlying91
  a55 := Try.isAgg91
  z55 := Try.sizeOf91
  v55 := Try.zeroValue91
  t66 := Try.underlying148
  a66 := Try.isAgg148
  z66 := Try.sizeOf148
  v66 := Try.zeroValue148
  t70 := Try.underlying152
  a70 := Try.isAgg152
  z70 := Try.sizeOf152
  v70 := Try.zeroValue152
  t76 := Try.underlying158
  a76 := Try.isAgg158
  z76 := Try.sizeOf158
  v76 := Try.zeroValue158
  t77 := Try.underlying119
  a77 := Try.isAgg119
  z77 := Try.sizeOf119
  v77 := Try.zeroValue119 }

instance : Inhabited Cl := ⟨cl0⟩
theorem insC_perm (x : Cl) : ∀ s : List Cl, (insC s x).Perm (x :: s)
  | [] => .refl _
  | y :: r => by
    unfold insC
    split
    · exact ((insC_perm x r).cons y).trans (.swap x y r)
    · exact .refl _
theorem sortC_perm (l : List Cl) : (sortC l).Perm l := sort_snoc_ind (p := fun l s => s.Perm l) (.refl _) (fun l x s h => (insC_perm x s).trans ((h.cons x).trans (List.perm_append_singleton x l).symm)) l
theorem cl_anti {x y : Cl} (h1 : cmpC x y ≤ 0) (h2 : cmpC y x ≤ 0) : x = y := by
  rw [cmpC_le] at h1 h2
  obtain ⟨a, b, c, d⟩ := x
  obtain ⟨a', b', c', d'⟩ := y
  simp only at h1 h2
  have e1 : a = a' := by omega
  have e2 : b = b' := by omega
  have e3 : c = c' := by omega
  have e4 : d = d' := by omega
  subst e1 e2 e3 e4
  rfl
theorem sorted_uniq : ∀ {l m : List Cl}, l.Perm m → SortedC l → SortedC m → l = m
  | [], m, h, _, _ => by rw [h.symm.eq_nil]
  | x :: l, [], h, _, _ => by have := h.length_eq; simp at this
  | x :: l, y :: m, h, h1, h2 => by
    have hx := List.pairwise_cons.1 h1
    have hy := List.pairwise_cons.1 h2
    have e : x = y := by
      have q1 : x ∈ y :: m := h.subset (List.mem_cons_self ..)
      have q2 : y ∈ x :: l := h.symm.subset (List.mem_cons_self ..)
      rcases List.mem_cons.1 q1 with q1 | q1
      · exact q1
      · rcases List.mem_cons.1 q2 with q2 | q2
        · exact q2.symm
        · exact cl_anti (hx.1 y q2) (hy.1 x q1)
    subst e
    rw [sorted_uniq ((List.perm_cons x).1 h) hx.2 hy.2]
theorem swoC : SWO (ltOf cmpC) where
  irrefl x := by
    unfold ltOf
    have := cmpC_lt x x
    have h := cmpC_le x x
    rw [decide_eq_false]
    rw [this]
    simp [h]
  trans x y z h1 h2 := by
    unfold ltOf at *
    simp only [decide_eq_true_eq] at *
    rw [cmpC_lt, cmpC_le] at *
    omega
  ntrans x y z h1 h2 := by
    unfold ltOf at *
    simp only [decide_eq_false_iff_not] at *
    rw [cmpC_lt, cmpC_le] at *
    omega
def encC (c : Cl) : List Value := rC.cols.map (fun f => f c)
theorem flatC (l : List Cl) : Go.Sort.flatK encC 4 l.toArray = (rowC rC l).toArray := by
  apply Array.ext_getElem?
  intro t
  by_cases ht : t < l.length * 4
  · have h1 := Go.Sort.get_flatK encC 4 l.toArray t (by simpa using ht)
    have h4 : t % 4 < 4 := Nat.mod_lt _ (by decide)
    have hk : t / 4 < l.length := by omega
    obtain ⟨f, hf⟩ : ∃ f, rC.cols[t % 4]? = some f := ⟨_, List.getElem?_eq_getElem (show t % 4 < rC.cols.length from h4)⟩
    have h2 := flat_at rC.cols rC.d l (t / 4) (t % 4) f hk hf
    have e : t / 4 * rC.cols.length + t % 4 = t := by show t / 4 * 4 + t % 4 = t; omega
    rw [e] at h2
    have h3 : (rowC rC l).toArray[t]? = some (f (l.getD (t / 4) rC.d)) := by
      rw [List.getElem?_toArray]
      exact h2
    rw [h3]
    have hs : t < (Go.Sort.flatK encC 4 l.toArray).size := by simpa using ht
    rw [Array.getElem?_eq_getElem hs]
    have h5 : (Go.Sort.flatK encC 4 l.toArray)[t]! = (Go.Sort.flatK encC 4 l.toArray)[t] := getElem!_pos (Go.Sort.flatK encC 4 l.toArray) t hs
    rw [← h5, h1]
    have h6 : (l.toArray)[t / 4]! = l.getD (t / 4) rC.d := by
      rw [getElem!_pos _ _ (by simpa using hk)]
      simp [List.getD_eq_getElem?_getD, hk]
    rw [h6]
    have h7 : (encC (l.getD (t / 4) rC.d))[t % 4]? = some (f (l.getD (t / 4) rC.d)) := by
      unfold encC
      rw [List.getElem?_map, hf]
      rfl
    rw [List.getElem!_eq_getElem?_getD, h7]
    rfl
  · have h1 : (Go.Sort.flatK encC 4 l.toArray).size = l.length * 4 := by simp
    have h2 : (rowC rC l).length = l.length * 4 := rowC_len rC l
    rw [Array.getElem?_eq_none (by omega), Array.getElem?_eq_none (by simp; omega)]
theorem put_row (l l' : List Cl) (junk : List Value) (h : l'.length = l.length) : putCells id 0 (Go.Sort.flatK encC 4 l'.toArray) (rowC rC l ++ junk).toArray = (rowC rC l' ++ junk).toArray := by
  rw [flatC]
  have h1 : (rowC rC l).length = l.length * 4 := rowC_len rC l
  have h2 : (rowC rC l').length = l'.length * 4 := rowC_len rC l'
  apply Array.ext_getElem?
  intro t
  unfold putCells
  rw [Array.getElem?_mapIdx, List.getElem?_toArray, List.getElem?_toArray]
  by_cases ht : t < l.length * 4
  · rw [List.getElem?_append_left (by omega), List.getElem?_append_left (by omega), List.getElem?_eq_getElem (by omega), List.getElem?_eq_getElem (by omega)]
    simp only [Option.map_some, Nat.zero_le, Nat.zero_add, true_and, Nat.sub_zero, id, List.size_toArray]
    rw [if_pos (by omega), getElem!_pos _ _ (by simp; omega)]
    simp
  · rw [List.getElem?_append_right (by omega), List.getElem?_append_right (by omega), h1, h2, h]
    cases junk[t - l.length * 4]? with
    | none => rfl
    | some u =>
      simp only [Option.map_some, Nat.zero_le, Nat.zero_add, true_and, List.size_toArray]
      rw [if_neg (by omega)]
theorem blk_put {W : World} {g : Nat} {ty : TypeId} {l l' : List Cl} {junk : List Value} (h : Blk W g ty (rowC rC l ++ junk).toArray) (hl : l'.length = l.length) (n : Nat) (os : Array Obj) : Blk (sortWorldK encC 4 W g 0 n l'.toArray os) g ty (rowC rC l' ++ junk).toArray := by
  have hlt := h.lt
  have e : (putRowK encC 4 (Sort.ahead W n) g 0 l'.toArray).heap[g]? = some (.cells (rowC rC l' ++ junk).toArray ty (0, 0)) := by
    unfold putRowK putRow mapBlock
    show (W.heap.modify g _)[g]? = _
    rw [Array.getElem?_modify, if_pos rfl]
    unfold Blk at h
    rw [h, Option.map_some]
    unfold onCells
    simp only
    rw [put_row l l' junk hl]
  have hs : g < (putRowK encC 4 (Sort.ahead W n) g 0 l'.toArray).heap.size := (Array.getElem?_eq_some_iff.1 e).1
  unfold Blk sortWorldK grow
  show ((putRowK encC 4 (Sort.ahead W n) g 0 l'.toArray).heap ++ os)[g]? = _
  rw [Array.getElem?_append_left hs]
  exact e
theorem below_put {B : Nat} {w W : World} (h : Below B w W) {g : Nat} (hg : B ≤ g) (hgl : g < W.heap.size) (n : Nat) (d : Array Cl) (os : Array Obj) : Below B w (sortWorldK encC 4 W g 0 n d os) := by
  have hsz : (putRowK encC 4 (Sort.ahead W n) g 0 d).heap.size = W.heap.size := by simp [putRowK, putRow, mapBlock, Sort.ahead]
  refine ⟨h.os, h.tape, h.output, ?_, fun k hk => ?_⟩
  · show _ ≤ ((putRowK encC 4 (Sort.ahead W n) g 0 d).heap ++ os).size
    have := h.size
    rw [Array.size_append, hsz]
    omega
  · show ((putRowK encC 4 (Sort.ahead W n) g 0 d).heap ++ os)[k]? = _
    rw [← h.block k hk]
    rw [Array.getElem?_append_left (by omega)]
    unfold putRowK putRow mapBlock
    show (W.heap.modify g _)[k]? = _
    rw [Array.getElem?_modify, if_neg (by omega)]
theorem holdsC {W : World} {g : Nat} {ty : TypeId} {l : List Cl} {junk : List Value} (h : Blk W g ty (rowC rC l ++ junk).toArray) : HoldsK encC 4 W g 0 l.toArray := by
  intro j hj
  rw [flatC] at hj ⊢
  rw [Nat.zero_add]
  refine ⟨?_, h.frozen j⟩
  rw [h.cell, getElem!_pos (rowC rC l).toArray j hj, List.getElem?_toArray, List.getElem?_append_left (by simpa using hj), List.getElem?_eq_getElem (by simpa using hj)]
  simp
theorem cmpLays (blk off size : Nat) (w : World) : CmpLays Try.prog 71 #[] encC 4 cmpC blk off size w :=
  fun _ _ _ _ x y => compare_any x y _
theorem sorted_toList {l : List Cl} {d : Array Cl} (hp : PermIn 0 l.toArray.size l.toArray d) (hs : SortedIn (ltOf cmpC) 0 l.toArray.size d) : d.toList = sortC l := by
  obtain ⟨h1, _, h3⟩ := hp
  have e1 : d.extract 0 l.toArray.size = d := by rw [← h1]; simp
  have e2 : l.toArray.extract 0 l.toArray.size = l.toArray := by simp
  rw [e1, e2] at h3
  refine sorted_uniq (h3.trans (sortC_perm l).symm) ?_ (sortC_sorted l)
  unfold SortedC
  rw [List.pairwise_iff_getElem]
  intro i j hi hj hij
  have h4 := hs i j (Nat.zero_le _) hij (by rw [← h1]; simpa using hj)
  unfold ltOf at h4
  rw [getElem!_pos d j (by simpa using hj), getElem!_pos d i (by simpa using hi)] at h4
  simp only [decide_eq_false_iff_not] at h4
  rw [cmpC_lt] at h4
  simpa using Classical.not_not.1 h4
set_option maxRecDepth 100000 in
set_option maxHeartbeats 1000000 in
theorem sorta_s (v : Value) (l : List Cl) (w : World) (hv : RowsIn rC w v l) (h0 : 0 < l.length) (hn : l.length ≤ 1000) : Con Try.prog 52 #[v] w (RetRows rC 62 w (sortC l)) := by
  have hcl := (clone_s v l w hv hn).out
  have eg : ∀ args w, (callFunc 71 args).run Try.prog w = .ok (.enter 71 args) w := enters_of Try.func71 (by kernel_rfl) rfl
  refine ⟨?_⟩
  go_enter Try.func52, Try.ntmps52
  go_wp2_with (go_at_call 47; refine hcl.mono ?_; rintro e W1 ⟨A, cap, rfl, hb1, hc1, hok⟩)
  rcases hok with ⟨_, hc0, _⟩ | ⟨g, junk, rfl, hg, hlen, hcm, hblk⟩
  · have : (rowC rC l).length = l.length * 4 := rowC_len rC l
    have h2 : rowC rC l = [] := hc0
    rw [h2] at this
    simp at this
    omega
  have hsrt := AnyQ.slices_SortFunc Try.sortC 4 Try.isAgg62 Try.sizeOf62 encC (fun _ => rfl) (fun x u hu => by simp [encC, rC] at hu; rcases hu with rfl | rfl | rfl | rfl <;> rfl) cmpC swoC 71 #[] g 0 cap l.toArray W1 eg (cmpLays g 0 _ W1) (holdsC hblk) hblk.lt (by simp; omega)
  go_wp2_with (go_at_call 70; refine hsrt.mono ?_; rintro e W2 ⟨rfl, d', n, os, hp, hsd, rfl⟩)
  go_ret
  have hd := sorted_toList hp hsd
  have hdl : d' = (sortC l).toArray := by rw [← hd]
  subst hdl
  have hb := blk_put hblk (sortC_len l) n os
  have hlen' : (rowC rC (sortC l)).length + junk.length = cap * rC.cols.length := by
    have h1 := rowC_len rC l
    have h2 := rowC_len rC (sortC l)
    rw [sortC_len] at h2
    rw [h2, ← h1]
    exact hlen
  exact ⟨some ⟨g, 0, none⟩, cap, by rw [sortC_len]; rfl, below_put hb1 hg hblk.lt n _ os, by rw [sortC_len]; exact hc1, .inr ⟨g, junk, rfl, hg, hlen', hcm, hb⟩⟩
end Go.Proofs.Ytpnngbfmmjjnaaa
