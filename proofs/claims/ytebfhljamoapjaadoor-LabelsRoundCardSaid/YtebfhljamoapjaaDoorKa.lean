
/- Bytes as elements, strings appended to bytes, builders of strings. No program in sight. -/
import Derived.Test.YtebfhljamoapjaaDoorSyG
import Derived.Lib.Builder
import Derived.Lib.AppendStr
import Derived.Lib.UnsafeStr
namespace Go.Proofs.YtebfhljamoapjaaDoor
open Go.RowKit
set_option linter.unusedVariables false
set_option linter.unusedSimpArgs false

/-- A byte as an element. -/
def ofU (cs : List Value) : Option Int :=
  match cs with
  | [.int .u8 z] => some z
  | _ => none
theorem ofU_law (cs : List Value) (x : Int) (h : ofU cs = some x) : [Value.int .u8 x] = cs := by
  unfold ofU at h
  split at h
  · simp at h
    subst h
    rfl
  · cases h
def rU : RowS Int := { cols := [fun z => .int .u8 z], d := 0, of := ofU, law := fun cs x h => ofU_law cs x h, one := fun x f hf => by simp at hf; subst hf; rfl }
/-- The bytes of a string. -/
def bI (s : ByteArray) : List Int := s.data.toList.map (fun b => (b.toNat : Int))
theorem bI_len (s : ByteArray) : (bI s).length = s.size := by
  simp only [bI, List.length_map, Array.length_toList]
  rfl
theorem bI_app (s t : ByteArray) : bI (s ++ t) = bI s ++ bI t := by
  simp [bI, ByteArray.data_append]
theorem rowC_bI (s : ByteArray) : rowC rU (bI s) = Lib.strCells s := by
  unfold rowC bI Lib.strCells
  induction s.data.toList with
  | nil => rfl
  | cons b r ih => simp only [List.map_cons, List.flatMap_cons, ih]; rfl
theorem run_append_str {P : Program} (w : World) (base : Nat) (t u ty e : TypeId) (i : TypeInfo) (ht : P.underlying t = some (.slice e)) (hu : P.underlying u = some .string) (hi : P.info? e = some i) (hz : i.zero = some (.int .u8 0))
    (hsize : i.size = 1) (hby : i.bytes = 1) (v : Value) (n : Nat) (xs : List Value) (hown : w.ownsRow base e 1 v n xs) (s : ByteArray) (h63 : n + s.size ≤ maxLen) (hbytes : n + s.size ≤ 140737488355328) (hbase : base ≤ w.heap.size) :
    ∃ A c w', (Builtin.append_ #[t, u] ty #[v, .string s]).run P w = .ok (.slice A (n + s.size) c) w' ∧ w'.ownsRow base e 1 (.slice A (n + s.size) c) (n + s.size) (xs ++ Lib.strCells s) ∧ w.grownBy w' v.ownBlock ∧
      (∀ k, (Value.slice A (n + s.size) c).ownBlock = some k → v.ownBlock = some k ∨ k = w.heap.size) := by
  obtain ⟨v', w', hr, ho, hg, hiff⟩ := Lib.run_append_own_string (P := P) w base t u ty e i ht hu hi hz hsize hby v n xs hown s h63 hbytes hbase
  obtain ⟨A, c, rfl⟩ : ∃ A c, v' = .slice A (n + s.size) c := by
    rcases ho.2 with ⟨rfl, h0⟩ | ⟨g, cap, cur, rfl, _⟩
    · exact ⟨none, 0, by rw [h0]⟩
    · exact ⟨_, _, rfl⟩
  refine ⟨A, c, w', hr, ho, hg, fun k hk => ?_⟩
  have hxl : xs.length = n := by simpa using hown.1
  rcases hown.2 with ⟨rfl, rfl⟩ | ⟨g, cap, cur, rfl, hbg, hgg, hnc, hcm, hcs, htake⟩
  · by_cases hm : s.size = 0
    · have := hiff.2 ⟨rfl, hm⟩
      rw [this] at hk
      simp [Value.ownBlock] at hk
    · have hr2 := run_append_nil_string (P := P) w t u ty e i (.int .u8 0) ht hu hi hz s (by omega) (by omega) (by rw [hby]; omega)
      rw [hr2] at hr
      injection hr with h1 h2
      rw [← h1] at hk
      simp only [Value.ownBlock] at hk
      exact .inr (by injection hk with hk; exact hk.symm)
  · by_cases hroom : n + s.size ≤ cap
    · have hcs' : cur.size = cap := by simpa using hcs
      have hr2 := Lib.run_append_room_string (P := P) w t u ty e i ht hu hi hsize g n cap cur hgg s hroom (by omega)
      rw [hr2] at hr
      injection hr with h1 h2
      rw [← h1] at hk
      exact .inl hk
    · have holds : ∀ j u, xs[j]? = some u → w.cell? ((⟨g, 0, none⟩ : Addr).add j) = some u := hown.cells (g := g) rfl
      have hr2 := Lib.run_append_grow_string (P := P) w t u ty e i (.int .u8 0) ht hu hi hz ⟨g, 0, none⟩ n cap xs (by rw [hsize]; simpa using hxl) holds s (by omega) (by omega) (by rw [hby]; exact growslice_fits (by omega) (by omega))
      rw [hr2] at hr
      injection hr with h1 h2
      rw [← h1] at hk
      simp only [Value.ownBlock] at hk
      exact .inr (by injection hk with hk; exact hk.symm)
section
variable {P : Program} {w : Ref} {L : List Ob} {nx : Nat} {k : SV → List Ob → Nat → Prop} {kp : Bool}
/-- append of a string to bytes. -/
theorem EvBi.appendS {t u ty : TypeId} {ti tu te : TI} (ht : TyOk P t ti) (hd : ti.d = .slice ty) (hu : TyOk P u tu) (hud : tu.d = .string) (hty : TyOk P ty te) (hsz : te.size = 1) (hby : te.bytes = 1) (hzz : te.zero = .int .u8 0)
    {n len cap sz : Nat} {xs : List Int} (hn : fnd L n = some ⟨n, true, ty, 1, cap, .rows Int rU xs⟩) (hl : len = xs.length) (hc : xs.length ≤ cap) (s : ByteArray)
    (hmax : xs.length + s.size ≤ 140737488355328)
    (hk : ∀ cap', xs.length + s.size ≤ cap' → cap' ≤ 9223372036854775807 → k (.s nx 1 (xs.length + s.size) cap') (⟨nx, true, ty, 1, cap', .rows Int rU (xs ++ bI s)⟩ :: rmL L n) (nx + 1)) :
    EvBi false P w .append [.s n sz len cap, .v (.string s)] [t, u] L nx k := by
  subst hl
  refine ⟨fun ρ W hp hlt tt c => ?_⟩
  obtain ⟨hnn, l1, l2, hL, _⟩ := fnd_split hn
  have hok := hp.obj _ (show (⟨n, true, ty, 1, cap, .rows Int rU xs⟩ : Ob) ∈ L by rw [hL]; simp)
  simp only [ObOk, if_true] at hok
  have hrow := own_to_row (R := rU) (by decide) hok hc
  obtain ⟨_, j, hj1, hj2, hj3, hj4, _⟩ := hty
  obtain ⟨A, cap', W', h1, h2, h3, h4⟩ := run_append_str (P := P) W w.heap.size t u tt ty j (by rw [ht.1, hd]) (by rw [hu.1, hud]) hj1 (by rw [hj4, hzz]) (hj2.trans hsz) (hj3.trans hby)
    (.slice (ρ n) xs.length cap) xs.length (rowC rU xs) hrow s (by simp only [maxLen]; omega) hmax hp.bel.size
  rw [← rowC_bI, ← rowC_app] at h2
  have hG := hp.grown hn rfl (v := .slice (ρ n) xs.length cap) (ownBlock_eq _ _ _) h3
  obtain ⟨hown, hcc⟩ := row_to_own (R := rU) (ρ := upd ρ nx A) (n := nx) (xs := xs ++ bI s) (by simp [bI_len]) h2 (upd_same _ _ _)
  refine ⟨.slice A (xs.length + s.size) cap', W', ?_, (fun h => by cases h), upd ρ nx A, .s nx 1 (xs.length + s.size) cap', _, nx + 1, by simp [den, upd_same], agree_upd ρ nx A, by omega, by simp [SV.lt, blt_iff], ?_, hk cap' hcc ?_⟩
  · simp only [builtin, denL, den]
    simp only [Sem.run_bind]
    have : #[t, u] = [t, u].toArray := rfl
    rw [← this]
    have e2 : #[Value.slice (ρ n) xs.length cap, Value.string s] = [Value.slice (ρ n) xs.length cap, Value.string s].toArray := rfl
    rw [← e2, h1]
    rfl
  · refine hG.add _ A rfl rfl rfl hown ?_
    intro B hB o' ho' hw'
    subst hB
    obtain ⟨m1, m2, hL2, hR2⟩ := rmL_split hn
    rw [hR2] at ho'
    have hmem' : o' ∈ L := by rw [hL2]; rcases List.mem_append.1 ho' with h | h <;> simp [h]
    have hobj' := hp.obj o' hmem'
    unfold ObOk at hobj'
    rw [if_pos hw'] at hobj'
    intro he
    have hblt := hobj'.blk_lt he
    rcases h4 B.block (by simp [ownBlock_eq]) with h5 | h5
    · have hdis := hp.dis
      rw [hL2] at hdis
      have hd1 := List.pairwise_append.1 hdis
      have hd2 := List.pairwise_cons.1 hd1.2.1
      rw [ownBlock_eq, Option.map_eq_some_iff] at h5
      obtain ⟨A0, hA0, hA1⟩ := h5
      have hBA : B = A0 := by
        rcases hok with ⟨hx, _⟩ | ⟨g, _, hx, _⟩
        · simp only at hx; rw [hx] at hA0; cases hA0
        · simp only at hx
          rw [hx] at hA0
          cases hA0
          rcases hobj' with ⟨hy, _⟩ | ⟨g', _, hy, _⟩
          · rw [hy] at he; cases he
          · rw [hy] at he
            cases he
            simp at hA1
            rw [hA1]
      subst hBA
      rcases List.mem_append.1 ho' with h' | h'
      · exact hd1.2.2 o' h' ⟨n, true, ty, 1, cap, .rows Int rU xs⟩ (by simp) hw' rfl (by rw [he]; simp) (by rw [he]; exact hA0.symm)
      · exact hd2.1 o' h' rfl hw' (by simp [hA0]) (by simp only [hA0]; exact he.symm)
    · omega
  · rcases hown with ⟨_, _, hx⟩ | ⟨_, _, _, _, _, hx, _⟩
    · simp only at hx; omega
    · simpa [maxLen] using hx
/-- An owned object of two cells lies in a block of its own. -/
theorem Hp.blk2 {ρ : Rho} {W : World} (hp : Hp w ρ L nx W) {n : Nat} {T : TypeId} {c0 c1 : SV} (hn : fnd L n = some ⟨n, true, T, 2, 1, .cs [c0, c1]⟩) : ∃ b, ρ n = some ⟨b, 0, none⟩ ∧ w.heap.size ≤ b ∧ Blk W b T #[den ρ c0, den ρ c1] := by
  obtain ⟨hnn, l1, l2, hL, _⟩ := fnd_split hn
  have hok := hp.obj _ (show (⟨n, true, T, 2, 1, .cs [c0, c1]⟩ : Ob) ∈ L by rw [hL]; simp)
  simp only [ObOk, if_true] at hok
  rcases hok with ⟨_, h, _⟩ | ⟨g, junk, h1, h2, h3, h4, h5⟩
  · simp [Ct.cells, denL] at h
  · simp only [Ct.cells, denL, List.length_cons, List.length_nil] at h3
    have hj : junk = [] := List.eq_nil_of_length_eq_zero (by omega)
    subst hj
    exact ⟨g, h1, h2, by simpa [Ct.cells, denL] using h5⟩
theorem den_p0 {ρ : Rho} {n b : Nat} (h : ρ n = some ⟨b, 0, none⟩) : den ρ (.p n 0) = .pointer (some ⟨b, 0, none⟩) := by simp [den, h, Addr.add]
/-- copyCheck of a builder that has been used. -/
theorem EvCall.copyU {f : FuncId} {n : Nat} {T : TypeId} {c1 : SV} (ent : ∀ args W, (callFunc f args).run P W = .ok (.enter f args) W) (hn : fnd L n = some ⟨n, true, T, 2, 1, .cs [.p n 0, c1]⟩)
    (h : ∀ b W, W.cell? ⟨b, 0, none⟩ = some (.pointer (some ⟨b, 0, none⟩)) → Calls P f #[.pointer (some ⟨b, 0, none⟩)] W fun e W' => e = .returned (.tuple #[]) ∧ W' = W) (hk : k (.t []) L nx) : EvCall kp P w f [.p n 0] L nx k := by
  refine ⟨ent, fun ρ W hp _ => ?_⟩
  obtain ⟨b, h1, h2, h3⟩ := hp.blk2 hn
  rw [den_p0 h1] at h3
  have e1 : (denL ρ [SV.p n 0]).toArray = #[.pointer (some ⟨b, 0, none⟩)] := by simp [denL, den_p0 h1]
  rw [e1]
  refine (h b W (by rw [h3.cell]; rfl)).mono ?_
  rintro e W' ⟨rfl, rfl⟩
  exact ⟨_, rfl, fun _ => Below.refl _ _, ρ, .t [], L, nx, by simp [den, denL], fun _ _ => rfl, Nat.le_refl _, by simp [SV.lt, ltL], hp, hk⟩
theorem run_store1 (W : World) (b i : Nat) (u v : Value) (h1 : W.cell? ⟨b, i, none⟩ = some u) (h2 : W.frozen? ⟨b, i, none⟩ = false) (hv : v.oneCell' = true) : (storeCells ((⟨b, 0, none⟩ : Addr).add i) [v]).run P W = .ok () (W.setCell ⟨b, i, none⟩ v) := by
  simp [storeCells, add_none, run_store P W _ v _ hv, h1, h2]
/-- copyCheck of a fresh builder. -/
theorem EvCall.copyF {f : FuncId} {n : Nat} {T : TypeId} {c1 : SV} (ent : ∀ args W, (callFunc f args).run P W = .ok (.enter f args) W) (hn : fnd L n = some ⟨n, true, T, 2, 1, .cs [.v (.pointer none), c1]⟩)
    (h : ∀ b W, W.cell? ⟨b, 0, none⟩ = some (.pointer none) → W.shape? b = some (T, 2) → W.frozen? ⟨b, 0, none⟩ = false → Calls P f #[.pointer (some ⟨b, 0, none⟩)] W fun e W' => e = .returned (.tuple #[]) ∧ W' = W.setCell ⟨b, 0, none⟩ (.pointer (some ⟨b, 0, none⟩)))
    (hk : k (.t []) (updL L n (.cs [.p n 0, c1])) nx) : EvCall false P w f [.p n 0] L nx k := by
  refine ⟨ent, fun ρ W hp hlt => ?_⟩
  obtain ⟨b, h1, h2, h3⟩ := hp.blk2 hn
  have e1 : (denL ρ [SV.p n 0]).toArray = #[.pointer (some ⟨b, 0, none⟩)] := by simp [denL, den_p0 h1]
  rw [e1]
  have hc : W.cell? ⟨b, 0, none⟩ = some (.pointer none) := by rw [h3.cell]; rfl
  have hf := h3.frozen 0
  refine (h b W hc (by unfold Blk at h3; simp [World.shape?, h3]) hf).mono ?_
  rintro e W' ⟨rfl, rfl⟩
  obtain ⟨hnn, l1, l2, hL, _⟩ := fnd_split hn
  have hl := hp.lt _ (show (⟨n, true, T, 2, 1, .cs [.v (.pointer none), c1]⟩ : Ob) ∈ L by rw [hL]; simp)
  obtain ⟨W2, h8, h9⟩ := hp.store hn rfl (c' := .cs [.p n 0, c1]) (off := 0) (vs := [.pointer (some ⟨b, 0, none⟩)]) (by
      have := hl.2
      have h0 := hl.1
      simp only [Ct.lt, ltL, SV.lt, Bool.and_true, Bool.true_and] at this ⊢
      rw [this, blt_iff.2 h0]
      rfl) (by simp) (by simp [Ct.cells, denL]) (by simp [Ct.cells, denL, den_p0 h1, splice]) (by simp [Value.oneCell']) P
  rw [h1] at h8
  have h10 := run_store1 (P := P) W b 0 _ (.pointer (some ⟨b, 0, none⟩)) hc hf rfl
  simp only [Option.getD_some] at h8
  rw [h10] at h8
  injection h8 with _ h8
  subst h8
  exact ⟨_, rfl, (fun h => by cases h), ρ, .t [], _, nx, by simp [den, denL], fun _ _ => rfl, Nat.le_refl _, by simp [SV.lt, ltL], h9, hk⟩
/-- String of a builder: nothing of the heap is known afterwards but what came in. -/
theorem EvCall.bstr {f : FuncId} {n m len cap : Nat} {T e : TypeId} {s : ByteArray} (ent : ∀ args W, (callFunc f args).run P W = .ok (.enter f args) W) (hn : fnd L n = some ⟨n, true, T, 2, 1, .cs [.p n 0, .s m 1 len cap]⟩)
    (hm : fnd L m = some ⟨m, true, e, 1, cap, .rows Int rU (bI s)⟩) (hl : len = (bI s).length) (hc : (bI s).length ≤ cap) (hnm : n ≠ m)
    (h : ∀ B b l W, Lib.IsBuilder T e B b (Lib.byteCells l) W → B ≤ W.heap.size → Calls P f #[.pointer (some ⟨b, 0, none⟩)] W fun e W' => e = .returned (.string ⟨l.toArray⟩) ∧ Below B W W')
    (hk : k (.v (.string s)) [] nx) : EvCall false P w f [.p n 0] L nx k := by
  subst hl
  refine ⟨ent, fun ρ W hp hlt => ?_⟩
  obtain ⟨b, h1, h2, h3⟩ := hp.blk2 hn
  have e1 : (denL ρ [SV.p n 0]).toArray = #[.pointer (some ⟨b, 0, none⟩)] := by simp [denL, den_p0 h1]
  rw [e1]
  obtain ⟨_, l1, l2, hL, _⟩ := fnd_split hn
  obtain ⟨_, m1, m2, hM, _⟩ := fnd_split hm
  have hok := hp.obj _ (show (⟨m, true, e, 1, cap, .rows Int rU (bI s)⟩ : Ob) ∈ L by rw [hM]; simp)
  simp only [ObOk, if_true] at hok
  have hrow := own_to_row (R := rU) (by decide) hok hc
  have hap := apart_of hp.dis ⟨n, true, T, 2, 1, .cs [.p n 0, .s m 1 (bI s).length cap]⟩ (by rw [hL]; simp) ⟨m, true, e, 1, cap, .rows Int rU (bI s)⟩ (by rw [hM]; simp) hnm rfl rfl (by simp [h1])
  simp only [h1] at hap
  have hbs : Lib.byteCells s.data.toList = rowC rU (bI s) := by rw [rowC_bI]; rfl
  refine (h w.heap.size b s.data.toList W (.inr ⟨h2, .slice (ρ m) (bI s).length cap, ?_, ?_, ?_⟩) hp.bel.size).mono ?_
  · unfold Blk at h3
    rw [h3, den_p0 h1]
    rfl
  · rw [hbs, rowC_len]
    have : (bI s).length * rU.cols.length = (bI s).length := Nat.mul_one _
    rw [this]
    exact hrow
  · rw [ownBlock_eq]
    intro h5
    rw [Option.map_eq_some_iff] at h5
    obtain ⟨A0, hA0, hA1⟩ := h5
    rcases hok with ⟨hx, _⟩ | ⟨g, _, hx, _⟩
    · simp only at hx; rw [hx] at hA0; cases hA0
    · simp only at hx
      rw [hx] at hA0
      cases hA0
      simp at hA1
      subst hA1
      exact hap hx.symm
  · rintro e W' ⟨rfl, hb⟩
    refine ⟨_, rfl, (fun h => by cases h), ρ, .v (.string s), [], nx, by simp [den], fun _ _ => rfl, Nat.le_refl _, rfl, ⟨hp.bel.trans hb, by simp, List.Pairwise.nil, by simp, hp.pin⟩, hk⟩
end
end Go.Proofs.YtebfhljamoapjaaDoor
