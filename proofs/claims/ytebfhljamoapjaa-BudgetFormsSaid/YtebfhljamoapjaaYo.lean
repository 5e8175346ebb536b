
/- A call walked in place whose ways meet again. No program in sight. -/
import Derived.Test.YtebfhljamoapjaaSyG
namespace Go.Proofs.Ytebfhljamoapjaa
open Go.RowKit
set_option linter.unusedVariables false
set_option linter.unusedSimpArgs false

/-- The states behind a call over x : α. -/
abbrev MeetI {α : Type} (R : α → Prop) (V : α → SV) (O : α → List Ob) (nx n0 : Nat) (v : SV) (l : List Ob) (n : Nat) : Prop := ∃ x, R x ∧ Sub nx [(0, [], V x)] (O x) n0 [(0, [], v)] l n
theorem EvCall.meet {P : Program} {w : Ref} {f : FuncId} {args : List SV} {L : List Ob} {nx : Nat} {k : SV → List Ob → Nat → Prop} {α : Type} (R : α → Prop) (V : α → SV) (O : α → List Ob) (n0 : Nat)
    (h : EvCall false P w f args L nx (MeetI R V O nx n0)) (hk : ∀ x, R x → k (V x) (O x) n0) : EvCall false P w f args L nx k := by
  refine ⟨h.ent, fun ρ W hp hlt => (h.go ρ W hp hlt).mono fun e W' he => ?_⟩
  obtain ⟨v, rfl, _, ρ', sv, L', nx', rfl, ha, hn, hl, hp', x, hx, hs⟩ := he
  have hp1 : Hp (w.pin nx ρ') ρ' L' nx' W' := ⟨hp'.bel, hp'.obj, hp'.dis, hp'.lt, hn, fun _ _ => rfl⟩
  have hk0 : Kn (w.pin nx ρ') 1 ρ' [] [(0, [], sv)] L' nx' { tmps := #[den ρ' sv], defers := [] } W' := by
    refine ⟨⟨fun t p u hu => ?_, fun s b hs => by simp [lkG] at hs, fun t p u hu => ?_, fun t p u hu _ => ?_⟩, hp1, rfl, rfl⟩
    · simp only [lk] at hu
      cases hb : Nat.beq 0 t with
      | true =>
        rw [hb] at hu
        obtain rfl := Nat.eq_of_beq_eq_true hb
        simp at hu
        obtain ⟨rfl, rfl⟩ := hu
        simp [holdsB]
      | false => rw [hb] at hu; simp at hu
    · simp only [lk] at hu
      cases hb : Nat.beq 0 t with
      | true =>
        rw [hb] at hu
        simp at hu
        obtain ⟨rfl, rfl⟩ := hu
        simp
      | false => rw [hb] at hu; simp at hu
    · simp only [lk] at hu
      cases hb : Nat.beq 0 t with
      | true =>
        rw [hb] at hu
        simp at hu
        obtain ⟨rfl, rfl⟩ := hu
        exact hl
      | false => rw [hb] at hu; simp at hu
  obtain ⟨ρ0, hk1⟩ := hs (w.pin nx ρ') 1 ρ' _ W' rfl hk0
  have hv := hk1.fk.slots 0 [] (V x) (by simp [lk])
  have hv2 := hk1.fk.lt 0 [] (V x) (by simp [lk]) rfl
  simp [holdsB] at hv
  exact ⟨_, rfl, (fun h => by cases h), ρ0, V x, O x, n0, hv, fun m hm => (hk1.hp.pin.2 m hm).trans (ha m hm), hk1.hp.pin.1, hv2, ⟨hk1.hp.bel, hk1.hp.obj, hk1.hp.dis, hk1.hp.lt, Nat.le_trans hp.pin.1 hk1.hp.pin.1, fun m hm => (hk1.hp.pin.2 m (Nat.lt_of_lt_of_le hm hp.pin.1)).trans (hp'.pin.2 m hm)⟩, hk x hx⟩
/-! new objects handed back -/
mutual
def SV.sh (k : Nat) : SV → SV
  | .v x => .v x
  | .p n off => .p (n + k) off
  | .e n sz i j => .e (n + k) sz i j
  | .s n sz len cap => .s (n + k) sz len cap
  | .so n sz eo len cap => .so (n + k) sz eo len cap
  | .a l => .a (shL k l)
  | .t l => .t (shL k l)
  | .f fn l => .f fn (shL k l)
  | .m fn l => .m fn (shL k l)
def shL (k : Nat) : List SV → List SV
  | [] => []
  | x :: r => x.sh k :: shL k r
end
def Ct.sh (k : Nat) : Ct → Ct
  | .cs l => .cs (shL k l)
  | .rows α R xs => .rows α R xs
def Ob.sh (k : Nat) (o : Ob) : Ob := ⟨o.n + k, o.own, o.ty, o.size, o.cap, o.c.sh k⟩
/-- Names from k on are ρ', below it ρ. -/
def joinρ (k : Nat) (ρ ρ' : Rho) : Rho := fun m => if m < k then ρ m else ρ' (m - k)
theorem joinρ_lt {k : Nat} {ρ ρ' : Rho} {m : Nat} (h : m < k) : joinρ k ρ ρ' m = ρ m := by simp [joinρ, h]
theorem joinρ_sh {k : Nat} {ρ ρ' : Rho} {m : Nat} : joinρ k ρ ρ' (m + k) = ρ' m := by unfold joinρ; rw [if_neg (by omega), Nat.add_sub_cancel]
mutual
theorem den_sh (k : Nat) (ρ ρ' : Rho) : ∀ x : SV, den (joinρ k ρ ρ') (x.sh k) = den ρ' x
  | .v _ => by simp [SV.sh, den]
  | .p _ _ => by simp [SV.sh, den, joinρ_sh]
  | .e _ _ _ _ => by simp [SV.sh, den, joinρ_sh]
  | .s _ _ _ _ => by simp [SV.sh, den, joinρ_sh]
  | .so _ _ _ _ _ => by simp [SV.sh, den, joinρ_sh]
  | .a l => by simp [SV.sh, den, denL_sh k ρ ρ' l]
  | .t l => by simp [SV.sh, den, denL_sh k ρ ρ' l]
  | .f _ l => by simp [SV.sh, den, denL_sh k ρ ρ' l]
  | .m _ l => by simp [SV.sh, den, denL_sh k ρ ρ' l]
theorem denL_sh (k : Nat) (ρ ρ' : Rho) : ∀ l : List SV, denL (joinρ k ρ ρ') (shL k l) = denL ρ' l
  | [] => by simp [shL, denL]
  | x :: r => by simp [shL, denL, den_sh k ρ ρ' x, denL_sh k ρ ρ' r]
end
mutual
theorem lt_sh (k n : Nat) : ∀ x : SV, x.lt n = true → (x.sh k).lt (k + n) = true
  | .v _, _ => by simp [SV.sh, SV.lt]
  | .p _ _, h => by simp only [SV.sh, SV.lt, blt_iff] at *; omega
  | .e _ _ _ _, h => by simp only [SV.sh, SV.lt, blt_iff] at *; omega
  | .s _ _ _ _, h => by simp only [SV.sh, SV.lt, blt_iff] at *; omega
  | .so _ _ _ _ _, h => by simp only [SV.sh, SV.lt, blt_iff] at *; omega
  | .a l, h => by simp only [SV.sh, SV.lt] at *; exact ltL_sh k n l h
  | .t l, h => by simp only [SV.sh, SV.lt] at *; exact ltL_sh k n l h
  | .f _ l, h => by simp only [SV.sh, SV.lt] at *; exact ltL_sh k n l h
  | .m _ l, h => by simp only [SV.sh, SV.lt] at *; exact ltL_sh k n l h
theorem ltL_sh (k n : Nat) : ∀ l : List SV, ltL n l = true → ltL (k + n) (shL k l) = true
  | [], _ => by simp [shL, ltL]
  | x :: r, h => by
    simp only [shL, ltL, Bool.and_eq_true] at *
    exact ⟨lt_sh k n x h.1, ltL_sh k n r h.2⟩
end
theorem cells_sh (k : Nat) (ρ ρ' : Rho) (c : Ct) : (c.sh k).cells (joinρ k ρ ρ') = c.cells ρ' := by
  cases c with
  | cs l => exact denL_sh k ρ ρ' l
  | rows _ _ _ => rfl
/-- A call that hands back v, with the new objects L'. -/
def RetObs (w : World) (v : SV) (L' : List Ob) (n : Nat) (e : Ending) (w' : World) : Prop := ∃ ρ', e = .returned (den ρ' v) ∧ v.lt n = true ∧ Hp (refOf w) ρ' L' n w'
theorem Hp.join {w : Ref} {ρ ρ' : Rho} {L L' : List Ob} {nx n : Nat} {W W' : World} (h : Hp w ρ L nx W) (h' : Hp (refOf W) ρ' L' n W') (hown : ∀ o ∈ L', o.own = true) : Hp w (joinρ nx ρ ρ') (L'.map (Ob.sh nx) ++ L) (nx + n) W' := by
  have hb : Below W.heap.size W W' := h'.bel
  have hag : Agree nx ρ (joinρ nx ρ ρ') := fun m hm => joinρ_lt hm
  have h1 := (h.step hb).agree hag
  have hB : w.heap.size ≤ W.heap.size := h.bel.size
  have hnew : ∀ o ∈ L', OwnOk W.heap.size (joinρ nx ρ ρ') (o.sh nx) W' := by
    intro o ho
    have h2 := h'.obj o ho
    unfold ObOk at h2
    rw [if_pos (hown o ho)] at h2
    unfold OwnOk at *
    simp only [Ob.sh, joinρ_sh, cells_sh]
    exact h2
  refine ⟨h1.bel, ?_, ?_, ?_, ?_, ?_⟩
  · intro o ho
    rcases List.mem_append.1 ho with ho | ho
    · obtain ⟨o0, ho0, rfl⟩ := List.mem_map.1 ho
      unfold ObOk
      rw [if_pos (show (o0.sh nx).own = true from hown o0 ho0)]
      rcases hnew o0 ho0 with hok | ⟨g, junk, q1, q2, q3⟩
      · exact .inl hok
      · exact .inr ⟨g, junk, q1, by omega, q3⟩
    · exact h1.obj o ho
  · refine List.pairwise_append.2 ⟨?_, h1.dis, ?_⟩
    · refine List.pairwise_map.2 (h'.dis.imp ?_)
      intro a b hab
      unfold Apart at *
      simpa only [Ob.sh, joinρ_sh] using hab
    · intro a ha b hb2
      obtain ⟨o0, ho0, rfl⟩ := List.mem_map.1 ha
      intro _ hw' hne he
      rcases hnew o0 ho0 with ⟨hok, _⟩ | ⟨g, junk, q1, q2, q3⟩
      · exact hne hok
      · have h2 := h.obj b hb2
        unfold ObOk at h2
        rw [if_pos hw'] at h2
        have h3 := (h.lt b hb2).1
        have h4 : ρ b.n = some ⟨g, 0, none⟩ := by rw [← joinρ_lt (ρ := ρ) (ρ' := ρ') h3, ← he, q1]
        have := h2.blk_lt h4
        simp at this
        omega
  · intro o ho
    rcases List.mem_append.1 ho with ho | ho
    · obtain ⟨o0, ho0, rfl⟩ := List.mem_map.1 ho
      obtain ⟨a1, a2⟩ := h'.lt o0 ho0
      refine ⟨by simp only [Ob.sh]; omega, ?_⟩
      unfold Ob.sh
      cases hc : o0.c with
      | cs l =>
        rw [hc] at a2
        exact ltL_sh nx n l a2
      | rows _ _ _ => rfl
    · obtain ⟨a1, a2⟩ := h.lt o ho
      refine ⟨by omega, ?_⟩
      cases hc : o.c with
      | cs l => rw [hc] at a2; exact ltL_mono (Nat.le_add_right _ _) l a2
      | rows _ _ _ => rfl
  · exact Nat.le_trans h.pin.1 (Nat.le_add_right _ _)
  · intro m hm
    rw [joinρ_lt (Nat.lt_of_lt_of_le hm h.pin.1)]
    exact h.pin.2 m hm
theorem EvCall.obs {P : Program} {w : Ref} {f : FuncId} {args : List SV} {L : List Ob} {nx : Nat} {kp : Bool} {k : SV → List Ob → Nat → Prop} {α : Type} (R : α → Prop) (V : α → SV) (O : α → List Ob) (n : Nat) (V' : α → SV) (O' : α → List Ob)
    (hV : ∀ x, (V x).sh nx = V' x) (hO : ∀ x, (O x).map (Ob.sh nx) = O' x) (hown : ∀ x, ∀ o ∈ O x, o.own = true) (ent : ∀ args W, (callFunc f args).run P W = .ok (.enter f args) W)
    (h : ∀ ρ W, Hp w ρ L nx W → Con P f (denL ρ args).toArray W (fun e w' => ∃ x, R x ∧ RetObs W (V x) (O x) n e w')) (hk : ∀ x, R x → k (V' x) (O' x ++ L) (nx + n)) : EvCall kp P w f args L nx k := by
  refine ⟨ent, fun ρ W hp _ => (h ρ W hp).out.mono fun e W' he => ?_⟩
  obtain ⟨x, hx, ρ', rfl, hlt, hp'⟩ := he
  have hj := hp.join hp' (hown x)
  have hk1 := hk x hx
  rw [← hV, ← hO] at hk1
  exact ⟨_, rfl, fun _ => hp'.bel, joinρ nx ρ ρ', (V x).sh nx, _, nx + n, (den_sh nx ρ ρ' (V x)).symm, fun m hm => joinρ_lt hm, Nat.le_add_right _ _, lt_sh nx n _ hlt, hj, hk1⟩
theorem EvRet.obs {w : World} {v : SV} {L : List Ob} {nx : Nat} {α : Type} {R : α → Prop} {V : α → SV} {O : α → List Ob} {n : Nat} (x : α) (hx : R x) (hs : Sub 0 [(0, [], V x)] (O x) n [(0, [], v)] L nx) : EvRet (refOf w) (fun e w' => ∃ x, R x ∧ RetObs w (V x) (O x) n e w') v L nx := by
  refine ⟨fun ρ W hp hlt => ?_⟩
  have hk0 : Kn (refOf w) 1 ρ [] [(0, [], v)] L nx { tmps := #[den ρ v], defers := [] } W := by
    refine ⟨⟨fun t p u hu => ?_, fun s b hs => by simp [lkG] at hs, fun t p u hu => ?_, fun t p u hu _ => ?_⟩, hp, rfl, rfl⟩
    all_goals
      simp only [lk] at hu
      cases hb : Nat.beq 0 t with
      | false => rw [hb] at hu; simp at hu
      | true =>
        rw [hb] at hu
        obtain rfl := Nat.eq_of_beq_eq_true hb
        simp at hu
        obtain ⟨rfl, rfl⟩ := hu
        first | (simp [holdsB]; done) | exact hlt | simp
  obtain ⟨ρ0, hk1⟩ := hs (refOf w) 1 ρ _ W rfl hk0
  have hv := hk1.fk.slots 0 [] (V x) (by simp [lk])
  have hv2 := hk1.fk.lt 0 [] (V x) (by simp [lk]) rfl
  simp [holdsB] at hv
  exact ⟨x, hx, ρ0, by rw [hv], hv2, hk1.hp⟩
end Go.Proofs.Ytebfhljamoapjaa
