/- The symbolic machine: an object's contents said in other words; parts of slices. No program in sight. -/
import Derived.Test.YtofekfpbljihiaaSyk
namespace Go.Proofs.Ytofekfpbljihiaa
open Go.RowKit
set_option linter.unusedVariables false

theorem Hp.recast {w : World} {ρ : Rho} {L : List Ob} {nx : Nat} {W : World} (h : Hp w ρ L nx W) {n : Nat} {o : Ob} (hn : fnd L n = some o) (c' : Ct) (hc : c'.cells ρ = o.c.cells ρ) (hlt : c'.lt nx = true) : Hp w ρ (updL L n c') nx W := by
  obtain ⟨hnn, l1, l2, hL, hU⟩ := fnd_split hn
  rw [hU]
  subst hL
  obtain ⟨hb, ho, hd, hl⟩ := h
  have hdd := hd
  rw [List.pairwise_append, List.pairwise_cons] at hdd
  refine ⟨hb, ?_, ?_, ?_⟩
  · intro x hx
    rcases List.mem_append.1 hx with hx | hx
    · exact ho x (by simp [hx])
    · rcases List.mem_cons.1 hx with rfl | hx
      · have := ho o (by simp)
        unfold ObOk OwnOk RoOk at *
        simp only [hc]
        exact this
      · exact ho x (by simp [hx])
  · rw [List.pairwise_append, List.pairwise_cons]
    refine ⟨hdd.1, ⟨fun x hx => hdd.2.1.1 x hx, hdd.2.1.2⟩, fun a ha b hb => ?_⟩
    rcases List.mem_cons.1 hb with rfl | hb
    · exact hdd.2.2 a ha o (by simp)
    · exact hdd.2.2 a ha b (by simp [hb])
  · intro x hx
    rcases List.mem_append.1 hx with hx | hx
    · exact hl x (by simp [hx])
    · rcases List.mem_cons.1 hx with rfl | hx
      · exact ⟨(hl o (by simp)).1, hlt⟩
      · exact hl x (by simp [hx])
theorem EvBi.recast {kp : Bool} {P : Program} {w : World} {b : Builtin} {args : List SV} {ts : List TypeId} {L : List Ob} {nx : Nat} {k : SV → List Ob → Nat → Prop} {n : Nat} {o : Ob} (hn : fnd L n = some o) (c' : Ct) (hc : ∀ ρ, c'.cells ρ = o.c.cells ρ) (hlt : c'.lt nx = true)
    (h : EvBi kp P w b args ts (updL L n c') nx k) : EvBi kp P w b args ts L nx k := ⟨fun ρ W hp => h.go ρ W (hp.recast hn c' (hc ρ) hlt)⟩
theorem EvCall.recast {kp : Bool} {P : Program} {w : World} {f : FuncId} {args : List SV} {L : List Ob} {nx : Nat} {k : SV → List Ob → Nat → Prop} {n : Nat} {o : Ob} (hn : fnd L n = some o) (c' : Ct) (hc : ∀ ρ, c'.cells ρ = o.c.cells ρ) (hlt : c'.lt nx = true)
    (h : EvCall kp P w f args (updL L n c') nx k) : EvCall kp P w f args L nx k := ⟨h.ent, fun ρ W hp => h.go ρ W (hp.recast hn c' (hc ρ) hlt)⟩
/-- The first of a slice of rows. -/
theorem Hp.cut {α : Type} {R : RowS α} {w : World} {ρ : Rho} {L : List Ob} {nx : Nat} {W : World} (h : Hp w ρ L nx W) {n c size : Nat} {own : Bool} {ty : TypeId} {cap : Nat} {xs : List α} (hf : fnd L n = some ⟨n, own, ty, size, cap, .rows α R xs⟩) (hR : 0 < R.cols.length) (hc : xs.length ≤ c) (hm : c ≤ 9223372036854775807) (hi : Nat) (hh : hi ≤ xs.length) (sz : Nat) :
    RowsIn R W (den ρ (.s n sz hi c)) (xs.take hi) := by
  have := h.rowsIn (R := R) hf hR hc hm sz
  simp only [den] at this ⊢
  exact this.cut hi c hh (by omega) (by omega)
/-- A part of a slice of rows. -/
theorem Hp.part {α : Type} {R : RowS α} {w : World} {ρ : Rho} {L : List Ob} {nx : Nat} {W : World} (h : Hp w ρ L nx W) {n c size : Nat} {own : Bool} {ty : TypeId} {cap : Nat} {xs : List α} (hf : fnd L n = some ⟨n, own, ty, size, cap, .rows α R xs⟩) (hR : 0 < R.cols.length) (hc : xs.length ≤ c) (hm : c ≤ 9223372036854775807) (lo hi : Nat) (hl : lo ≤ hi) (hh : hi ≤ xs.length) :
    RowsIn R W (den ρ (.so n R.cols.length (sOff (Option.getD none 0) c lo) (hi - lo) (c - lo))) ((xs.drop lo).take (hi - lo)) := by
  have := h.rowsIn (R := R) hf hR hc hm R.cols.length
  simp only [den] at this ⊢
  exact this.part lo hi c hl hh (by omega) (Nat.le_refl _)
end Go.Proofs.Ytofekfpbljihiaa
