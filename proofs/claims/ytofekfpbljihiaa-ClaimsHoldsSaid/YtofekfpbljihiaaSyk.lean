/- The symbolic machine: rows and a number returned. No program in sight. -/
import Derived.Test.YtofekfpbljihiaaSyj
namespace Go.Proofs.Ytofekfpbljihiaa
open Go.RowKit
set_option linter.unusedVariables false

def RetRowsE {α : Type} (R : RowS α) (ty : TypeId) (w : World) (xs : List α) (k : Int) (e : Ending) (w' : World) : Prop :=
  ∃ A cap, e = .returned (.tuple #[.slice A xs.length cap, .int .i64 k]) ∧ Below w.heap.size w w' ∧ xs.length ≤ cap ∧ OwnOk w.heap.size (fun _ => A) ⟨0, true, ty, R.cols.length, cap, .rows α R xs⟩ w'
section
variable {P : Program} {w : World} {f : FuncId} {args : List SV} {L : List Ob} {nx : Nat}
theorem EvCall.rowsE {kp : Bool} {k : SV → List Ob → Nat → Prop} {α : Type} {R : RowS α} {ty : TypeId} {xs : List α} {z : Int} (ent : ∀ args W, (callFunc f args).run P W = .ok (.enter f args) W)
    (h : ∀ ρ W, Hp w ρ L nx W → Con P f (denL ρ args).toArray W (RetRowsE R ty W xs z)) (hk : ∀ cap, xs.length ≤ cap → cap ≤ 9223372036854775807 → k (.t [.s nx R.cols.length xs.length cap, .v (.int .i64 z)]) (⟨nx, true, ty, R.cols.length, cap, .rows α R xs⟩ :: L) (nx + 1)) : EvCall kp P w f args L nx k := by
  refine ⟨ent, fun ρ W hp _ => (h ρ W hp).out.mono fun e W' he => ?_⟩
  obtain ⟨A, cap, he, hb, hc, hok⟩ := he
  have hcm : cap ≤ 9223372036854775807 := by
    rcases hok with ⟨_, _, hx⟩ | ⟨_, _, _, _, _, hx, _⟩
    · simp only at hx; omega
    · simpa [maxLen] using hx
  refine ⟨_, he, fun _ => hb, upd ρ nx A, .t [.s nx R.cols.length xs.length cap, .v (.int .i64 z)], _, nx + 1, by simp [den, denL, upd_same], agree_upd ρ nx A, by omega, by simp [SV.lt, ltL, blt_iff], ?_, hk cap hc hcm⟩
  exact hp.new hb _ A rfl rfl rfl (OwnOk.rename (o := ⟨0, true, ty, R.cols.length, cap, .rows α R xs⟩) (n := nx) rfl (upd_same _ _ _) hok)
theorem EvRet.rowsE {α : Type} {R : RowS α} {ty : TypeId} {xs ys : List α} {z z' : Int} {n len cap : Nat} (hl : len = ys.length) (hc : ys.length ≤ cap) (hxy : xs = ys) (hz : z' = z) (hn : fnd L n = some ⟨n, true, ty, R.cols.length, cap, .rows α R xs⟩) : EvRet w (RetRowsE R ty w ys z) (.t [.s n R.cols.length len cap, .v (.int .i64 z')]) L nx := by
  subst hxy
  subst hl
  subst hz
  obtain ⟨_, l1, l2, hL, _⟩ := fnd_split hn
  refine ⟨fun ρ W hp _ => ⟨ρ n, cap, by simp [den, denL], hp.bel, hc, ?_⟩⟩
  have h1 := hp.obj _ (show (⟨n, true, ty, R.cols.length, cap, .rows α R xs⟩ : Ob) ∈ L by rw [hL]; simp)
  simp only [ObOk, if_true] at h1
  exact OwnOk.rename (o := ⟨n, true, ty, R.cols.length, cap, .rows α R xs⟩) (n := 0) rfl rfl h1
theorem EvRet.rowsE_nil {α : Type} {R : RowS α} {ty : TypeId} {ys : List α} {z z' : Int} (h : ys = []) (hz : z' = z) : EvRet w (RetRowsE R ty w ys z) (.t [.v (.slice none 0 0), .v (.int .i64 z')]) L nx := by
  subst h
  subst hz
  exact ⟨fun ρ W hp _ => ⟨none, 0, rfl, hp.bel, Nat.le_refl _, .inl ⟨rfl, rfl, rfl⟩⟩⟩
end
end Go.Proofs.Ytofekfpbljihiaa
