/- The table of the types (written by a program). -/
import Derived.Test.YthknflclfmnciaaProg
import Derived.Test.YthknflclfmnciaaSyC
import Derived.KernelRfl
namespace Go.Proofs.Ythknflclfmnciaa
open Go.RowKit
def ti25 : TI := { d := (Go.TypeDesc.struct #[{ name := "Num", type := 3, offset := 0, embedded := false, tag := "", pkgPath := "", byteOffset := 0 }, { name := "Den", type := 3, offset := 1, embedded := false, tag := "", pkgPath := "", byteOffset := 8 }]), size := 2, bytes := 16, zero := (Go.Value.agg #[Go.Value.int Go.IntKind.i64 0, Go.Value.int Go.IntKind.i64 0]), eqok := true }
def ti27 : TI := { d := (Go.TypeDesc.struct #[{ name := "Lo", type := 25, offset := 0, embedded := false, tag := "", pkgPath := "", byteOffset := 0 }, { name := "Hi", type := 25, offset := 2, embedded := false, tag := "", pkgPath := "", byteOffset := 16 }]), size := 4, bytes := 32, zero := (Go.Value.agg #[Go.Value.int Go.IntKind.i64 0, Go.Value.int Go.IntKind.i64 0, Go.Value.int Go.IntKind.i64 0, Go.Value.int Go.IntKind.i64 0]), eqok := true }
def ti3 : TI := { d := (Go.TypeDesc.int Go.IntKind.i64), size := 1, bytes := 8, zero := (Go.Value.int Go.IntKind.i64 0), eqok := false }
def ti50 : TI := { d := (Go.TypeDesc.int Go.IntKind.u64), size := 1, bytes := 8, zero := (Go.Value.int Go.IntKind.u64 0), eqok := false }
def ti49 : TI := { d := (Go.TypeDesc.slice 25), size := 1, bytes := 24, zero := (Go.Value.slice none 0 0), eqok := false }
def ti83 : TI := { d := (Go.TypeDesc.array 8 50), size := 8, bytes := 64, zero := (Go.Value.agg #[Go.Value.int Go.IntKind.u64 0, Go.Value.int Go.IntKind.u64 0, Go.Value.int Go.IntKind.u64 0, Go.Value.int Go.IntKind.u64 0, Go.Value.int Go.IntKind.u64 0, Go.Value.int Go.IntKind.u64 0, Go.Value.int Go.IntKind.u64 0, Go.Value.int Go.IntKind.u64 0]), eqok := true }
def ti71 : TI := { d := (Go.TypeDesc.struct #[{ name := "hi", type := 50, offset := 0, embedded := false, tag := "", pkgPath := "intervalmon/frac", byteOffset := 0 }, { name := "lo", type := 50, offset := 1, embedded := false, tag := "", pkgPath := "intervalmon/frac", byteOffset := 8 }, { name := "neg", type := 4, offset := 2, embedded := false, tag := "", pkgPath := "intervalmon/frac", byteOffset := 16 }]), size := 3, bytes := 24, zero := (Go.Value.agg #[Go.Value.int Go.IntKind.u64 0, Go.Value.int Go.IntKind.u64 0, Go.Value.bool false]), eqok := true }
def ti22 : TI := { d := (Go.TypeDesc.slice 27), size := 1, bytes := 24, zero := (Go.Value.slice none 0 0), eqok := false }
def ti28 : TI := { d := (Go.TypeDesc.int Go.IntKind.i64), size := 1, bytes := 8, zero := (Go.Value.int Go.IntKind.i64 0), eqok := false }
def ti4 : TI := { d := Go.TypeDesc.bool, size := 1, bytes := 1, zero := (Go.Value.bool false), eqok := false }
def ti33 : TI := { d := (Go.TypeDesc.array 6 3), size := 6, bytes := 48, zero := (Go.Value.agg #[Go.Value.int Go.IntKind.i64 0, Go.Value.int Go.IntKind.i64 0, Go.Value.int Go.IntKind.i64 0, Go.Value.int Go.IntKind.i64 0, Go.Value.int Go.IntKind.i64 0, Go.Value.int Go.IntKind.i64 0]), eqok := true }
def ti48 : TI := { d := (Go.TypeDesc.slice 50), size := 1, bytes := 24, zero := (Go.Value.slice none 0 0), eqok := false }
def ti80 : TI := { d := (Go.TypeDesc.int Go.IntKind.u64), size := 1, bytes := 8, zero := (Go.Value.int Go.IntKind.u64 0), eqok := false }
def ti9 : TI := { d := Go.TypeDesc.string, size := 1, bytes := 16, zero := (Go.Value.string { data := #[] }), eqok := false }
def ti65 : TI := { d := (Go.TypeDesc.array 8 3), size := 8, bytes := 64, zero := (Go.Value.agg #[Go.Value.int Go.IntKind.i64 0, Go.Value.int Go.IntKind.i64 0, Go.Value.int Go.IntKind.i64 0, Go.Value.int Go.IntKind.i64 0, Go.Value.int Go.IntKind.i64 0, Go.Value.int Go.IntKind.i64 0, Go.Value.int Go.IntKind.i64 0, Go.Value.int Go.IntKind.i64 0]), eqok := true }
def ti46 : TI := { d := (Go.TypeDesc.slice 3), size := 1, bytes := 24, zero := (Go.Value.slice none 0 0), eqok := false }
def ti103 : TI := { d := (Go.TypeDesc.int Go.IntKind.u32), size := 1, bytes := 4, zero := (Go.Value.int Go.IntKind.u32 0), eqok := false }
def ti105 : TI := { d := (Go.TypeDesc.array 4 25), size := 8, bytes := 64, zero := (Go.Value.agg #[Go.Value.int Go.IntKind.i64 0, Go.Value.int Go.IntKind.i64 0, Go.Value.int Go.IntKind.i64 0, Go.Value.int Go.IntKind.i64 0, Go.Value.int Go.IntKind.i64 0, Go.Value.int Go.IntKind.i64 0, Go.Value.int Go.IntKind.i64 0, Go.Value.int Go.IntKind.i64 0]), eqok := true }
def ti62 : TI := { d := (Go.TypeDesc.array 4 3), size := 4, bytes := 32, zero := (Go.Value.agg #[Go.Value.int Go.IntKind.i64 0, Go.Value.int Go.IntKind.i64 0, Go.Value.int Go.IntKind.i64 0, Go.Value.int Go.IntKind.i64 0]), eqok := true }
def ti5 : TI := { d := (Go.TypeDesc.int Go.IntKind.u8), size := 1, bytes := 1, zero := (Go.Value.int Go.IntKind.u8 0), eqok := false }
def ti110 : TI := { d := (Go.TypeDesc.int Go.IntKind.u64), size := 1, bytes := 8, zero := (Go.Value.int Go.IntKind.u64 0), eqok := false }
def ti95 : TI := { d := (Go.TypeDesc.int Go.IntKind.i64), size := 1, bytes := 8, zero := (Go.Value.int Go.IntKind.i64 0), eqok := false }
def ti118 : TI := { d := (Go.TypeDesc.interface #[("Error", 123)]), size := 1, bytes := 16, zero := Go.Value.nilIface, eqok := false }
theorem tyok25 : TyOk Try.prog 25 ti25 := ⟨Try.underlying25, Try.t25, by kernel_rfl, rfl, rfl, rfl, fun _ => ⟨by kernel_rfl, by kernel_rfl, fun fs h => by cases h; decide⟩⟩
theorem tyok27 : TyOk Try.prog 27 ti27 := ⟨Try.underlying27, Try.t27, by kernel_rfl, rfl, rfl, rfl, fun _ => ⟨by kernel_rfl, by kernel_rfl, fun fs h => by cases h; decide⟩⟩
theorem tyok3 : TyOk Try.prog 3 ti3 := ⟨Try.underlying3, Try.t3, by kernel_rfl, rfl, rfl, rfl, fun h => by cases h⟩
theorem tyok50 : TyOk Try.prog 50 ti50 := ⟨Try.underlying50, Try.t50, by kernel_rfl, rfl, rfl, rfl, fun h => by cases h⟩
theorem tyok49 : TyOk Try.prog 49 ti49 := ⟨Try.underlying49, Try.t49, by kernel_rfl, rfl, rfl, rfl, fun h => by cases h⟩
theorem tyok83 : TyOk Try.prog 83 ti83 := ⟨Try.underlying83, Try.t83, by kernel_rfl, rfl, rfl, rfl, fun _ => ⟨by kernel_rfl, by kernel_rfl, fun fs h => by cases h⟩⟩
theorem tyok71 : TyOk Try.prog 71 ti71 := ⟨Try.underlying71, Try.t71, by kernel_rfl, rfl, rfl, rfl, fun _ => ⟨by kernel_rfl, by kernel_rfl, fun fs h => by cases h; decide⟩⟩
theorem tyok22 : TyOk Try.prog 22 ti22 := ⟨Try.underlying22, Try.t22, by kernel_rfl, rfl, rfl, rfl, fun h => by cases h⟩
theorem tyok28 : TyOk Try.prog 28 ti28 := ⟨Try.underlying28, Try.t28, by kernel_rfl, rfl, rfl, rfl, fun h => by cases h⟩
theorem tyok4 : TyOk Try.prog 4 ti4 := ⟨Try.underlying4, Try.t4, by kernel_rfl, rfl, rfl, rfl, fun h => by cases h⟩
theorem tyok33 : TyOk Try.prog 33 ti33 := ⟨Try.underlying33, Try.t33, by kernel_rfl, rfl, rfl, rfl, fun _ => ⟨by kernel_rfl, by kernel_rfl, fun fs h => by cases h⟩⟩
theorem tyok48 : TyOk Try.prog 48 ti48 := ⟨Try.underlying48, Try.t48, by kernel_rfl, rfl, rfl, rfl, fun h => by cases h⟩
theorem tyok80 : TyOk Try.prog 80 ti80 := ⟨Try.underlying80, Try.t80, by kernel_rfl, rfl, rfl, rfl, fun h => by cases h⟩
theorem tyok9 : TyOk Try.prog 9 ti9 := ⟨Try.underlying9, Try.t9, by kernel_rfl, rfl, rfl, rfl, fun h => by cases h⟩
theorem tyok65 : TyOk Try.prog 65 ti65 := ⟨Try.underlying65, Try.t65, by kernel_rfl, rfl, rfl, rfl, fun _ => ⟨by kernel_rfl, by kernel_rfl, fun fs h => by cases h⟩⟩
theorem tyok46 : TyOk Try.prog 46 ti46 := ⟨Try.underlying46, Try.t46, by kernel_rfl, rfl, rfl, rfl, fun h => by cases h⟩
theorem tyok103 : TyOk Try.prog 103 ti103 := ⟨Try.underlying103, Try.t103, by kernel_rfl, rfl, rfl, rfl, fun h => by cases h⟩
theorem tyok105 : TyOk Try.prog 105 ti105 := ⟨Try.underlying105, Try.t105, by kernel_rfl, rfl, rfl, rfl, fun _ => ⟨by kernel_rfl, by kernel_rfl, fun fs h => by cases h⟩⟩
theorem tyok62 : TyOk Try.prog 62 ti62 := ⟨Try.underlying62, Try.t62, by kernel_rfl, rfl, rfl, rfl, fun _ => ⟨by kernel_rfl, by kernel_rfl, fun fs h => by cases h⟩⟩
theorem tyok5 : TyOk Try.prog 5 ti5 := ⟨Try.underlying5, Try.t5, by kernel_rfl, rfl, rfl, rfl, fun h => by cases h⟩
theorem tyok110 : TyOk Try.prog 110 ti110 := ⟨Try.underlying110, Try.t110, by kernel_rfl, rfl, rfl, rfl, fun h => by cases h⟩
theorem tyok95 : TyOk Try.prog 95 ti95 := ⟨Try.underlying95, Try.t95, by kernel_rfl, rfl, rfl, rfl, fun h => by cases h⟩
theorem tyok118 : TyOk Try.prog 118 ti118 := ⟨Try.underlying118, Try.t118, by kernel_rfl, rfl, rfl, rfl, fun h => by cases h⟩
def tab : Tab := [(25, ti25), (27, ti27), (3, ti3), (50, ti50), (49, ti49), (83, ti83), (71, ti71), (22, ti22), (28, ti28), (4, ti4), (33, ti33), (48, ti48), (80, ti80), (9, ti9), (65, ti65), (46, ti46), (103, ti103), (105, ti105), (62, ti62), (5, ti5), (110, ti110), (95, ti95), (118, ti118)]
theorem tabOk : TabOk Try.prog tab := by
  intro e he
  simp only [tab, List.mem_cons, List.not_mem_nil, or_false] at he
  rcases he with rfl | rfl | rfl | rfl | rfl | rfl | rfl | rfl | rfl | rfl | rfl | rfl | rfl | rfl | rfl | rfl | rfl | rfl | rfl | rfl | rfl | rfl | rfl
  · exact tyok25
  · exact tyok27
  · exact tyok3
  · exact tyok50
  · exact tyok49
  · exact tyok83
  · exact tyok71
  · exact tyok22
  · exact tyok28
  · exact tyok4
  · exact tyok33
  · exact tyok48
  · exact tyok80
  · exact tyok9
  · exact tyok65
  · exact tyok46
  · exact tyok103
  · exact tyok105
  · exact tyok62
  · exact tyok5
  · exact tyok110
  · exact tyok95
  · exact tyok118
/-- The table for code whose sums may wrap. -/
def tabW : Tab := (25, ti25) :: tab
theorem tabOkW : TabOk Try.prog tabW := by
  intro e he
  rcases List.mem_cons.1 he with rfl | h
  · exact tyok25
  · exact tabOk e h
theorem mixed : Try.prog.follows .mixedOrders = true := by kernel_rfl
end Go.Proofs.Ythknflclfmnciaa
