/- The table of the types (written by a program). -/
import Derived.Test.YtofekfpbljihiaaProg
import Derived.Test.YtofekfpbljihiaaSyC
import Derived.KernelRfl
namespace Go.Proofs.Ytofekfpbljihiaa
open Go.RowKit
def ti3 : TI := { d := (Go.TypeDesc.int Go.IntKind.i64), size := 1, bytes := 8, zero := (Go.Value.int Go.IntKind.i64 0), eqok := false }
def ti32 : TI := { d := (Go.TypeDesc.struct #[{ name := "From", type := 3, offset := 0, embedded := false, tag := "", pkgPath := "", byteOffset := 0 }, { name := "To", type := 3, offset := 1, embedded := false, tag := "", pkgPath := "", byteOffset := 8 }, { name := "Lo", type := 3, offset := 2, embedded := false, tag := "", pkgPath := "", byteOffset := 16 }, { name := "Hi", type := 3, offset := 3, embedded := false, tag := "", pkgPath := "", byteOffset := 24 }]), size := 4, bytes := 32, zero := (Go.Value.agg #[Go.Value.int Go.IntKind.i64 0, Go.Value.int Go.IntKind.i64 0, Go.Value.int Go.IntKind.i64 0, Go.Value.int Go.IntKind.i64 0]), eqok := true }
def ti27 : TI := { d := (Go.TypeDesc.struct #[{ name := "Name", type := 9, offset := 0, embedded := false, tag := "", pkgPath := "", byteOffset := 0 }, { name := "Labels", type := 23, offset := 1, embedded := false, tag := "", pkgPath := "", byteOffset := 16 }, { name := "Unit", type := 25, offset := 2, embedded := false, tag := "", pkgPath := "", byteOffset := 40 }, { name := "Lo", type := 3, offset := 5, embedded := false, tag := "", pkgPath := "", byteOffset := 64 }, { name := "Hi", type := 3, offset := 6, embedded := false, tag := "", pkgPath := "", byteOffset := 72 }, { name := "Down", type := 3, offset := 7, embedded := false, tag := "", pkgPath := "", byteOffset := 80 }, { name := "Up", type := 3, offset := 8, embedded := false, tag := "", pkgPath := "", byteOffset := 88 }, { name := "First", type := 3, offset := 9, embedded := false, tag := "", pkgPath := "", byteOffset := 96 }, { name := "Last", type := 3, offset := 10, embedded := false, tag := "", pkgPath := "", byteOffset := 104 }, { name := "Budget", type := 3, offset := 11, embedded := false, tag := "", pkgPath := "", byteOffset := 112 }]), size := 12, bytes := 120, zero := (Go.Value.agg #[Go.Value.string { data := #[] }, Go.Value.slice none 0 0, Go.Value.int Go.IntKind.i64 0, Go.Value.int Go.IntKind.i64 0, Go.Value.int Go.IntKind.i64 0, Go.Value.int Go.IntKind.i64 0, Go.Value.int Go.IntKind.i64 0, Go.Value.int Go.IntKind.i64 0, Go.Value.int Go.IntKind.i64 0, Go.Value.int Go.IntKind.i64 0, Go.Value.int Go.IntKind.i64 0, Go.Value.int Go.IntKind.i64 0]), eqok := false }
def ti39 : TI := { d := (Go.TypeDesc.slice 32), size := 1, bytes := 24, zero := (Go.Value.slice none 0 0), eqok := false }
def ti22 : TI := { d := (Go.TypeDesc.slice 3), size := 1, bytes := 24, zero := (Go.Value.slice none 0 0), eqok := false }
def ti65 : TI := { d := (Go.TypeDesc.struct #[{ name := "First", type := 3, offset := 0, embedded := false, tag := "", pkgPath := "", byteOffset := 0 }, { name := "Lo", type := 22, offset := 1, embedded := false, tag := "", pkgPath := "", byteOffset := 8 }, { name := "Hi", type := 22, offset := 2, embedded := false, tag := "", pkgPath := "", byteOffset := 32 }]), size := 3, bytes := 56, zero := (Go.Value.agg #[Go.Value.int Go.IntKind.i64 0, Go.Value.slice none 0 0, Go.Value.slice none 0 0]), eqok := false }
def ti33 : TI := { d := (Go.TypeDesc.int Go.IntKind.i64), size := 1, bytes := 8, zero := (Go.Value.int Go.IntKind.i64 0), eqok := false }
def ti23 : TI := { d := (Go.TypeDesc.slice 108), size := 1, bytes := 24, zero := (Go.Value.slice none 0 0), eqok := false }
def ti72 : TI := { d := (Go.TypeDesc.struct #[{ name := "First", type := 3, offset := 0, embedded := false, tag := "", pkgPath := "", byteOffset := 0 }, { name := "Lo", type := 22, offset := 1, embedded := false, tag := "", pkgPath := "", byteOffset := 8 }, { name := "Hi", type := 22, offset := 2, embedded := false, tag := "", pkgPath := "", byteOffset := 32 }]), size := 3, bytes := 56, zero := (Go.Value.agg #[Go.Value.int Go.IntKind.i64 0, Go.Value.slice none 0 0, Go.Value.slice none 0 0]), eqok := false }
def ti9 : TI := { d := Go.TypeDesc.string, size := 1, bytes := 16, zero := (Go.Value.string { data := #[] }), eqok := false }
def ti125 : TI := { d := (Go.TypeDesc.int Go.IntKind.u64), size := 1, bytes := 8, zero := (Go.Value.int Go.IntKind.u64 0), eqok := false }
def ti108 : TI := { d := (Go.TypeDesc.struct #[{ name := "Name", type := 9, offset := 0, embedded := false, tag := "", pkgPath := "", byteOffset := 0 }, { name := "Value", type := 9, offset := 1, embedded := false, tag := "", pkgPath := "", byteOffset := 16 }]), size := 2, bytes := 32, zero := (Go.Value.agg #[Go.Value.string { data := #[] }, Go.Value.string { data := #[] }]), eqok := true }
def ti112 : TI := { d := (Go.TypeDesc.int Go.IntKind.u64), size := 1, bytes := 8, zero := (Go.Value.int Go.IntKind.u64 0), eqok := false }
def ti5 : TI := { d := (Go.TypeDesc.int Go.IntKind.u8), size := 1, bytes := 1, zero := (Go.Value.int Go.IntKind.u8 0), eqok := false }
def ti122 : TI := { d := (Go.TypeDesc.int Go.IntKind.u32), size := 1, bytes := 4, zero := (Go.Value.int Go.IntKind.u32 0), eqok := false }
def ti21 : TI := { d := (Go.TypeDesc.int Go.IntKind.i32), size := 1, bytes := 4, zero := (Go.Value.int Go.IntKind.i32 0), eqok := false }
def ti25 : TI := { d := (Go.TypeDesc.array 3 3), size := 3, bytes := 24, zero := (Go.Value.agg #[Go.Value.int Go.IntKind.i64 0, Go.Value.int Go.IntKind.i64 0, Go.Value.int Go.IntKind.i64 0]), eqok := false }
def ti88 : TI := { d := (Go.TypeDesc.array 2 22), size := 2, bytes := 48, zero := (Go.Value.agg #[Go.Value.slice none 0 0, Go.Value.slice none 0 0]), eqok := false }
def ti95 : TI := { d := (Go.TypeDesc.struct #[{ name := "of", type := 93, offset := 0, embedded := false, tag := "", pkgPath := "intervalmon/claims", byteOffset := 0 }]), size := 1, bytes := 8, zero := (Go.Value.agg #[Go.Value.nilFunc]), eqok := false }
def ti4 : TI := { d := Go.TypeDesc.bool, size := 1, bytes := 1, zero := (Go.Value.bool false), eqok := false }
def ti30 : TI := { d := (Go.TypeDesc.slice 27), size := 1, bytes := 24, zero := (Go.Value.slice none 0 0), eqok := false }
def ti41 : TI := { d := (Go.TypeDesc.slice 39), size := 1, bytes := 24, zero := (Go.Value.slice none 0 0), eqok := false }
def ti96 : TI := { d := (Go.TypeDesc.array 4 95), size := 4, bytes := 32, zero := (Go.Value.agg #[Go.Value.nilFunc, Go.Value.nilFunc, Go.Value.nilFunc, Go.Value.nilFunc]), eqok := false }
def ti53 : TI := { d := (Go.TypeDesc.slice 22), size := 1, bytes := 24, zero := (Go.Value.slice none 0 0), eqok := false }
def ti93 : TI := { d := (Go.TypeDesc.func #[92] #[3] false), size := 1, bytes := 8, zero := Go.Value.nilFunc, eqok := false }
def ti138 : TI := { d := (Go.TypeDesc.int Go.IntKind.u64), size := 1, bytes := 8, zero := (Go.Value.int Go.IntKind.u64 0), eqok := false }
def ti82 : TI := { d := (Go.TypeDesc.slice 9), size := 1, bytes := 24, zero := (Go.Value.slice none 0 0), eqok := false }
def ti129 : TI := { d := (Go.TypeDesc.int Go.IntKind.i64), size := 1, bytes := 8, zero := (Go.Value.int Go.IntKind.i64 0), eqok := false }
theorem tyok3 : TyOk Try.prog 3 ti3 := ⟨Try.underlying3, Try.t3, by kernel_rfl, rfl, rfl, rfl, fun h => by cases h⟩
theorem tyok32 : TyOk Try.prog 32 ti32 := ⟨Try.underlying32, Try.t32, by kernel_rfl, rfl, rfl, rfl, fun _ => ⟨by kernel_rfl, by kernel_rfl, fun fs h => by cases h; decide⟩⟩
theorem tyok27 : TyOk Try.prog 27 ti27 := ⟨Try.underlying27, Try.t27, by kernel_rfl, rfl, rfl, rfl, fun h => by cases h⟩
theorem tyok39 : TyOk Try.prog 39 ti39 := ⟨Try.underlying39, Try.t39, by kernel_rfl, rfl, rfl, rfl, fun h => by cases h⟩
theorem tyok22 : TyOk Try.prog 22 ti22 := ⟨Try.underlying22, Try.t22, by kernel_rfl, rfl, rfl, rfl, fun h => by cases h⟩
theorem tyok65 : TyOk Try.prog 65 ti65 := ⟨Try.underlying65, Try.t65, by kernel_rfl, rfl, rfl, rfl, fun h => by cases h⟩
theorem tyok33 : TyOk Try.prog 33 ti33 := ⟨Try.underlying33, Try.t33, by kernel_rfl, rfl, rfl, rfl, fun h => by cases h⟩
theorem tyok23 : TyOk Try.prog 23 ti23 := ⟨Try.underlying23, Try.t23, by kernel_rfl, rfl, rfl, rfl, fun h => by cases h⟩
theorem tyok72 : TyOk Try.prog 72 ti72 := ⟨Try.underlying72, Try.t72, by kernel_rfl, rfl, rfl, rfl, fun h => by cases h⟩
theorem tyok9 : TyOk Try.prog 9 ti9 := ⟨Try.underlying9, Try.t9, by kernel_rfl, rfl, rfl, rfl, fun h => by cases h⟩
theorem tyok125 : TyOk Try.prog 125 ti125 := ⟨Try.underlying125, Try.t125, by kernel_rfl, rfl, rfl, rfl, fun h => by cases h⟩
theorem tyok108 : TyOk Try.prog 108 ti108 := ⟨Try.underlying108, Try.t108, by kernel_rfl, rfl, rfl, rfl, fun _ => ⟨by kernel_rfl, by kernel_rfl, fun fs h => by cases h; decide⟩⟩
theorem tyok112 : TyOk Try.prog 112 ti112 := ⟨Try.underlying112, Try.t112, by kernel_rfl, rfl, rfl, rfl, fun h => by cases h⟩
theorem tyok5 : TyOk Try.prog 5 ti5 := ⟨Try.underlying5, Try.t5, by kernel_rfl, rfl, rfl, rfl, fun h => by cases h⟩
theorem tyok122 : TyOk Try.prog 122 ti122 := ⟨Try.underlying122, Try.t122, by kernel_rfl, rfl, rfl, rfl, fun h => by cases h⟩
theorem tyok21 : TyOk Try.prog 21 ti21 := ⟨Try.underlying21, Try.t21, by kernel_rfl, rfl, rfl, rfl, fun h => by cases h⟩
theorem tyok25 : TyOk Try.prog 25 ti25 := ⟨Try.underlying25, Try.t25, by kernel_rfl, rfl, rfl, rfl, fun h => by cases h⟩
theorem tyok88 : TyOk Try.prog 88 ti88 := ⟨Try.underlying88, Try.t88, by kernel_rfl, rfl, rfl, rfl, fun h => by cases h⟩
theorem tyok95 : TyOk Try.prog 95 ti95 := ⟨Try.underlying95, Try.t95, by kernel_rfl, rfl, rfl, rfl, fun h => by cases h⟩
theorem tyok4 : TyOk Try.prog 4 ti4 := ⟨Try.underlying4, Try.t4, by kernel_rfl, rfl, rfl, rfl, fun h => by cases h⟩
theorem tyok30 : TyOk Try.prog 30 ti30 := ⟨Try.underlying30, Try.t30, by kernel_rfl, rfl, rfl, rfl, fun h => by cases h⟩
theorem tyok41 : TyOk Try.prog 41 ti41 := ⟨Try.underlying41, Try.t41, by kernel_rfl, rfl, rfl, rfl, fun h => by cases h⟩
theorem tyok96 : TyOk Try.prog 96 ti96 := ⟨Try.underlying96, Try.t96, by kernel_rfl, rfl, rfl, rfl, fun h => by cases h⟩
theorem tyok53 : TyOk Try.prog 53 ti53 := ⟨Try.underlying53, Try.t53, by kernel_rfl, rfl, rfl, rfl, fun h => by cases h⟩
theorem tyok93 : TyOk Try.prog 93 ti93 := ⟨Try.underlying93, Try.t93, by kernel_rfl, rfl, rfl, rfl, fun h => by cases h⟩
theorem tyok138 : TyOk Try.prog 138 ti138 := ⟨Try.underlying138, Try.t138, by kernel_rfl, rfl, rfl, rfl, fun h => by cases h⟩
theorem tyok82 : TyOk Try.prog 82 ti82 := ⟨Try.underlying82, Try.t82, by kernel_rfl, rfl, rfl, rfl, fun h => by cases h⟩
theorem tyok129 : TyOk Try.prog 129 ti129 := ⟨Try.underlying129, Try.t129, by kernel_rfl, rfl, rfl, rfl, fun h => by cases h⟩
def tab : Tab := [(3, ti3), (32, ti32), (27, ti27), (39, ti39), (22, ti22), (65, ti65), (33, ti33), (23, ti23), (72, ti72), (9, ti9), (125, ti125), (108, ti108), (112, ti112), (5, ti5), (122, ti122), (21, ti21), (25, ti25), (88, ti88), (95, ti95), (4, ti4), (30, ti30), (41, ti41), (96, ti96), (53, ti53), (93, ti93), (138, ti138), (82, ti82), (129, ti129)]
theorem tabOk : TabOk Try.prog tab := by
  intro e he
  simp only [tab, List.mem_cons, List.not_mem_nil, or_false] at he
  rcases he with rfl | rfl | rfl | rfl | rfl | rfl | rfl | rfl | rfl | rfl | rfl | rfl | rfl | rfl | rfl | rfl | rfl | rfl | rfl | rfl | rfl | rfl | rfl | rfl | rfl | rfl | rfl | rfl
  · exact tyok3
  · exact tyok32
  · exact tyok27
  · exact tyok39
  · exact tyok22
  · exact tyok65
  · exact tyok33
  · exact tyok23
  · exact tyok72
  · exact tyok9
  · exact tyok125
  · exact tyok108
  · exact tyok112
  · exact tyok5
  · exact tyok122
  · exact tyok21
  · exact tyok25
  · exact tyok88
  · exact tyok95
  · exact tyok4
  · exact tyok30
  · exact tyok41
  · exact tyok96
  · exact tyok53
  · exact tyok93
  · exact tyok138
  · exact tyok82
  · exact tyok129
theorem mixed : Try.prog.follows .mixedOrders = true := by kernel_rfl
end Go.Proofs.Ytofekfpbljihiaa
