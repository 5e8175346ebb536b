/- The table of the types (written by a program). -/
import Derived.Test.YtebfhljamoapjaaDoorProg
import Derived.Test.YtebfhljamoapjaaDoorSyC
import Derived.KernelRfl
namespace Go.Proofs.YtebfhljamoapjaaDoor
open Go.RowKit
def ti3 : TI := { d := (Go.TypeDesc.int Go.IntKind.i64), size := 1, bytes := 8, zero := (Go.Value.int Go.IntKind.i64 0), eqok := false }
def ti25 : TI := { d := (Go.TypeDesc.slice 42), size := 1, bytes := 24, zero := (Go.Value.slice none 0 0), eqok := false }
def ti42 : TI := { d := (Go.TypeDesc.struct #[{ name := "Name", type := 9, offset := 0, embedded := false, tag := "", pkgPath := "", byteOffset := 0 }, { name := "Value", type := 9, offset := 1, embedded := false, tag := "", pkgPath := "", byteOffset := 16 }]), size := 2, bytes := 32, zero := (Go.Value.agg #[Go.Value.string { data := #[] }, Go.Value.string { data := #[] }]), eqok := true }
def ti9 : TI := { d := Go.TypeDesc.string, size := 1, bytes := 16, zero := (Go.Value.string { data := #[] }), eqok := false }
def ti37 : TI := { d := (Go.TypeDesc.int Go.IntKind.u64), size := 1, bytes := 8, zero := (Go.Value.int Go.IntKind.u64 0), eqok := false }
def ti5 : TI := { d := (Go.TypeDesc.int Go.IntKind.u8), size := 1, bytes := 1, zero := (Go.Value.int Go.IntKind.u8 0), eqok := false }
def ti43 : TI := { d := (Go.TypeDesc.slice 9), size := 1, bytes := 24, zero := (Go.Value.slice none 0 0), eqok := false }
def ti22 : TI := { d := (Go.TypeDesc.slice 3), size := 1, bytes := 24, zero := (Go.Value.slice none 0 0), eqok := false }
def ti39 : TI := { d := (Go.TypeDesc.slice 5), size := 1, bytes := 24, zero := (Go.Value.slice none 0 0), eqok := false }
def ti21 : TI := { d := (Go.TypeDesc.int Go.IntKind.i32), size := 1, bytes := 4, zero := (Go.Value.int Go.IntKind.i32 0), eqok := false }
def ti72 : TI := { d := (Go.TypeDesc.int Go.IntKind.u64), size := 1, bytes := 8, zero := (Go.Value.int Go.IntKind.u64 0), eqok := false }
def ti32 : TI := { d := (Go.TypeDesc.int Go.IntKind.i64), size := 1, bytes := 8, zero := (Go.Value.int Go.IntKind.i64 0), eqok := false }
def ti87 : TI := { d := (Go.TypeDesc.int Go.IntKind.u32), size := 1, bytes := 4, zero := (Go.Value.int Go.IntKind.u32 0), eqok := false }
def ti93 : TI := { d := (Go.TypeDesc.int Go.IntKind.u64), size := 1, bytes := 8, zero := (Go.Value.int Go.IntKind.u64 0), eqok := false }
def ti58 : TI := { d := (Go.TypeDesc.struct #[{ name := "addr", type := 56, offset := 0, embedded := false, tag := "", pkgPath := "strings", byteOffset := 0 }, { name := "buf", type := 39, offset := 1, embedded := false, tag := "", pkgPath := "strings", byteOffset := 8 }]), size := 2, bytes := 32, zero := (Go.Value.agg #[Go.Value.pointer none, Go.Value.slice none 0 0]), eqok := false }
def ti79 : TI := { d := (Go.TypeDesc.int Go.IntKind.i64), size := 1, bytes := 8, zero := (Go.Value.int Go.IntKind.i64 0), eqok := false }
def ti4 : TI := { d := Go.TypeDesc.bool, size := 1, bytes := 1, zero := (Go.Value.bool false), eqok := false }
def ti56 : TI := { d := (Go.TypeDesc.pointer 58), size := 1, bytes := 8, zero := (Go.Value.pointer none), eqok := false }
theorem tyok3 : TyOk Tryd.prog 3 ti3 := ⟨Tryd.underlying3, Tryd.t3, by kernel_rfl, rfl, rfl, rfl, fun h => by cases h⟩
theorem tyok25 : TyOk Tryd.prog 25 ti25 := ⟨Tryd.underlying25, Tryd.t25, by kernel_rfl, rfl, rfl, rfl, fun h => by cases h⟩
theorem tyok42 : TyOk Tryd.prog 42 ti42 := ⟨Tryd.underlying42, Tryd.t42, by kernel_rfl, rfl, rfl, rfl, fun _ => ⟨by kernel_rfl, by kernel_rfl, fun fs h => by cases h; decide⟩⟩
theorem tyok9 : TyOk Tryd.prog 9 ti9 := ⟨Tryd.underlying9, Tryd.t9, by kernel_rfl, rfl, rfl, rfl, fun h => by cases h⟩
theorem tyok37 : TyOk Tryd.prog 37 ti37 := ⟨Tryd.underlying37, Tryd.t37, by kernel_rfl, rfl, rfl, rfl, fun h => by cases h⟩
theorem tyok5 : TyOk Tryd.prog 5 ti5 := ⟨Tryd.underlying5, Tryd.t5, by kernel_rfl, rfl, rfl, rfl, fun h => by cases h⟩
theorem tyok43 : TyOk Tryd.prog 43 ti43 := ⟨Tryd.underlying43, Tryd.t43, by kernel_rfl, rfl, rfl, rfl, fun h => by cases h⟩
theorem tyok22 : TyOk Tryd.prog 22 ti22 := ⟨Tryd.underlying22, Tryd.t22, by kernel_rfl, rfl, rfl, rfl, fun h => by cases h⟩
theorem tyok39 : TyOk Tryd.prog 39 ti39 := ⟨Tryd.underlying39, Tryd.t39, by kernel_rfl, rfl, rfl, rfl, fun h => by cases h⟩
theorem tyok21 : TyOk Tryd.prog 21 ti21 := ⟨Tryd.underlying21, Tryd.t21, by kernel_rfl, rfl, rfl, rfl, fun h => by cases h⟩
theorem tyok72 : TyOk Tryd.prog 72 ti72 := ⟨Tryd.underlying72, Tryd.t72, by kernel_rfl, rfl, rfl, rfl, fun h => by cases h⟩
theorem tyok32 : TyOk Tryd.prog 32 ti32 := ⟨Tryd.underlying32, Tryd.t32, by kernel_rfl, rfl, rfl, rfl, fun h => by cases h⟩
theorem tyok87 : TyOk Tryd.prog 87 ti87 := ⟨Tryd.underlying87, Tryd.t87, by kernel_rfl, rfl, rfl, rfl, fun h => by cases h⟩
theorem tyok93 : TyOk Tryd.prog 93 ti93 := ⟨Tryd.underlying93, Tryd.t93, by kernel_rfl, rfl, rfl, rfl, fun h => by cases h⟩
theorem tyok58 : TyOk Tryd.prog 58 ti58 := ⟨Tryd.underlying58, Tryd.t58, by kernel_rfl, rfl, rfl, rfl, fun h => by cases h⟩
theorem tyok79 : TyOk Tryd.prog 79 ti79 := ⟨Tryd.underlying79, Tryd.t79, by kernel_rfl, rfl, rfl, rfl, fun h => by cases h⟩
theorem tyok4 : TyOk Tryd.prog 4 ti4 := ⟨Tryd.underlying4, Tryd.t4, by kernel_rfl, rfl, rfl, rfl, fun h => by cases h⟩
theorem tyok56 : TyOk Tryd.prog 56 ti56 := ⟨Tryd.underlying56, Tryd.t56, by kernel_rfl, rfl, rfl, rfl, fun h => by cases h⟩
def tab : Tab := [(3, ti3), (25, ti25), (42, ti42), (9, ti9), (37, ti37), (5, ti5), (43, ti43), (22, ti22), (39, ti39), (21, ti21), (72, ti72), (32, ti32), (87, ti87), (93, ti93), (58, ti58), (79, ti79), (4, ti4), (56, ti56)]
theorem tabOk : TabOk Tryd.prog tab := by
  intro e he
  simp only [tab, List.mem_cons, List.not_mem_nil, or_false] at he
  rcases he with rfl | rfl | rfl | rfl | rfl | rfl | rfl | rfl | rfl | rfl | rfl | rfl | rfl | rfl | rfl | rfl | rfl | rfl
  · exact tyok3
  · exact tyok25
  · exact tyok42
  · exact tyok9
  · exact tyok37
  · exact tyok5
  · exact tyok43
  · exact tyok22
  · exact tyok39
  · exact tyok21
  · exact tyok72
  · exact tyok32
  · exact tyok87
  · exact tyok93
  · exact tyok58
  · exact tyok79
  · exact tyok4
  · exact tyok56
/-- The table for code whose sums may wrap. -/
def tabW : Tab := (3, ti3) :: tab
theorem tabOkW : TabOk Tryd.prog tabW := by
  intro e he
  rcases List.mem_cons.1 he with rfl | h
  · exact tyok3
  · exact tabOk e h
theorem mixed : Tryd.prog.follows .mixedOrders = true := by kernel_rfl
end Go.Proofs.YtebfhljamoapjaaDoor
