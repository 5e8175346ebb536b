/- The table of the types (written by a program). -/
import Derived.Test.YtebfhljamoapjaaProg
import Derived.Test.YtebfhljamoapjaaSyC
import Derived.KernelRfl
namespace Go.Proofs.Ytebfhljamoapjaa
open Go.RowKit
def ti3 : TI := { d := (Go.TypeDesc.int Go.IntKind.i64), size := 1, bytes := 8, zero := (Go.Value.int Go.IntKind.i64 0), eqok := false }
def ti60 : TI := { d := (Go.TypeDesc.slice 62), size := 1, bytes := 24, zero := (Go.Value.slice none 0 0), eqok := false }
def ti62 : TI := { d := (Go.TypeDesc.struct #[{ name := "Name", type := 9, offset := 0, embedded := false, tag := "", pkgPath := "", byteOffset := 0 }, { name := "Value", type := 9, offset := 1, embedded := false, tag := "", pkgPath := "", byteOffset := 16 }]), size := 2, bytes := 32, zero := (Go.Value.agg #[Go.Value.string { data := #[] }, Go.Value.string { data := #[] }]), eqok := true }
def ti9 : TI := { d := Go.TypeDesc.string, size := 1, bytes := 16, zero := (Go.Value.string { data := #[] }), eqok := false }
def ti56 : TI := { d := (Go.TypeDesc.struct #[{ name := "Name", type := 9, offset := 0, embedded := false, tag := "", pkgPath := "", byteOffset := 0 }, { name := "Kind", type := 3, offset := 1, embedded := false, tag := "", pkgPath := "", byteOffset := 16 }, { name := "Value", type := 9, offset := 2, embedded := false, tag := "", pkgPath := "", byteOffset := 24 }]), size := 3, bytes := 40, zero := (Go.Value.agg #[Go.Value.string { data := #[] }, Go.Value.int Go.IntKind.i64 0, Go.Value.string { data := #[] }]), eqok := true }
def ti29 : TI := { d := (Go.TypeDesc.slice 5), size := 1, bytes := 24, zero := (Go.Value.slice none 0 0), eqok := false }
def ti25 : TI := { d := (Go.TypeDesc.struct #[{ name := "Budget", type := 3, offset := 0, embedded := false, tag := "", pkgPath := "", byteOffset := 0 }, { name := "Entries", type := 23, offset := 1, embedded := false, tag := "", pkgPath := "", byteOffset := 8 }]), size := 2, bytes := 32, zero := (Go.Value.agg #[Go.Value.int Go.IntKind.i64 0, Go.Value.slice none 0 0]), eqok := false }
def ti74 : TI := { d := (Go.TypeDesc.slice 9), size := 1, bytes := 24, zero := (Go.Value.slice none 0 0), eqok := false }
def ti37 : TI := { d := (Go.TypeDesc.int Go.IntKind.i64), size := 1, bytes := 8, zero := (Go.Value.int Go.IntKind.i64 0), eqok := false }
def ti5 : TI := { d := (Go.TypeDesc.int Go.IntKind.u8), size := 1, bytes := 1, zero := (Go.Value.int Go.IntKind.u8 0), eqok := false }
def ti23 : TI := { d := (Go.TypeDesc.slice 35), size := 1, bytes := 24, zero := (Go.Value.slice none 0 0), eqok := false }
def ti88 : TI := { d := (Go.TypeDesc.int Go.IntKind.u64), size := 1, bytes := 8, zero := (Go.Value.int Go.IntKind.u64 0), eqok := false }
def ti42 : TI := { d := (Go.TypeDesc.slice 92), size := 1, bytes := 24, zero := (Go.Value.slice none 0 0), eqok := false }
def ti78 : TI := { d := (Go.TypeDesc.slice 56), size := 1, bytes := 24, zero := (Go.Value.slice none 0 0), eqok := false }
def ti119 : TI := { d := (Go.TypeDesc.struct #[{ name := "b", type := 29, offset := 0, embedded := false, tag := "", pkgPath := "intervalmon/wire", byteOffset := 0 }, { name := "at", type := 3, offset := 1, embedded := false, tag := "", pkgPath := "intervalmon/wire", byteOffset := 24 }, { name := "err", type := 37, offset := 2, embedded := false, tag := "", pkgPath := "intervalmon/wire", byteOffset := 32 }]), size := 3, bytes := 40, zero := (Go.Value.agg #[Go.Value.slice none 0 0, Go.Value.int Go.IntKind.i64 0, Go.Value.int Go.IntKind.i64 0]), eqok := false }
def ti91 : TI := { d := (Go.TypeDesc.struct #[{ name := "budget", type := 3, offset := 0, embedded := false, tag := "", pkgPath := "intervalmon/budget", byteOffset := 0 }, { name := "spent", type := 3, offset := 1, embedded := false, tag := "", pkgPath := "intervalmon/budget", byteOffset := 8 }, { name := "entries", type := 42, offset := 2, embedded := false, tag := "", pkgPath := "intervalmon/budget", byteOffset := 16 }]), size := 3, bytes := 40, zero := (Go.Value.agg #[Go.Value.int Go.IntKind.i64 0, Go.Value.int Go.IntKind.i64 0, Go.Value.slice none 0 0]), eqok := false }
def ti4 : TI := { d := Go.TypeDesc.bool, size := 1, bytes := 1, zero := (Go.Value.bool false), eqok := false }
def ti21 : TI := { d := (Go.TypeDesc.int Go.IntKind.i32), size := 1, bytes := 4, zero := (Go.Value.int Go.IntKind.i32 0), eqok := false }
def ti92 : TI := { d := (Go.TypeDesc.struct #[{ name := "Step", type := 9, offset := 0, embedded := false, tag := "", pkgPath := "", byteOffset := 0 }, { name := "Cost", type := 3, offset := 1, embedded := false, tag := "", pkgPath := "", byteOffset := 16 }]), size := 2, bytes := 24, zero := (Go.Value.agg #[Go.Value.string { data := #[] }, Go.Value.int Go.IntKind.i64 0]), eqok := true }
def ti31 : TI := { d := (Go.TypeDesc.struct #[{ name := "b", type := 29, offset := 0, embedded := false, tag := "", pkgPath := "intervalmon/wire", byteOffset := 0 }]), size := 1, bytes := 24, zero := (Go.Value.agg #[Go.Value.slice none 0 0]), eqok := false }
def ti35 : TI := { d := (Go.TypeDesc.struct #[{ name := "Step", type := 9, offset := 0, embedded := false, tag := "", pkgPath := "", byteOffset := 0 }, { name := "Cost", type := 3, offset := 1, embedded := false, tag := "", pkgPath := "", byteOffset := 16 }]), size := 2, bytes := 24, zero := (Go.Value.agg #[Go.Value.string { data := #[] }, Go.Value.int Go.IntKind.i64 0]), eqok := true }
def ti89 : TI := { d := (Go.TypeDesc.int Go.IntKind.u64), size := 1, bytes := 8, zero := (Go.Value.int Go.IntKind.u64 0), eqok := false }
def ti27 : TI := { d := (Go.TypeDesc.pointer 91), size := 1, bytes := 8, zero := (Go.Value.pointer none), eqok := false }
def ti137 : TI := { d := (Go.TypeDesc.int Go.IntKind.u32), size := 1, bytes := 4, zero := (Go.Value.int Go.IntKind.u32 0), eqok := false }
def ti22 : TI := { d := (Go.TypeDesc.slice 3), size := 1, bytes := 24, zero := (Go.Value.slice none 0 0), eqok := false }
def ti51 : TI := { d := (Go.TypeDesc.slice 29), size := 1, bytes := 24, zero := (Go.Value.slice none 0 0), eqok := false }
def ti139 : TI := { d := (Go.TypeDesc.int Go.IntKind.u64), size := 1, bytes := 8, zero := (Go.Value.int Go.IntKind.u64 0), eqok := false }
def ti104 : TI := { d := (Go.TypeDesc.struct #[{ name := "addr", type := 102, offset := 0, embedded := false, tag := "", pkgPath := "strings", byteOffset := 0 }, { name := "buf", type := 29, offset := 1, embedded := false, tag := "", pkgPath := "strings", byteOffset := 8 }]), size := 2, bytes := 32, zero := (Go.Value.agg #[Go.Value.pointer none, Go.Value.slice none 0 0]), eqok := false }
def ti129 : TI := { d := (Go.TypeDesc.int Go.IntKind.i64), size := 1, bytes := 8, zero := (Go.Value.int Go.IntKind.i64 0), eqok := false }
def ti102 : TI := { d := (Go.TypeDesc.pointer 104), size := 1, bytes := 8, zero := (Go.Value.pointer none), eqok := false }
theorem tyok3 : TyOk Try.prog 3 ti3 := ⟨Try.underlying3, Try.t3, by kernel_rfl, rfl, rfl, rfl, fun h => by cases h⟩
theorem tyok60 : TyOk Try.prog 60 ti60 := ⟨Try.underlying60, Try.t60, by kernel_rfl, rfl, rfl, rfl, fun h => by cases h⟩
theorem tyok62 : TyOk Try.prog 62 ti62 := ⟨Try.underlying62, Try.t62, by kernel_rfl, rfl, rfl, rfl, fun _ => ⟨by kernel_rfl, by kernel_rfl, fun fs h => by cases h; decide⟩⟩
theorem tyok9 : TyOk Try.prog 9 ti9 := ⟨Try.underlying9, Try.t9, by kernel_rfl, rfl, rfl, rfl, fun h => by cases h⟩
theorem tyok56 : TyOk Try.prog 56 ti56 := ⟨Try.underlying56, Try.t56, by kernel_rfl, rfl, rfl, rfl, fun _ => ⟨by kernel_rfl, by kernel_rfl, fun fs h => by cases h; decide⟩⟩
theorem tyok29 : TyOk Try.prog 29 ti29 := ⟨Try.underlying29, Try.t29, by kernel_rfl, rfl, rfl, rfl, fun h => by cases h⟩
theorem tyok25 : TyOk Try.prog 25 ti25 := ⟨Try.underlying25, Try.t25, by kernel_rfl, rfl, rfl, rfl, fun h => by cases h⟩
theorem tyok74 : TyOk Try.prog 74 ti74 := ⟨Try.underlying74, Try.t74, by kernel_rfl, rfl, rfl, rfl, fun h => by cases h⟩
theorem tyok37 : TyOk Try.prog 37 ti37 := ⟨Try.underlying37, Try.t37, by kernel_rfl, rfl, rfl, rfl, fun h => by cases h⟩
theorem tyok5 : TyOk Try.prog 5 ti5 := ⟨Try.underlying5, Try.t5, by kernel_rfl, rfl, rfl, rfl, fun h => by cases h⟩
theorem tyok23 : TyOk Try.prog 23 ti23 := ⟨Try.underlying23, Try.t23, by kernel_rfl, rfl, rfl, rfl, fun h => by cases h⟩
theorem tyok88 : TyOk Try.prog 88 ti88 := ⟨Try.underlying88, Try.t88, by kernel_rfl, rfl, rfl, rfl, fun h => by cases h⟩
theorem tyok42 : TyOk Try.prog 42 ti42 := ⟨Try.underlying42, Try.t42, by kernel_rfl, rfl, rfl, rfl, fun h => by cases h⟩
theorem tyok78 : TyOk Try.prog 78 ti78 := ⟨Try.underlying78, Try.t78, by kernel_rfl, rfl, rfl, rfl, fun h => by cases h⟩
theorem tyok119 : TyOk Try.prog 119 ti119 := ⟨Try.underlying119, Try.t119, by kernel_rfl, rfl, rfl, rfl, fun h => by cases h⟩
theorem tyok91 : TyOk Try.prog 91 ti91 := ⟨Try.underlying91, Try.t91, by kernel_rfl, rfl, rfl, rfl, fun h => by cases h⟩
theorem tyok4 : TyOk Try.prog 4 ti4 := ⟨Try.underlying4, Try.t4, by kernel_rfl, rfl, rfl, rfl, fun h => by cases h⟩
theorem tyok21 : TyOk Try.prog 21 ti21 := ⟨Try.underlying21, Try.t21, by kernel_rfl, rfl, rfl, rfl, fun h => by cases h⟩
theorem tyok92 : TyOk Try.prog 92 ti92 := ⟨Try.underlying92, Try.t92, by kernel_rfl, rfl, rfl, rfl, fun _ => ⟨by kernel_rfl, by kernel_rfl, fun fs h => by cases h; decide⟩⟩
theorem tyok31 : TyOk Try.prog 31 ti31 := ⟨Try.underlying31, Try.t31, by kernel_rfl, rfl, rfl, rfl, fun h => by cases h⟩
theorem tyok35 : TyOk Try.prog 35 ti35 := ⟨Try.underlying35, Try.t35, by kernel_rfl, rfl, rfl, rfl, fun _ => ⟨by kernel_rfl, by kernel_rfl, fun fs h => by cases h; decide⟩⟩
theorem tyok89 : TyOk Try.prog 89 ti89 := ⟨Try.underlying89, Try.t89, by kernel_rfl, rfl, rfl, rfl, fun h => by cases h⟩
theorem tyok27 : TyOk Try.prog 27 ti27 := ⟨Try.underlying27, Try.t27, by kernel_rfl, rfl, rfl, rfl, fun h => by cases h⟩
theorem tyok137 : TyOk Try.prog 137 ti137 := ⟨Try.underlying137, Try.t137, by kernel_rfl, rfl, rfl, rfl, fun h => by cases h⟩
theorem tyok22 : TyOk Try.prog 22 ti22 := ⟨Try.underlying22, Try.t22, by kernel_rfl, rfl, rfl, rfl, fun h => by cases h⟩
theorem tyok51 : TyOk Try.prog 51 ti51 := ⟨Try.underlying51, Try.t51, by kernel_rfl, rfl, rfl, rfl, fun h => by cases h⟩
theorem tyok139 : TyOk Try.prog 139 ti139 := ⟨Try.underlying139, Try.t139, by kernel_rfl, rfl, rfl, rfl, fun h => by cases h⟩
theorem tyok104 : TyOk Try.prog 104 ti104 := ⟨Try.underlying104, Try.t104, by kernel_rfl, rfl, rfl, rfl, fun h => by cases h⟩
theorem tyok129 : TyOk Try.prog 129 ti129 := ⟨Try.underlying129, Try.t129, by kernel_rfl, rfl, rfl, rfl, fun h => by cases h⟩
theorem tyok102 : TyOk Try.prog 102 ti102 := ⟨Try.underlying102, Try.t102, by kernel_rfl, rfl, rfl, rfl, fun h => by cases h⟩
def tab : Tab := [(3, ti3), (60, ti60), (62, ti62), (9, ti9), (56, ti56), (29, ti29), (25, ti25), (74, ti74), (37, ti37), (5, ti5), (23, ti23), (88, ti88), (42, ti42), (78, ti78), (119, ti119), (91, ti91), (4, ti4), (21, ti21), (92, ti92), (31, ti31), (35, ti35), (89, ti89), (27, ti27), (137, ti137), (22, ti22), (51, ti51), (139, ti139), (104, ti104), (129, ti129), (102, ti102)]
theorem tabOk : TabOk Try.prog tab := by
  intro e he
  simp only [tab, List.mem_cons, List.not_mem_nil, or_false] at he
  rcases he with rfl | rfl | rfl | rfl | rfl | rfl | rfl | rfl | rfl | rfl | rfl | rfl | rfl | rfl | rfl | rfl | rfl | rfl | rfl | rfl | rfl | rfl | rfl | rfl | rfl | rfl | rfl | rfl | rfl | rfl
  · exact tyok3
  · exact tyok60
  · exact tyok62
  · exact tyok9
  · exact tyok56
  · exact tyok29
  · exact tyok25
  · exact tyok74
  · exact tyok37
  · exact tyok5
  · exact tyok23
  · exact tyok88
  · exact tyok42
  · exact tyok78
  · exact tyok119
  · exact tyok91
  · exact tyok4
  · exact tyok21
  · exact tyok92
  · exact tyok31
  · exact tyok35
  · exact tyok89
  · exact tyok27
  · exact tyok137
  · exact tyok22
  · exact tyok51
  · exact tyok139
  · exact tyok104
  · exact tyok129
  · exact tyok102
/-- The table for code whose sums may wrap. -/
def tabW : Tab := (3, ti3) :: tab
theorem tabOkW : TabOk Try.prog tabW := by
  intro e he
  rcases List.mem_cons.1 he with rfl | h
  · exact tyok3
  · exact tabOk e h
theorem mixed : Try.prog.follows .mixedOrders = true := by kernel_rfl
end Go.Proofs.Ytebfhljamoapjaa
