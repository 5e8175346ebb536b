/- The table of the types (written by a program). -/
import Derived.Test.YtpnngbfmmjjnaaaProg
import Derived.Test.YtpnngbfmmjjnaaaSyC
import Derived.KernelRfl
namespace Go.Proofs.Ytpnngbfmmjjnaaa
open Go.RowKit
def ti3 : TI := { d := (Go.TypeDesc.int Go.IntKind.i64), size := 1, bytes := 8, zero := (Go.Value.int Go.IntKind.i64 0), eqok := false }
def ti27 : TI := { d := (Go.TypeDesc.struct #[{ name := "Name", type := 9, offset := 0, embedded := false, tag := "", pkgPath := "", byteOffset := 0 }, { name := "Labels", type := 23, offset := 1, embedded := false, tag := "", pkgPath := "", byteOffset := 16 }, { name := "Unit", type := 25, offset := 2, embedded := false, tag := "", pkgPath := "", byteOffset := 40 }, { name := "Lo", type := 3, offset := 5, embedded := false, tag := "", pkgPath := "", byteOffset := 64 }, { name := "Hi", type := 3, offset := 6, embedded := false, tag := "", pkgPath := "", byteOffset := 72 }, { name := "Down", type := 3, offset := 7, embedded := false, tag := "", pkgPath := "", byteOffset := 80 }, { name := "Up", type := 3, offset := 8, embedded := false, tag := "", pkgPath := "", byteOffset := 88 }, { name := "First", type := 3, offset := 9, embedded := false, tag := "", pkgPath := "", byteOffset := 96 }, { name := "Last", type := 3, offset := 10, embedded := false, tag := "", pkgPath := "", byteOffset := 104 }, { name := "Budget", type := 3, offset := 11, embedded := false, tag := "", pkgPath := "", byteOffset := 112 }]), size := 12, bytes := 120, zero := (Go.Value.agg #[Go.Value.string { data := #[] }, Go.Value.slice none 0 0, Go.Value.int Go.IntKind.i64 0, Go.Value.int Go.IntKind.i64 0, Go.Value.int Go.IntKind.i64 0, Go.Value.int Go.IntKind.i64 0, Go.Value.int Go.IntKind.i64 0, Go.Value.int Go.IntKind.i64 0, Go.Value.int Go.IntKind.i64 0, Go.Value.int Go.IntKind.i64 0, Go.Value.int Go.IntKind.i64 0, Go.Value.int Go.IntKind.i64 0]), eqok := false }
def ti62 : TI := { d := (Go.TypeDesc.struct #[{ name := "From", type := 3, offset := 0, embedded := false, tag := "", pkgPath := "", byteOffset := 0 }, { name := "To", type := 3, offset := 1, embedded := false, tag := "", pkgPath := "", byteOffset := 8 }, { name := "Lo", type := 3, offset := 2, embedded := false, tag := "", pkgPath := "", byteOffset := 16 }, { name := "Hi", type := 3, offset := 3, embedded := false, tag := "", pkgPath := "", byteOffset := 24 }]), size := 4, bytes := 32, zero := (Go.Value.agg #[Go.Value.int Go.IntKind.i64 0, Go.Value.int Go.IntKind.i64 0, Go.Value.int Go.IntKind.i64 0, Go.Value.int Go.IntKind.i64 0]), eqok := true }
def ti29 : TI := { d := (Go.TypeDesc.slice 62), size := 1, bytes := 24, zero := (Go.Value.slice none 0 0), eqok := false }
def ti22 : TI := { d := (Go.TypeDesc.slice 3), size := 1, bytes := 24, zero := (Go.Value.slice none 0 0), eqok := false }
def ti33 : TI := { d := (Go.TypeDesc.struct #[{ name := "First", type := 3, offset := 0, embedded := false, tag := "", pkgPath := "", byteOffset := 0 }, { name := "Lo", type := 22, offset := 1, embedded := false, tag := "", pkgPath := "", byteOffset := 8 }, { name := "Hi", type := 22, offset := 2, embedded := false, tag := "", pkgPath := "", byteOffset := 32 }]), size := 3, bytes := 56, zero := (Go.Value.agg #[Go.Value.int Go.IntKind.i64 0, Go.Value.slice none 0 0, Go.Value.slice none 0 0]), eqok := false }
def ti34 : TI := { d := (Go.TypeDesc.int Go.IntKind.i64), size := 1, bytes := 8, zero := (Go.Value.int Go.IntKind.i64 0), eqok := false }
def ti91 : TI := { d := (Go.TypeDesc.int Go.IntKind.u64), size := 1, bytes := 8, zero := (Go.Value.int Go.IntKind.u64 0), eqok := false }
def ti9 : TI := { d := Go.TypeDesc.string, size := 1, bytes := 16, zero := (Go.Value.string { data := #[] }), eqok := false }
def ti97 : TI := { d := (Go.TypeDesc.struct #[{ name := "First", type := 3, offset := 0, embedded := false, tag := "", pkgPath := "", byteOffset := 0 }, { name := "Lo", type := 22, offset := 1, embedded := false, tag := "", pkgPath := "", byteOffset := 8 }, { name := "Hi", type := 22, offset := 2, embedded := false, tag := "", pkgPath := "", byteOffset := 32 }]), size := 3, bytes := 56, zero := (Go.Value.agg #[Go.Value.int Go.IntKind.i64 0, Go.Value.slice none 0 0, Go.Value.slice none 0 0]), eqok := false }
def ti23 : TI := { d := (Go.TypeDesc.slice 101), size := 1, bytes := 24, zero := (Go.Value.slice none 0 0), eqok := false }
def ti86 : TI := { d := (Go.TypeDesc.struct #[{ name := "first", type := 3, offset := 0, embedded := false, tag := "", pkgPath := "intervalmon/lossy", byteOffset := 0 }, { name := "lo", type := 22, offset := 1, embedded := false, tag := "", pkgPath := "intervalmon/lossy", byteOffset := 8 }, { name := "hi", type := 22, offset := 2, embedded := false, tag := "", pkgPath := "intervalmon/lossy", byteOffset := 32 }]), size := 3, bytes := 56, zero := (Go.Value.agg #[Go.Value.int Go.IntKind.i64 0, Go.Value.slice none 0 0, Go.Value.slice none 0 0]), eqok := false }
def ti101 : TI := { d := (Go.TypeDesc.struct #[{ name := "Name", type := 9, offset := 0, embedded := false, tag := "", pkgPath := "", byteOffset := 0 }, { name := "Value", type := 9, offset := 1, embedded := false, tag := "", pkgPath := "", byteOffset := 16 }]), size := 2, bytes := 32, zero := (Go.Value.agg #[Go.Value.string { data := #[] }, Go.Value.string { data := #[] }]), eqok := true }
def ti105 : TI := { d := (Go.TypeDesc.int Go.IntKind.u64), size := 1, bytes := 8, zero := (Go.Value.int Go.IntKind.u64 0), eqok := false }
def ti5 : TI := { d := (Go.TypeDesc.int Go.IntKind.u8), size := 1, bytes := 1, zero := (Go.Value.int Go.IntKind.u8 0), eqok := false }
def ti121 : TI := { d := (Go.TypeDesc.int Go.IntKind.u32), size := 1, bytes := 4, zero := (Go.Value.int Go.IntKind.u32 0), eqok := false }
def ti75 : TI := { d := (Go.TypeDesc.slice 90), size := 1, bytes := 24, zero := (Go.Value.slice none 0 0), eqok := false }
def ti78 : TI := { d := (Go.TypeDesc.struct #[{ name := "budget", type := 3, offset := 0, embedded := false, tag := "", pkgPath := "intervalmon/budget", byteOffset := 0 }, { name := "spent", type := 3, offset := 1, embedded := false, tag := "", pkgPath := "intervalmon/budget", byteOffset := 8 }, { name := "entries", type := 75, offset := 2, embedded := false, tag := "", pkgPath := "intervalmon/budget", byteOffset := 16 }]), size := 3, bytes := 40, zero := (Go.Value.agg #[Go.Value.int Go.IntKind.i64 0, Go.Value.int Go.IntKind.i64 0, Go.Value.slice none 0 0]), eqok := false }
def ti21 : TI := { d := (Go.TypeDesc.int Go.IntKind.i32), size := 1, bytes := 4, zero := (Go.Value.int Go.IntKind.i32 0), eqok := false }
def ti25 : TI := { d := (Go.TypeDesc.array 3 3), size := 3, bytes := 24, zero := (Go.Value.agg #[Go.Value.int Go.IntKind.i64 0, Go.Value.int Go.IntKind.i64 0, Go.Value.int Go.IntKind.i64 0]), eqok := true }
def ti103 : TI := { d := (Go.TypeDesc.array 2 22), size := 2, bytes := 48, zero := (Go.Value.agg #[Go.Value.slice none 0 0, Go.Value.slice none 0 0]), eqok := false }
def ti131 : TI := { d := (Go.TypeDesc.struct #[{ name := "of", type := 129, offset := 0, embedded := false, tag := "", pkgPath := "intervalmon/claims", byteOffset := 0 }]), size := 1, bytes := 8, zero := (Go.Value.agg #[Go.Value.nilFunc]), eqok := false }
def ti83 : TI := { d := (Go.TypeDesc.struct #[{ name := "d", type := 27, offset := 0, embedded := false, tag := "", pkgPath := "intervalmon/lossy", byteOffset := 0 }, { name := "all", type := 33, offset := 12, embedded := false, tag := "", pkgPath := "intervalmon/lossy", byteOffset := 120 }, { name := "most", type := 3, offset := 15, embedded := false, tag := "", pkgPath := "intervalmon/lossy", byteOffset := 176 }]), size := 16, bytes := 184, zero := (Go.Value.agg #[Go.Value.string { data := #[] }, Go.Value.slice none 0 0, Go.Value.int Go.IntKind.i64 0, Go.Value.int Go.IntKind.i64 0, Go.Value.int Go.IntKind.i64 0, Go.Value.int Go.IntKind.i64 0, Go.Value.int Go.IntKind.i64 0, Go.Value.int Go.IntKind.i64 0, Go.Value.int Go.IntKind.i64 0, Go.Value.int Go.IntKind.i64 0, Go.Value.int Go.IntKind.i64 0, Go.Value.int Go.IntKind.i64 0, Go.Value.int Go.IntKind.i64 0, Go.Value.slice none 0 0, Go.Value.slice none 0 0, Go.Value.int Go.IntKind.i64 0]), eqok := false }
def ti132 : TI := { d := (Go.TypeDesc.array 4 131), size := 4, bytes := 32, zero := (Go.Value.agg #[Go.Value.nilFunc, Go.Value.nilFunc, Go.Value.nilFunc, Go.Value.nilFunc]), eqok := false }
def ti129 : TI := { d := (Go.TypeDesc.func #[88] #[3] false), size := 1, bytes := 8, zero := Go.Value.nilFunc, eqok := false }
def ti148 : TI := { d := (Go.TypeDesc.int Go.IntKind.u64), size := 1, bytes := 8, zero := (Go.Value.int Go.IntKind.u64 0), eqok := false }
def ti38 : TI := { d := (Go.TypeDesc.pointer 78), size := 1, bytes := 8, zero := (Go.Value.pointer none), eqok := false }
def ti69 : TI := { d := (Go.TypeDesc.slice 9), size := 1, bytes := 24, zero := (Go.Value.slice none 0 0), eqok := false }
def ti90 : TI := { d := (Go.TypeDesc.struct #[{ name := "Step", type := 9, offset := 0, embedded := false, tag := "", pkgPath := "", byteOffset := 0 }, { name := "Cost", type := 3, offset := 1, embedded := false, tag := "", pkgPath := "", byteOffset := 16 }]), size := 2, bytes := 24, zero := (Go.Value.agg #[Go.Value.string { data := #[] }, Go.Value.int Go.IntKind.i64 0]), eqok := true }
def ti136 : TI := { d := (Go.TypeDesc.int Go.IntKind.i64), size := 1, bytes := 8, zero := (Go.Value.int Go.IntKind.i64 0), eqok := false }
theorem tyok3 : TyOk Try.prog 3 ti3 := ⟨Try.underlying3, Try.t3, by kernel_rfl, rfl, rfl, rfl, fun h => by cases h⟩
theorem tyok27 : TyOk Try.prog 27 ti27 := ⟨Try.underlying27, Try.t27, by kernel_rfl, rfl, rfl, rfl, fun h => by cases h⟩
theorem tyok62 : TyOk Try.prog 62 ti62 := ⟨Try.underlying62, Try.t62, by kernel_rfl, rfl, rfl, rfl, fun _ => ⟨by kernel_rfl, by kernel_rfl, fun fs h => by cases h; decide⟩⟩
theorem tyok29 : TyOk Try.prog 29 ti29 := ⟨Try.underlying29, Try.t29, by kernel_rfl, rfl, rfl, rfl, fun h => by cases h⟩
theorem tyok22 : TyOk Try.prog 22 ti22 := ⟨Try.underlying22, Try.t22, by kernel_rfl, rfl, rfl, rfl, fun h => by cases h⟩
theorem tyok33 : TyOk Try.prog 33 ti33 := ⟨Try.underlying33, Try.t33, by kernel_rfl, rfl, rfl, rfl, fun h => by cases h⟩
theorem tyok34 : TyOk Try.prog 34 ti34 := ⟨Try.underlying34, Try.t34, by kernel_rfl, rfl, rfl, rfl, fun h => by cases h⟩
theorem tyok91 : TyOk Try.prog 91 ti91 := ⟨Try.underlying91, Try.t91, by kernel_rfl, rfl, rfl, rfl, fun h => by cases h⟩
theorem tyok9 : TyOk Try.prog 9 ti9 := ⟨Try.underlying9, Try.t9, by kernel_rfl, rfl, rfl, rfl, fun h => by cases h⟩
theorem tyok97 : TyOk Try.prog 97 ti97 := ⟨Try.underlying97, Try.t97, by kernel_rfl, rfl, rfl, rfl, fun h => by cases h⟩
theorem tyok23 : TyOk Try.prog 23 ti23 := ⟨Try.underlying23, Try.t23, by kernel_rfl, rfl, rfl, rfl, fun h => by cases h⟩
theorem tyok86 : TyOk Try.prog 86 ti86 := ⟨Try.underlying86, Try.t86, by kernel_rfl, rfl, rfl, rfl, fun h => by cases h⟩
theorem tyok101 : TyOk Try.prog 101 ti101 := ⟨Try.underlying101, Try.t101, by kernel_rfl, rfl, rfl, rfl, fun _ => ⟨by kernel_rfl, by kernel_rfl, fun fs h => by cases h; decide⟩⟩
theorem tyok105 : TyOk Try.prog 105 ti105 := ⟨Try.underlying105, Try.t105, by kernel_rfl, rfl, rfl, rfl, fun h => by cases h⟩
theorem tyok5 : TyOk Try.prog 5 ti5 := ⟨Try.underlying5, Try.t5, by kernel_rfl, rfl, rfl, rfl, fun h => by cases h⟩
theorem tyok121 : TyOk Try.prog 121 ti121 := ⟨Try.underlying121, Try.t121, by kernel_rfl, rfl, rfl, rfl, fun h => by cases h⟩
theorem tyok75 : TyOk Try.prog 75 ti75 := ⟨Try.underlying75, Try.t75, by kernel_rfl, rfl, rfl, rfl, fun h => by cases h⟩
theorem tyok78 : TyOk Try.prog 78 ti78 := ⟨Try.underlying78, Try.t78, by kernel_rfl, rfl, rfl, rfl, fun h => by cases h⟩
theorem tyok21 : TyOk Try.prog 21 ti21 := ⟨Try.underlying21, Try.t21, by kernel_rfl, rfl, rfl, rfl, fun h => by cases h⟩
theorem tyok25 : TyOk Try.prog 25 ti25 := ⟨Try.underlying25, Try.t25, by kernel_rfl, rfl, rfl, rfl, fun _ => ⟨by kernel_rfl, by kernel_rfl, fun fs h => by cases h⟩⟩
theorem tyok103 : TyOk Try.prog 103 ti103 := ⟨Try.underlying103, Try.t103, by kernel_rfl, rfl, rfl, rfl, fun h => by cases h⟩
theorem tyok131 : TyOk Try.prog 131 ti131 := ⟨Try.underlying131, Try.t131, by kernel_rfl, rfl, rfl, rfl, fun h => by cases h⟩
theorem tyok83 : TyOk Try.prog 83 ti83 := ⟨Try.underlying83, Try.t83, by kernel_rfl, rfl, rfl, rfl, fun h => by cases h⟩
theorem tyok132 : TyOk Try.prog 132 ti132 := ⟨Try.underlying132, Try.t132, by kernel_rfl, rfl, rfl, rfl, fun h => by cases h⟩
theorem tyok129 : TyOk Try.prog 129 ti129 := ⟨Try.underlying129, Try.t129, by kernel_rfl, rfl, rfl, rfl, fun h => by cases h⟩
theorem tyok148 : TyOk Try.prog 148 ti148 := ⟨Try.underlying148, Try.t148, by kernel_rfl, rfl, rfl, rfl, fun h => by cases h⟩
theorem tyok38 : TyOk Try.prog 38 ti38 := ⟨Try.underlying38, Try.t38, by kernel_rfl, rfl, rfl, rfl, fun h => by cases h⟩
theorem tyok69 : TyOk Try.prog 69 ti69 := ⟨Try.underlying69, Try.t69, by kernel_rfl, rfl, rfl, rfl, fun h => by cases h⟩
theorem tyok90 : TyOk Try.prog 90 ti90 := ⟨Try.underlying90, Try.t90, by kernel_rfl, rfl, rfl, rfl, fun _ => ⟨by kernel_rfl, by kernel_rfl, fun fs h => by cases h; decide⟩⟩
theorem tyok136 : TyOk Try.prog 136 ti136 := ⟨Try.underlying136, Try.t136, by kernel_rfl, rfl, rfl, rfl, fun h => by cases h⟩
def tab : Tab := [(3, ti3), (27, ti27), (62, ti62), (29, ti29), (22, ti22), (33, ti33), (34, ti34), (91, ti91), (9, ti9), (97, ti97), (23, ti23), (86, ti86), (101, ti101), (105, ti105), (5, ti5), (121, ti121), (75, ti75), (78, ti78), (21, ti21), (25, ti25), (103, ti103), (131, ti131), (83, ti83), (132, ti132), (129, ti129), (148, ti148), (38, ti38), (69, ti69), (90, ti90), (136, ti136)]
theorem tabOk : TabOk Try.prog tab := by
  intro e he
  simp only [tab, List.mem_cons, List.not_mem_nil, or_false] at he
  rcases he with rfl | rfl | rfl | rfl | rfl | rfl | rfl | rfl | rfl | rfl | rfl | rfl | rfl | rfl | rfl | rfl | rfl | rfl | rfl | rfl | rfl | rfl | rfl | rfl | rfl | rfl | rfl | rfl | rfl | rfl
  · exact tyok3
  · exact tyok27
  · exact tyok62
  · exact tyok29
  · exact tyok22
  · exact tyok33
  · exact tyok34
  · exact tyok91
  · exact tyok9
  · exact tyok97
  · exact tyok23
  · exact tyok86
  · exact tyok101
  · exact tyok105
  · exact tyok5
  · exact tyok121
  · exact tyok75
  · exact tyok78
  · exact tyok21
  · exact tyok25
  · exact tyok103
  · exact tyok131
  · exact tyok83
  · exact tyok132
  · exact tyok129
  · exact tyok148
  · exact tyok38
  · exact tyok69
  · exact tyok90
  · exact tyok136
/-- The table for code whose sums may wrap. -/
def tabW : Tab := (3, ti3) :: tab
theorem tabOkW : TabOk Try.prog tabW := by
  intro e he
  rcases List.mem_cons.1 he with rfl | h
  · exact tyok3
  · exact tabOk e h
theorem mixed : Try.prog.follows .mixedOrders = true := by kernel_rfl
end Go.Proofs.Ytpnngbfmmjjnaaa
