/- The table of the types (written by a program). -/
import Derived.Test.YtnoenmacakbhdaaProg
import Derived.Test.YtnoenmacakbhdaaSyC
import Derived.KernelRfl
namespace Go.Proofs.Ytnoenmacakbhdaa
open Go.RowKit
def ti3 : TI := { d := (Go.TypeDesc.int Go.IntKind.i64), size := 1, bytes := 8, zero := (Go.Value.int Go.IntKind.i64 0), eqok := false }
def ti27 : TI := { d := (Go.TypeDesc.struct #[{ name := "Name", type := 9, offset := 0, embedded := false, tag := "", pkgPath := "", byteOffset := 0 }, { name := "Labels", type := 23, offset := 1, embedded := false, tag := "", pkgPath := "", byteOffset := 16 }, { name := "Unit", type := 25, offset := 2, embedded := false, tag := "", pkgPath := "", byteOffset := 40 }, { name := "Lo", type := 3, offset := 5, embedded := false, tag := "", pkgPath := "", byteOffset := 64 }, { name := "Hi", type := 3, offset := 6, embedded := false, tag := "", pkgPath := "", byteOffset := 72 }, { name := "Down", type := 3, offset := 7, embedded := false, tag := "", pkgPath := "", byteOffset := 80 }, { name := "Up", type := 3, offset := 8, embedded := false, tag := "", pkgPath := "", byteOffset := 88 }, { name := "First", type := 3, offset := 9, embedded := false, tag := "", pkgPath := "", byteOffset := 96 }, { name := "Last", type := 3, offset := 10, embedded := false, tag := "", pkgPath := "", byteOffset := 104 }, { name := "Budget", type := 3, offset := 11, embedded := false, tag := "", pkgPath := "", byteOffset := 112 }]), size := 12, bytes := 120, zero := (Go.Value.agg #[Go.Value.string { data := #[] }, Go.Value.slice none 0 0, Go.Value.int Go.IntKind.i64 0, Go.Value.int Go.IntKind.i64 0, Go.Value.int Go.IntKind.i64 0, Go.Value.int Go.IntKind.i64 0, Go.Value.int Go.IntKind.i64 0, Go.Value.int Go.IntKind.i64 0, Go.Value.int Go.IntKind.i64 0, Go.Value.int Go.IntKind.i64 0, Go.Value.int Go.IntKind.i64 0, Go.Value.int Go.IntKind.i64 0]), eqok := false }
def ti22 : TI := { d := (Go.TypeDesc.slice 3), size := 1, bytes := 24, zero := (Go.Value.slice none 0 0), eqok := false }
def ti52 : TI := { d := (Go.TypeDesc.struct #[{ name := "From", type := 3, offset := 0, embedded := false, tag := "", pkgPath := "", byteOffset := 0 }, { name := "To", type := 3, offset := 1, embedded := false, tag := "", pkgPath := "", byteOffset := 8 }, { name := "Lo", type := 3, offset := 2, embedded := false, tag := "", pkgPath := "", byteOffset := 16 }, { name := "Hi", type := 3, offset := 3, embedded := false, tag := "", pkgPath := "", byteOffset := 24 }]), size := 4, bytes := 32, zero := (Go.Value.agg #[Go.Value.int Go.IntKind.i64 0, Go.Value.int Go.IntKind.i64 0, Go.Value.int Go.IntKind.i64 0, Go.Value.int Go.IntKind.i64 0]), eqok := true }
def ti29 : TI := { d := (Go.TypeDesc.slice 52), size := 1, bytes := 24, zero := (Go.Value.slice none 0 0), eqok := false }
def ti32 : TI := { d := (Go.TypeDesc.struct #[{ name := "First", type := 3, offset := 0, embedded := false, tag := "", pkgPath := "", byteOffset := 0 }, { name := "Lo", type := 22, offset := 1, embedded := false, tag := "", pkgPath := "", byteOffset := 8 }, { name := "Hi", type := 22, offset := 2, embedded := false, tag := "", pkgPath := "", byteOffset := 32 }]), size := 3, bytes := 56, zero := (Go.Value.agg #[Go.Value.int Go.IntKind.i64 0, Go.Value.slice none 0 0, Go.Value.slice none 0 0]), eqok := false }
def ti40 : TI := { d := (Go.TypeDesc.struct #[{ name := "First", type := 3, offset := 0, embedded := false, tag := "", pkgPath := "", byteOffset := 0 }, { name := "Lo", type := 22, offset := 1, embedded := false, tag := "", pkgPath := "", byteOffset := 8 }, { name := "Hi", type := 22, offset := 2, embedded := false, tag := "", pkgPath := "", byteOffset := 32 }]), size := 3, bytes := 56, zero := (Go.Value.agg #[Go.Value.int Go.IntKind.i64 0, Go.Value.slice none 0 0, Go.Value.slice none 0 0]), eqok := false }
def ti33 : TI := { d := (Go.TypeDesc.int Go.IntKind.i64), size := 1, bytes := 8, zero := (Go.Value.int Go.IntKind.i64 0), eqok := false }
def ti108 : TI := { d := (Go.TypeDesc.int Go.IntKind.u64), size := 1, bytes := 8, zero := (Go.Value.int Go.IntKind.u64 0), eqok := false }
def ti9 : TI := { d := Go.TypeDesc.string, size := 1, bytes := 16, zero := (Go.Value.string { data := #[] }), eqok := false }
def ti23 : TI := { d := (Go.TypeDesc.slice 116), size := 1, bytes := 24, zero := (Go.Value.slice none 0 0), eqok := false }
def ti116 : TI := { d := (Go.TypeDesc.struct #[{ name := "Name", type := 9, offset := 0, embedded := false, tag := "", pkgPath := "", byteOffset := 0 }, { name := "Value", type := 9, offset := 1, embedded := false, tag := "", pkgPath := "", byteOffset := 16 }]), size := 2, bytes := 32, zero := (Go.Value.agg #[Go.Value.string { data := #[] }, Go.Value.string { data := #[] }]), eqok := true }
def ti5 : TI := { d := (Go.TypeDesc.int Go.IntKind.u8), size := 1, bytes := 1, zero := (Go.Value.int Go.IntKind.u8 0), eqok := false }
def ti130 : TI := { d := (Go.TypeDesc.int Go.IntKind.u64), size := 1, bytes := 8, zero := (Go.Value.int Go.IntKind.u64 0), eqok := false }
def ti150 : TI := { d := (Go.TypeDesc.int Go.IntKind.u32), size := 1, bytes := 4, zero := (Go.Value.int Go.IntKind.u32 0), eqok := false }
def ti21 : TI := { d := (Go.TypeDesc.int Go.IntKind.i32), size := 1, bytes := 4, zero := (Go.Value.int Go.IntKind.i32 0), eqok := false }
def ti25 : TI := { d := (Go.TypeDesc.array 3 3), size := 3, bytes := 24, zero := (Go.Value.agg #[Go.Value.int Go.IntKind.i64 0, Go.Value.int Go.IntKind.i64 0, Go.Value.int Go.IntKind.i64 0]), eqok := true }
def ti117 : TI := { d := (Go.TypeDesc.array 2 22), size := 2, bytes := 48, zero := (Go.Value.agg #[Go.Value.slice none 0 0, Go.Value.slice none 0 0]), eqok := false }
def ti134 : TI := { d := (Go.TypeDesc.struct #[{ name := "of", type := 132, offset := 0, embedded := false, tag := "", pkgPath := "intervalmon/claims", byteOffset := 0 }]), size := 1, bytes := 8, zero := (Go.Value.agg #[Go.Value.nilFunc]), eqok := false }
def ti4 : TI := { d := Go.TypeDesc.bool, size := 1, bytes := 1, zero := (Go.Value.bool false), eqok := false }
def ti66 : TI := { d := (Go.TypeDesc.slice 22), size := 1, bytes := 24, zero := (Go.Value.slice none 0 0), eqok := false }
def ti125 : TI := { d := (Go.TypeDesc.slice 108), size := 1, bytes := 24, zero := (Go.Value.slice none 0 0), eqok := false }
def ti135 : TI := { d := (Go.TypeDesc.array 4 134), size := 4, bytes := 32, zero := (Go.Value.agg #[Go.Value.nilFunc, Go.Value.nilFunc, Go.Value.nilFunc, Go.Value.nilFunc]), eqok := false }
def ti127 : TI := { d := (Go.TypeDesc.slice 5), size := 1, bytes := 24, zero := (Go.Value.slice none 0 0), eqok := false }
def ti132 : TI := { d := (Go.TypeDesc.func #[131] #[3] false), size := 1, bytes := 8, zero := Go.Value.nilFunc, eqok := false }
def ti160 : TI := { d := (Go.TypeDesc.int Go.IntKind.u64), size := 1, bytes := 8, zero := (Go.Value.int Go.IntKind.u64 0), eqok := false }
def ti83 : TI := { d := (Go.TypeDesc.slice 9), size := 1, bytes := 24, zero := (Go.Value.slice none 0 0), eqok := false }
def ti142 : TI := { d := (Go.TypeDesc.int Go.IntKind.i64), size := 1, bytes := 8, zero := (Go.Value.int Go.IntKind.i64 0), eqok := false }
theorem tyok3 : TyOk Try.prog 3 ti3 := ⟨Try.underlying3, Try.t3, by kernel_rfl, rfl, rfl, rfl, fun h => by cases h⟩
theorem tyok27 : TyOk Try.prog 27 ti27 := ⟨Try.underlying27, Try.t27, by kernel_rfl, rfl, rfl, rfl, fun h => by cases h⟩
theorem tyok22 : TyOk Try.prog 22 ti22 := ⟨Try.underlying22, Try.t22, by kernel_rfl, rfl, rfl, rfl, fun h => by cases h⟩
theorem tyok52 : TyOk Try.prog 52 ti52 := ⟨Try.underlying52, Try.t52, by kernel_rfl, rfl, rfl, rfl, fun _ => ⟨by kernel_rfl, by kernel_rfl, fun fs h => by cases h; decide⟩⟩
theorem tyok29 : TyOk Try.prog 29 ti29 := ⟨Try.underlying29, Try.t29, by kernel_rfl, rfl, rfl, rfl, fun h => by cases h⟩
theorem tyok32 : TyOk Try.prog 32 ti32 := ⟨Try.underlying32, Try.t32, by kernel_rfl, rfl, rfl, rfl, fun h => by cases h⟩
theorem tyok40 : TyOk Try.prog 40 ti40 := ⟨Try.underlying40, Try.t40, by kernel_rfl, rfl, rfl, rfl, fun h => by cases h⟩
theorem tyok33 : TyOk Try.prog 33 ti33 := ⟨Try.underlying33, Try.t33, by kernel_rfl, rfl, rfl, rfl, fun h => by cases h⟩
theorem tyok108 : TyOk Try.prog 108 ti108 := ⟨Try.underlying108, Try.t108, by kernel_rfl, rfl, rfl, rfl, fun h => by cases h⟩
theorem tyok9 : TyOk Try.prog 9 ti9 := ⟨Try.underlying9, Try.t9, by kernel_rfl, rfl, rfl, rfl, fun h => by cases h⟩
theorem tyok23 : TyOk Try.prog 23 ti23 := ⟨Try.underlying23, Try.t23, by kernel_rfl, rfl, rfl, rfl, fun h => by cases h⟩
theorem tyok116 : TyOk Try.prog 116 ti116 := ⟨Try.underlying116, Try.t116, by kernel_rfl, rfl, rfl, rfl, fun _ => ⟨by kernel_rfl, by kernel_rfl, fun fs h => by cases h; decide⟩⟩
theorem tyok5 : TyOk Try.prog 5 ti5 := ⟨Try.underlying5, Try.t5, by kernel_rfl, rfl, rfl, rfl, fun h => by cases h⟩
theorem tyok130 : TyOk Try.prog 130 ti130 := ⟨Try.underlying130, Try.t130, by kernel_rfl, rfl, rfl, rfl, fun h => by cases h⟩
theorem tyok150 : TyOk Try.prog 150 ti150 := ⟨Try.underlying150, Try.t150, by kernel_rfl, rfl, rfl, rfl, fun h => by cases h⟩
theorem tyok21 : TyOk Try.prog 21 ti21 := ⟨Try.underlying21, Try.t21, by kernel_rfl, rfl, rfl, rfl, fun h => by cases h⟩
theorem tyok25 : TyOk Try.prog 25 ti25 := ⟨Try.underlying25, Try.t25, by kernel_rfl, rfl, rfl, rfl, fun _ => ⟨by kernel_rfl, by kernel_rfl, fun fs h => by cases h⟩⟩
theorem tyok117 : TyOk Try.prog 117 ti117 := ⟨Try.underlying117, Try.t117, by kernel_rfl, rfl, rfl, rfl, fun h => by cases h⟩
theorem tyok134 : TyOk Try.prog 134 ti134 := ⟨Try.underlying134, Try.t134, by kernel_rfl, rfl, rfl, rfl, fun h => by cases h⟩
theorem tyok4 : TyOk Try.prog 4 ti4 := ⟨Try.underlying4, Try.t4, by kernel_rfl, rfl, rfl, rfl, fun h => by cases h⟩
theorem tyok66 : TyOk Try.prog 66 ti66 := ⟨Try.underlying66, Try.t66, by kernel_rfl, rfl, rfl, rfl, fun h => by cases h⟩
theorem tyok125 : TyOk Try.prog 125 ti125 := ⟨Try.underlying125, Try.t125, by kernel_rfl, rfl, rfl, rfl, fun h => by cases h⟩
theorem tyok135 : TyOk Try.prog 135 ti135 := ⟨Try.underlying135, Try.t135, by kernel_rfl, rfl, rfl, rfl, fun h => by cases h⟩
theorem tyok127 : TyOk Try.prog 127 ti127 := ⟨Try.underlying127, Try.t127, by kernel_rfl, rfl, rfl, rfl, fun h => by cases h⟩
theorem tyok132 : TyOk Try.prog 132 ti132 := ⟨Try.underlying132, Try.t132, by kernel_rfl, rfl, rfl, rfl, fun h => by cases h⟩
theorem tyok160 : TyOk Try.prog 160 ti160 := ⟨Try.underlying160, Try.t160, by kernel_rfl, rfl, rfl, rfl, fun h => by cases h⟩
theorem tyok83 : TyOk Try.prog 83 ti83 := ⟨Try.underlying83, Try.t83, by kernel_rfl, rfl, rfl, rfl, fun h => by cases h⟩
theorem tyok142 : TyOk Try.prog 142 ti142 := ⟨Try.underlying142, Try.t142, by kernel_rfl, rfl, rfl, rfl, fun h => by cases h⟩
def tab : Tab := [(3, ti3), (27, ti27), (22, ti22), (52, ti52), (29, ti29), (32, ti32), (40, ti40), (33, ti33), (108, ti108), (9, ti9), (23, ti23), (116, ti116), (5, ti5), (130, ti130), (150, ti150), (21, ti21), (25, ti25), (117, ti117), (134, ti134), (4, ti4), (66, ti66), (125, ti125), (135, ti135), (127, ti127), (132, ti132), (160, ti160), (83, ti83), (142, ti142)]
theorem tabOk : TabOk Try.prog tab := by
  intro e he
  simp only [tab, List.mem_cons, List.not_mem_nil, or_false] at he
  rcases he with rfl | rfl | rfl | rfl | rfl | rfl | rfl | rfl | rfl | rfl | rfl | rfl | rfl | rfl | rfl | rfl | rfl | rfl | rfl | rfl | rfl | rfl | rfl | rfl | rfl | rfl | rfl | rfl
  · exact tyok3
  · exact tyok27
  · exact tyok22
  · exact tyok52
  · exact tyok29
  · exact tyok32
  · exact tyok40
  · exact tyok33
  · exact tyok108
  · exact tyok9
  · exact tyok23
  · exact tyok116
  · exact tyok5
  · exact tyok130
  · exact tyok150
  · exact tyok21
  · exact tyok25
  · exact tyok117
  · exact tyok134
  · exact tyok4
  · exact tyok66
  · exact tyok125
  · exact tyok135
  · exact tyok127
  · exact tyok132
  · exact tyok160
  · exact tyok83
  · exact tyok142
/-- The table for code whose sums may wrap. -/
def tabW : Tab := (3, ti3) :: tab
theorem tabOkW : TabOk Try.prog tabW := by
  intro e he
  rcases List.mem_cons.1 he with rfl | h
  · exact tyok3
  · exact tabOk e h
theorem mixed : Try.prog.follows .mixedOrders = true := by kernel_rfl
end Go.Proofs.Ytnoenmacakbhdaa
