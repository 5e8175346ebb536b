/-
  No cell of these rows narrows 'for every input' (looked for: loops, veiled, ifaces, maps, wideKeys, modest, calm, conditions, laid).
  DERIVED. THE GIVEN ROWS OF THIS SEAT. 10 by the template 'for every input the law returns true; each argument reads behind the call as it read before'; 0 by the template 'total and deterministic' (their statements: YthknflclfmnciaaTotals.lean).
  GIVEN WITH THE SEED: the statements are not yours to turn. If you find one false, say at which input.
  Laid BY PROGRAM, IN A SANDBOX (cutbox-rows.mjs): the forced cells as the released guide's own fill.sh prints them over the translation 15b8dd4218f3b2d8… (all of the seat's roots in one cut). By AI agents, Wed Nov 11 2026. No macro, syntax, notation, axiom, sorry.
-/
import Derived.Test.YthknflclfmnciaaChecked
import GoSem.Claim
import GoSem.ClaimJoined
import GoSem.ClaimMapViews
import Derived.JoinedTies
import Derived.KernelRfl
namespace Go.Proofs.Ythknflclfmnciaa
/- THE CELL 'sum', in the pinned program and in every row, IS THE sha256 OF THE DUMP (.gsa) THAT YthknflclfmnciaaProg.lean LOADS. Nothing in Lean hashes anything: it is a label: what it is worth is what the hold of that sum in a sandbox is worth. -/
noncomputable def Try.pinned : Pinned := { name := "ythknflclfmnciaa", sum := "15b8dd4218f3b2d80d75db3741fc18448207fd13228732b1f46004bbf79bd4f2", checked := Try.checked }
namespace Rows
def none {H : Type} : Left H := { results := [], args := [] }

/-- 'intervalmonlaw04.IntervalKth': WHATEVER THE INPUT: true; the input reads as it did. -/
def intervalKthSpec : ChangeSpec := { name := "intervalKth", fn := fun _ => fun
  | [d1, d2] => { results := [.lit (.bool true)], args := [d1, d2] }
  | _ => none }
def intervalKthRow : OpenClaim := { program := "ythknflclfmnciaa", sum := "15b8dd4218f3b2d80d75db3741fc18448207fd13228732b1f46004bbf79bd4f2", func := "intervalmon/intervalmonlaw04.IntervalKth", spec := "intervalKth", inPlace := ["math/bits.Add64", "math/bits.Sub64"], unfollowed := true, recurses := true, apart := false }
def IntervalKthSaid : Prop := intervalKthRow.holds Try.pinned (OpenSpec.ofChange intervalKthSpec)

/-- ITS FALSE NEIGHBOUR: 'it returns false'. Refute it at one input. -/
def intervalKthWrong : ChangeSpec := { name := "intervalKth", fn := fun _ => fun
  | [d1, d2] => { results := [.lit (.bool false)], args := [d1, d2] }
  | _ => none }
def IntervalKthWrongFalsely : Prop := intervalKthRow.holds Try.pinned (OpenSpec.ofChange intervalKthWrong)

/-- 'intervalmonlaw04.IntervalNarrows': WHATEVER THE INPUT: true; the input reads as it did. -/
def intervalNarrowsSpec : ChangeSpec := { name := "intervalNarrows", fn := fun _ => fun
  | [d] => { results := [.lit (.bool true)], args := [d] }
  | _ => none }
def intervalNarrowsRow : OpenClaim := { program := "ythknflclfmnciaa", sum := "15b8dd4218f3b2d80d75db3741fc18448207fd13228732b1f46004bbf79bd4f2", func := "intervalmon/intervalmonlaw04.IntervalNarrows", spec := "intervalNarrows", inPlace := ["math/bits.Add64", "math/bits.Sub64"], unfollowed := true, recurses := true, apart := false }
def IntervalNarrowsSaid : Prop := intervalNarrowsRow.holds Try.pinned (OpenSpec.ofChange intervalNarrowsSpec)

/-- ITS FALSE NEIGHBOUR: 'it returns false'. Refute it at one input. -/
def intervalNarrowsWrong : ChangeSpec := { name := "intervalNarrows", fn := fun _ => fun
  | [d] => { results := [.lit (.bool false)], args := [d] }
  | _ => none }
def IntervalNarrowsWrongFalsely : Prop := intervalNarrowsRow.holds Try.pinned (OpenSpec.ofChange intervalNarrowsWrong)

/-- 'intervalmonlaw04.IntervalNew': WHATEVER THE INPUT: true; the input reads as it did. -/
def intervalNewSpec : ChangeSpec := { name := "intervalNew", fn := fun _ => fun
  | [d1, d2] => { results := [.lit (.bool true)], args := [d1, d2] }
  | _ => none }
def intervalNewRow : OpenClaim := { program := "ythknflclfmnciaa", sum := "15b8dd4218f3b2d80d75db3741fc18448207fd13228732b1f46004bbf79bd4f2", func := "intervalmon/intervalmonlaw04.IntervalNew", spec := "intervalNew", inPlace := ["math/bits.Add64", "math/bits.Sub64"], unfollowed := true, recurses := true, apart := false }
def IntervalNewSaid : Prop := intervalNewRow.holds Try.pinned (OpenSpec.ofChange intervalNewSpec)

/-- ITS FALSE NEIGHBOUR: 'it returns false'. Refute it at one input. -/
def intervalNewWrong : ChangeSpec := { name := "intervalNew", fn := fun _ => fun
  | [d1, d2] => { results := [.lit (.bool false)], args := [d1, d2] }
  | _ => none }
def IntervalNewWrongFalsely : Prop := intervalNewRow.holds Try.pinned (OpenSpec.ofChange intervalNewWrong)

/-- 'intervalmonlaw04.IntervalRanks': WHATEVER THE INPUT: true; the input reads as it did. -/
def intervalRanksSpec : ChangeSpec := { name := "intervalRanks", fn := fun _ => fun
  | [d1, d2, d3, d4] => { results := [.lit (.bool true)], args := [d1, d2, d3, d4] }
  | _ => none }
def intervalRanksRow : OpenClaim := { program := "ythknflclfmnciaa", sum := "15b8dd4218f3b2d80d75db3741fc18448207fd13228732b1f46004bbf79bd4f2", func := "intervalmon/intervalmonlaw04.IntervalRanks", spec := "intervalRanks", inPlace := ["math/bits.Add64", "math/bits.Sub64"], unfollowed := true, recurses := true, apart := false }
def IntervalRanksSaid : Prop := intervalRanksRow.holds Try.pinned (OpenSpec.ofChange intervalRanksSpec)

/-- ITS FALSE NEIGHBOUR: 'it returns false'. Refute it at one input. -/
def intervalRanksWrong : ChangeSpec := { name := "intervalRanks", fn := fun _ => fun
  | [d1, d2, d3, d4] => { results := [.lit (.bool false)], args := [d1, d2, d3, d4] }
  | _ => none }
def IntervalRanksWrongFalsely : Prop := intervalRanksRow.holds Try.pinned (OpenSpec.ofChange intervalRanksWrong)

/-- 'intervalmonlaw04.IntervalLattice': WHATEVER THE INPUT: true; the input reads as it did. -/
def intervalLatticeSpec : ChangeSpec := { name := "intervalLattice", fn := fun _ => fun
  | [d1, d2] => { results := [.lit (.bool true)], args := [d1, d2] }
  | _ => none }
def intervalLatticeRow : OpenClaim := { program := "ythknflclfmnciaa", sum := "15b8dd4218f3b2d80d75db3741fc18448207fd13228732b1f46004bbf79bd4f2", func := "intervalmon/intervalmonlaw04.IntervalLattice", spec := "intervalLattice", inPlace := ["math/bits.Add64", "math/bits.Sub64"], unfollowed := true, recurses := true, apart := false }
def IntervalLatticeSaid : Prop := intervalLatticeRow.holds Try.pinned (OpenSpec.ofChange intervalLatticeSpec)

/-- ITS FALSE NEIGHBOUR: 'it returns false'. Refute it at one input. -/
def intervalLatticeWrong : ChangeSpec := { name := "intervalLattice", fn := fun _ => fun
  | [d1, d2] => { results := [.lit (.bool false)], args := [d1, d2] }
  | _ => none }
def IntervalLatticeWrongFalsely : Prop := intervalLatticeRow.holds Try.pinned (OpenSpec.ofChange intervalLatticeWrong)

/-- 'intervalmonlaw04.IntervalVerdicts': WHATEVER THE INPUT: true; the input reads as it did. -/
def intervalVerdictsSpec : ChangeSpec := { name := "intervalVerdicts", fn := fun _ => fun
  | [d1, d2] => { results := [.lit (.bool true)], args := [d1, d2] }
  | _ => none }
def intervalVerdictsRow : OpenClaim := { program := "ythknflclfmnciaa", sum := "15b8dd4218f3b2d80d75db3741fc18448207fd13228732b1f46004bbf79bd4f2", func := "intervalmon/intervalmonlaw04.IntervalVerdicts", spec := "intervalVerdicts", inPlace := ["math/bits.Add64", "math/bits.Sub64"], unfollowed := true, recurses := true, named := ["math/bits.divideError", "math/bits.overflowError"], apart := false }
def IntervalVerdictsSaid : Prop := intervalVerdictsRow.holds Try.pinned (OpenSpec.ofChange intervalVerdictsSpec)

/-- ITS FALSE NEIGHBOUR: 'it returns false'. Refute it at one input. -/
def intervalVerdictsWrong : ChangeSpec := { name := "intervalVerdicts", fn := fun _ => fun
  | [d1, d2] => { results := [.lit (.bool false)], args := [d1, d2] }
  | _ => none }
def IntervalVerdictsWrongFalsely : Prop := intervalVerdictsRow.holds Try.pinned (OpenSpec.ofChange intervalVerdictsWrong)

/-- 'intervalmonlaw04.IntervalArithmetic': WHATEVER THE INPUT: true; the input reads as it did. -/
def intervalArithmeticSpec : ChangeSpec := { name := "intervalArithmetic", fn := fun _ => fun
  | [d1, d2] => { results := [.lit (.bool true)], args := [d1, d2] }
  | _ => none }
def intervalArithmeticRow : OpenClaim := { program := "ythknflclfmnciaa", sum := "15b8dd4218f3b2d80d75db3741fc18448207fd13228732b1f46004bbf79bd4f2", func := "intervalmon/intervalmonlaw04.IntervalArithmetic", spec := "intervalArithmetic", inPlace := ["math/bits.Add64", "math/bits.Sub64"], unfollowed := true, recurses := true, named := ["math/bits.divideError", "math/bits.overflowError"], apart := false }
def IntervalArithmeticSaid : Prop := intervalArithmeticRow.holds Try.pinned (OpenSpec.ofChange intervalArithmeticSpec)

/-- ITS FALSE NEIGHBOUR: 'it returns false'. Refute it at one input. -/
def intervalArithmeticWrong : ChangeSpec := { name := "intervalArithmetic", fn := fun _ => fun
  | [d1, d2] => { results := [.lit (.bool false)], args := [d1, d2] }
  | _ => none }
def IntervalArithmeticWrongFalsely : Prop := intervalArithmeticRow.holds Try.pinned (OpenSpec.ofChange intervalArithmeticWrong)

/-- 'intervalmonlaw04.IntervalTight': WHATEVER THE INPUT: true; the input reads as it did. -/
def intervalTightSpec : ChangeSpec := { name := "intervalTight", fn := fun _ => fun
  | [d] => { results := [.lit (.bool true)], args := [d] }
  | _ => none }
def intervalTightRow : OpenClaim := { program := "ythknflclfmnciaa", sum := "15b8dd4218f3b2d80d75db3741fc18448207fd13228732b1f46004bbf79bd4f2", func := "intervalmon/intervalmonlaw04.IntervalTight", spec := "intervalTight", inPlace := ["math/bits.Add64", "math/bits.Sub64"], unfollowed := true, recurses := true, named := ["math/bits.divideError", "math/bits.overflowError"], apart := false }
def IntervalTightSaid : Prop := intervalTightRow.holds Try.pinned (OpenSpec.ofChange intervalTightSpec)

/-- ITS FALSE NEIGHBOUR: 'it returns false'. Refute it at one input. -/
def intervalTightWrong : ChangeSpec := { name := "intervalTight", fn := fun _ => fun
  | [d] => { results := [.lit (.bool false)], args := [d] }
  | _ => none }
def IntervalTightWrongFalsely : Prop := intervalTightRow.holds Try.pinned (OpenSpec.ofChange intervalTightWrong)

/-- 'intervalmonlaw04.IntervalSound': WHATEVER THE INPUT: true; the input reads as it did. -/
def intervalSoundSpec : ChangeSpec := { name := "intervalSound", fn := fun _ => fun
  | [d] => { results := [.lit (.bool true)], args := [d] }
  | _ => none }
def intervalSoundRow : OpenClaim := { program := "ythknflclfmnciaa", sum := "15b8dd4218f3b2d80d75db3741fc18448207fd13228732b1f46004bbf79bd4f2", func := "intervalmon/intervalmonlaw04.IntervalSound", spec := "intervalSound", inPlace := ["math/bits.Add64", "math/bits.Sub64"], unfollowed := true, recurses := true, named := ["math/bits.divideError", "math/bits.overflowError"], apart := false }
def IntervalSoundSaid : Prop := intervalSoundRow.holds Try.pinned (OpenSpec.ofChange intervalSoundSpec)

/-- ITS FALSE NEIGHBOUR: 'it returns false'. Refute it at one input. -/
def intervalSoundWrong : ChangeSpec := { name := "intervalSound", fn := fun _ => fun
  | [d] => { results := [.lit (.bool false)], args := [d] }
  | _ => none }
def IntervalSoundWrongFalsely : Prop := intervalSoundRow.holds Try.pinned (OpenSpec.ofChange intervalSoundWrong)

/-- 'intervalmonlaw04.IntervalMonotone': WHATEVER THE INPUT: true; the input reads as it did. -/
def intervalMonotoneSpec : ChangeSpec := { name := "intervalMonotone", fn := fun _ => fun
  | [d] => { results := [.lit (.bool true)], args := [d] }
  | _ => none }
def intervalMonotoneRow : OpenClaim := { program := "ythknflclfmnciaa", sum := "15b8dd4218f3b2d80d75db3741fc18448207fd13228732b1f46004bbf79bd4f2", func := "intervalmon/intervalmonlaw04.IntervalMonotone", spec := "intervalMonotone", inPlace := ["math/bits.Add64", "math/bits.Sub64"], unfollowed := true, recurses := true, named := ["math/bits.divideError", "math/bits.overflowError"], apart := false }
def IntervalMonotoneSaid : Prop := intervalMonotoneRow.holds Try.pinned (OpenSpec.ofChange intervalMonotoneSpec)

/-- ITS FALSE NEIGHBOUR: 'it returns false'. Refute it at one input. -/
def intervalMonotoneWrong : ChangeSpec := { name := "intervalMonotone", fn := fun _ => fun
  | [d] => { results := [.lit (.bool false)], args := [d] }
  | _ => none }
def IntervalMonotoneWrongFalsely : Prop := intervalMonotoneRow.holds Try.pinned (OpenSpec.ofChange intervalMonotoneWrong)

/- THE SECOND FORM. 'bulk': how many values and letters a reading holds, each counted each time it is reached (what is shared counts as often as it is met; a slice's spare places count too). A statement '..UptoSaid' is the law's where the arguments, and the package variables that the reading takes, are together of bulk at most 1048576: NARROWER than '..Said'. Prove '..Said' where nothing that the law and all that it calls make is longer than what came in: it says more and counts as full. Else prove '..UptoSaid'. A law counts once. -/
mutual
def uptoBulk {H : Type} : DataW H → Nat
  | .lit (.string bytes) => bytes.length + 1
  | .lit _ => 1
  | .nil => 1
  | .ptr d => uptoBulk d + 1
  | .slice elems spare => uptoBulkAll elems + uptoBulkAll spare + 1
  | .agg parts => uptoBulkAll parts + 1
  | .iface _ d => uptoBulk d + 1
  | .map entries => uptoBulkEntries entries + 1
  | .held _ => 1
def uptoBulkAll {H : Type} : List (DataW H) → Nat
  | [] => 0
  | d :: r => uptoBulk d + uptoBulkAll r
def uptoBulkEntries {H : Type} : List (Lit × DataW H) → Nat
  | [] => 0
  | x :: r => uptoBulkEntry x + uptoBulkEntries r
def uptoBulkEntry {H : Type} : Lit × DataW H → Nat
  | (.string bytes, d) => bytes.length + uptoBulk d + 1
  | (_, d) => uptoBulk d + 1
 end
def uptoSmall : (H : Type) → List (DataW H) → Bool := fun _ ds => decide (uptoBulkAll ds ≤ 1048576)
def OpenSpec.upto (s : _root_.Go.ChangeSpec) : _root_.Go.OpenSpec := { _root_.Go.OpenSpec.ofChange s with cond := some uptoSmall }

/-- 'intervalmonlaw04.IntervalKth', WHERE WHAT IT READS IS OF BULK AT MOST 1048576: true; the input reads as it did. -/
def intervalKthUptoRow : OpenClaim := { program := "ythknflclfmnciaa", sum := "15b8dd4218f3b2d80d75db3741fc18448207fd13228732b1f46004bbf79bd4f2", func := "intervalmon/intervalmonlaw04.IntervalKth", spec := "intervalKth", inPlace := ["math/bits.Add64", "math/bits.Sub64"], unfollowed := true, recurses := true, apart := false, narrowed := true }
def IntervalKthUptoSaid : Prop := intervalKthUptoRow.holds Try.pinned (OpenSpec.upto intervalKthSpec)

/-- 'intervalmonlaw04.IntervalNarrows', WHERE WHAT IT READS IS OF BULK AT MOST 1048576: true; the input reads as it did. -/
def intervalNarrowsUptoRow : OpenClaim := { program := "ythknflclfmnciaa", sum := "15b8dd4218f3b2d80d75db3741fc18448207fd13228732b1f46004bbf79bd4f2", func := "intervalmon/intervalmonlaw04.IntervalNarrows", spec := "intervalNarrows", inPlace := ["math/bits.Add64", "math/bits.Sub64"], unfollowed := true, recurses := true, apart := false, narrowed := true }
def IntervalNarrowsUptoSaid : Prop := intervalNarrowsUptoRow.holds Try.pinned (OpenSpec.upto intervalNarrowsSpec)

/-- 'intervalmonlaw04.IntervalNew', WHERE WHAT IT READS IS OF BULK AT MOST 1048576: true; the input reads as it did. -/
def intervalNewUptoRow : OpenClaim := { program := "ythknflclfmnciaa", sum := "15b8dd4218f3b2d80d75db3741fc18448207fd13228732b1f46004bbf79bd4f2", func := "intervalmon/intervalmonlaw04.IntervalNew", spec := "intervalNew", inPlace := ["math/bits.Add64", "math/bits.Sub64"], unfollowed := true, recurses := true, apart := false, narrowed := true }
def IntervalNewUptoSaid : Prop := intervalNewUptoRow.holds Try.pinned (OpenSpec.upto intervalNewSpec)

/-- 'intervalmonlaw04.IntervalRanks', WHERE WHAT IT READS IS OF BULK AT MOST 1048576: true; the input reads as it did. -/
def intervalRanksUptoRow : OpenClaim := { program := "ythknflclfmnciaa", sum := "15b8dd4218f3b2d80d75db3741fc18448207fd13228732b1f46004bbf79bd4f2", func := "intervalmon/intervalmonlaw04.IntervalRanks", spec := "intervalRanks", inPlace := ["math/bits.Add64", "math/bits.Sub64"], unfollowed := true, recurses := true, apart := false, narrowed := true }
def IntervalRanksUptoSaid : Prop := intervalRanksUptoRow.holds Try.pinned (OpenSpec.upto intervalRanksSpec)

/-- 'intervalmonlaw04.IntervalLattice', WHERE WHAT IT READS IS OF BULK AT MOST 1048576: true; the input reads as it did. -/
def intervalLatticeUptoRow : OpenClaim := { program := "ythknflclfmnciaa", sum := "15b8dd4218f3b2d80d75db3741fc18448207fd13228732b1f46004bbf79bd4f2", func := "intervalmon/intervalmonlaw04.IntervalLattice", spec := "intervalLattice", inPlace := ["math/bits.Add64", "math/bits.Sub64"], unfollowed := true, recurses := true, apart := false, narrowed := true }
def IntervalLatticeUptoSaid : Prop := intervalLatticeUptoRow.holds Try.pinned (OpenSpec.upto intervalLatticeSpec)

/-- 'intervalmonlaw04.IntervalVerdicts', WHERE WHAT IT READS IS OF BULK AT MOST 1048576: true; the input reads as it did. -/
def intervalVerdictsUptoRow : OpenClaim := { program := "ythknflclfmnciaa", sum := "15b8dd4218f3b2d80d75db3741fc18448207fd13228732b1f46004bbf79bd4f2", func := "intervalmon/intervalmonlaw04.IntervalVerdicts", spec := "intervalVerdicts", inPlace := ["math/bits.Add64", "math/bits.Sub64"], unfollowed := true, recurses := true, named := ["math/bits.divideError", "math/bits.overflowError"], apart := false, narrowed := true }
def IntervalVerdictsUptoSaid : Prop := intervalVerdictsUptoRow.holds Try.pinned (OpenSpec.upto intervalVerdictsSpec)

/-- 'intervalmonlaw04.IntervalArithmetic', WHERE WHAT IT READS IS OF BULK AT MOST 1048576: true; the input reads as it did. -/
def intervalArithmeticUptoRow : OpenClaim := { program := "ythknflclfmnciaa", sum := "15b8dd4218f3b2d80d75db3741fc18448207fd13228732b1f46004bbf79bd4f2", func := "intervalmon/intervalmonlaw04.IntervalArithmetic", spec := "intervalArithmetic", inPlace := ["math/bits.Add64", "math/bits.Sub64"], unfollowed := true, recurses := true, named := ["math/bits.divideError", "math/bits.overflowError"], apart := false, narrowed := true }
def IntervalArithmeticUptoSaid : Prop := intervalArithmeticUptoRow.holds Try.pinned (OpenSpec.upto intervalArithmeticSpec)

/-- 'intervalmonlaw04.IntervalTight', WHERE WHAT IT READS IS OF BULK AT MOST 1048576: true; the input reads as it did. -/
def intervalTightUptoRow : OpenClaim := { program := "ythknflclfmnciaa", sum := "15b8dd4218f3b2d80d75db3741fc18448207fd13228732b1f46004bbf79bd4f2", func := "intervalmon/intervalmonlaw04.IntervalTight", spec := "intervalTight", inPlace := ["math/bits.Add64", "math/bits.Sub64"], unfollowed := true, recurses := true, named := ["math/bits.divideError", "math/bits.overflowError"], apart := false, narrowed := true }
def IntervalTightUptoSaid : Prop := intervalTightUptoRow.holds Try.pinned (OpenSpec.upto intervalTightSpec)

/-- 'intervalmonlaw04.IntervalSound', WHERE WHAT IT READS IS OF BULK AT MOST 1048576: true; the input reads as it did. -/
def intervalSoundUptoRow : OpenClaim := { program := "ythknflclfmnciaa", sum := "15b8dd4218f3b2d80d75db3741fc18448207fd13228732b1f46004bbf79bd4f2", func := "intervalmon/intervalmonlaw04.IntervalSound", spec := "intervalSound", inPlace := ["math/bits.Add64", "math/bits.Sub64"], unfollowed := true, recurses := true, named := ["math/bits.divideError", "math/bits.overflowError"], apart := false, narrowed := true }
def IntervalSoundUptoSaid : Prop := intervalSoundUptoRow.holds Try.pinned (OpenSpec.upto intervalSoundSpec)

/-- 'intervalmonlaw04.IntervalMonotone', WHERE WHAT IT READS IS OF BULK AT MOST 1048576: true; the input reads as it did. -/
def intervalMonotoneUptoRow : OpenClaim := { program := "ythknflclfmnciaa", sum := "15b8dd4218f3b2d80d75db3741fc18448207fd13228732b1f46004bbf79bd4f2", func := "intervalmon/intervalmonlaw04.IntervalMonotone", spec := "intervalMonotone", inPlace := ["math/bits.Add64", "math/bits.Sub64"], unfollowed := true, recurses := true, named := ["math/bits.divideError", "math/bits.overflowError"], apart := false, narrowed := true }
def IntervalMonotoneUptoSaid : Prop := intervalMonotoneUptoRow.holds Try.pinned (OpenSpec.upto intervalMonotoneSpec)

end Rows
end Go.Proofs.Ythknflclfmnciaa
