/-
  No cell of these rows narrows 'for every input' (looked for: loops, veiled, ifaces, maps, wideKeys, modest, calm, conditions, laid).
  DERIVED. THE GIVEN ROWS OF THIS SEAT. 12 by the template 'for every input the law returns true; each argument reads behind the call as it read before'; 0 by the template 'total and deterministic' (their statements: YtnoenmacakbhdaaTotals.lean).
  GIVEN WITH THE SEED: the statements are not yours to turn. If you find one false, say at which input.
  Laid BY PROGRAM, IN A SANDBOX (cutbox-rows.mjs): the forced cells as the released guide's own fill.sh prints them over the translation a57e59efcb251508… (all of the seat's roots in one cut). By AI agents, Wed Nov 11 2026. No macro, syntax, notation, axiom, sorry.
-/
import Derived.Test.YtnoenmacakbhdaaChecked
import GoSem.Claim
import GoSem.ClaimJoined
import GoSem.ClaimMapViews
import Derived.JoinedTies
import Derived.KernelRfl
namespace Go.Proofs.Ytnoenmacakbhdaa
/- THE CELL 'sum', in the pinned program and in every row, IS THE sha256 OF THE DUMP (.gsa) THAT YtnoenmacakbhdaaProg.lean LOADS. Nothing in Lean hashes anything: it is a label: what it is worth is what the hold of that sum in a sandbox is worth. -/
noncomputable def Try.pinned : Pinned := { name := "ytnoenmacakbhdaa", sum := "a57e59efcb2515082ec1b746fd0d91c47d19b638e8a24bef60f85002eb8dcd55", checked := Try.checked }
namespace Rows
def none {H : Type} : Left H := { results := [], args := [] }

/-- 'intervalmonlaw12.EnvelopeChange': WHATEVER THE INPUT: true; the input reads as it did. -/
def envelopeChangeSpec : ChangeSpec := { name := "envelopeChange", fn := fun _ => fun
  | [d1, d2, d3, d4, d5, d6] => { results := [.lit (.bool true)], args := [d1, d2, d3, d4, d5, d6] }
  | _ => none }
def envelopeChangeRow : OpenClaim := { program := "ytnoenmacakbhdaa", sum := "a57e59efcb2515082ec1b746fd0d91c47d19b638e8a24bef60f85002eb8dcd55", func := "intervalmon/intervalmonlaw12.EnvelopeChange", spec := "envelopeChange", unfollowed := true, recurses := true, apart := false }
def EnvelopeChangeSaid : Prop := envelopeChangeRow.holds Try.pinned (OpenSpec.ofChange envelopeChangeSpec)

/-- ITS FALSE NEIGHBOUR: 'it returns false'. Refute it at one input. -/
def envelopeChangeWrong : ChangeSpec := { name := "envelopeChange", fn := fun _ => fun
  | [d1, d2, d3, d4, d5, d6] => { results := [.lit (.bool false)], args := [d1, d2, d3, d4, d5, d6] }
  | _ => none }
def EnvelopeChangeWrongFalsely : Prop := envelopeChangeRow.holds Try.pinned (OpenSpec.ofChange envelopeChangeWrong)

/-- 'intervalmonlaw12.EnvelopeWhy': WHATEVER THE INPUT: true; the input reads as it did. -/
def envelopeWhySpec : ChangeSpec := { name := "envelopeWhy", fn := fun _ => fun
  | [d1, d2, d3, d4, d5, d6] => { results := [.lit (.bool true)], args := [d1, d2, d3, d4, d5, d6] }
  | _ => none }
def envelopeWhyRow : OpenClaim := { program := "ytnoenmacakbhdaa", sum := "a57e59efcb2515082ec1b746fd0d91c47d19b638e8a24bef60f85002eb8dcd55", func := "intervalmon/intervalmonlaw12.EnvelopeWhy", spec := "envelopeWhy", unfollowed := true, recurses := true, apart := false }
def EnvelopeWhySaid : Prop := envelopeWhyRow.holds Try.pinned (OpenSpec.ofChange envelopeWhySpec)

/-- ITS FALSE NEIGHBOUR: 'it returns false'. Refute it at one input. -/
def envelopeWhyWrong : ChangeSpec := { name := "envelopeWhy", fn := fun _ => fun
  | [d1, d2, d3, d4, d5, d6] => { results := [.lit (.bool false)], args := [d1, d2, d3, d4, d5, d6] }
  | _ => none }
def EnvelopeWhyWrongFalsely : Prop := envelopeWhyRow.holds Try.pinned (OpenSpec.ofChange envelopeWhyWrong)

/-- 'intervalmonlaw12.EnvelopeShapes': WHATEVER THE INPUT: true; the input reads as it did. -/
def envelopeShapesSpec : ChangeSpec := { name := "envelopeShapes", fn := fun _ => fun
  | [d1, d2, d3, d4, d5, d6] => { results := [.lit (.bool true)], args := [d1, d2, d3, d4, d5, d6] }
  | _ => none }
def envelopeShapesRow : OpenClaim := { program := "ytnoenmacakbhdaa", sum := "a57e59efcb2515082ec1b746fd0d91c47d19b638e8a24bef60f85002eb8dcd55", func := "intervalmon/intervalmonlaw12.EnvelopeShapes", spec := "envelopeShapes", unfollowed := true, recurses := true, apart := false }
def EnvelopeShapesSaid : Prop := envelopeShapesRow.holds Try.pinned (OpenSpec.ofChange envelopeShapesSpec)

/-- ITS FALSE NEIGHBOUR: 'it returns false'. Refute it at one input. -/
def envelopeShapesWrong : ChangeSpec := { name := "envelopeShapes", fn := fun _ => fun
  | [d1, d2, d3, d4, d5, d6] => { results := [.lit (.bool false)], args := [d1, d2, d3, d4, d5, d6] }
  | _ => none }
def EnvelopeShapesWrongFalsely : Prop := envelopeShapesRow.holds Try.pinned (OpenSpec.ofChange envelopeShapesWrong)

/-- 'intervalmonlaw13.HistoryCount': WHATEVER THE INPUT: true; the input reads as it did. -/
def historyCountSpec : ChangeSpec := { name := "historyCount", fn := fun _ => fun
  | [d1, d2, d3, d4, d5] => { results := [.lit (.bool true)], args := [d1, d2, d3, d4, d5] }
  | _ => none }
def historyCountRow : OpenClaim := { program := "ytnoenmacakbhdaa", sum := "a57e59efcb2515082ec1b746fd0d91c47d19b638e8a24bef60f85002eb8dcd55", func := "intervalmon/intervalmonlaw13.HistoryCount", spec := "historyCount", unfollowed := true, recurses := true, apart := false }
def HistoryCountSaid : Prop := historyCountRow.holds Try.pinned (OpenSpec.ofChange historyCountSpec)

/-- ITS FALSE NEIGHBOUR: 'it returns false'. Refute it at one input. -/
def historyCountWrong : ChangeSpec := { name := "historyCount", fn := fun _ => fun
  | [d1, d2, d3, d4, d5] => { results := [.lit (.bool false)], args := [d1, d2, d3, d4, d5] }
  | _ => none }
def HistoryCountWrongFalsely : Prop := historyCountRow.holds Try.pinned (OpenSpec.ofChange historyCountWrong)

/-- 'intervalmonlaw13.HistoryAgrees': WHATEVER THE INPUT: true; the input reads as it did. -/
def historyAgreesSpec : ChangeSpec := { name := "historyAgrees", fn := fun _ => fun
  | [d1, d2, d3, d4, d5, d6, d7, d8] => { results := [.lit (.bool true)], args := [d1, d2, d3, d4, d5, d6, d7, d8] }
  | _ => none }
def historyAgreesRow : OpenClaim := { program := "ytnoenmacakbhdaa", sum := "a57e59efcb2515082ec1b746fd0d91c47d19b638e8a24bef60f85002eb8dcd55", func := "intervalmon/intervalmonlaw13.HistoryAgrees", spec := "historyAgrees", unfollowed := true, recurses := true, apart := false }
def HistoryAgreesSaid : Prop := historyAgreesRow.holds Try.pinned (OpenSpec.ofChange historyAgreesSpec)

/-- ITS FALSE NEIGHBOUR: 'it returns false'. Refute it at one input. -/
def historyAgreesWrong : ChangeSpec := { name := "historyAgrees", fn := fun _ => fun
  | [d1, d2, d3, d4, d5, d6, d7, d8] => { results := [.lit (.bool false)], args := [d1, d2, d3, d4, d5, d6, d7, d8] }
  | _ => none }
def HistoryAgreesWrongFalsely : Prop := historyAgreesRow.holds Try.pinned (OpenSpec.ofChange historyAgreesWrong)

/-- 'intervalmonlaw13.HistorySteep': WHATEVER THE INPUT: true; the input reads as it did. -/
def historySteepSpec : ChangeSpec := { name := "historySteep", fn := fun _ => fun
  | [d1, d2, d3, d4, d5, d6, d7, d8] => { results := [.lit (.bool true)], args := [d1, d2, d3, d4, d5, d6, d7, d8] }
  | _ => none }
def historySteepRow : OpenClaim := { program := "ytnoenmacakbhdaa", sum := "a57e59efcb2515082ec1b746fd0d91c47d19b638e8a24bef60f85002eb8dcd55", func := "intervalmon/intervalmonlaw13.HistorySteep", spec := "historySteep", unfollowed := true, recurses := true, apart := false }
def HistorySteepSaid : Prop := historySteepRow.holds Try.pinned (OpenSpec.ofChange historySteepSpec)

/-- ITS FALSE NEIGHBOUR: 'it returns false'. Refute it at one input. -/
def historySteepWrong : ChangeSpec := { name := "historySteep", fn := fun _ => fun
  | [d1, d2, d3, d4, d5, d6, d7, d8] => { results := [.lit (.bool false)], args := [d1, d2, d3, d4, d5, d6, d7, d8] }
  | _ => none }
def HistorySteepWrongFalsely : Prop := historySteepRow.holds Try.pinned (OpenSpec.ofChange historySteepWrong)

/-- 'intervalmonlaw13.HistoryRandom': WHATEVER THE INPUT: true; the input reads as it did. -/
def historyRandomSpec : ChangeSpec := { name := "historyRandom", fn := fun _ => fun
  | [d1, d2, d3, d4, d5] => { results := [.lit (.bool true)], args := [d1, d2, d3, d4, d5] }
  | _ => none }
def historyRandomRow : OpenClaim := { program := "ytnoenmacakbhdaa", sum := "a57e59efcb2515082ec1b746fd0d91c47d19b638e8a24bef60f85002eb8dcd55", func := "intervalmon/intervalmonlaw13.HistoryRandom", spec := "historyRandom", unfollowed := true, recurses := true, apart := false }
def HistoryRandomSaid : Prop := historyRandomRow.holds Try.pinned (OpenSpec.ofChange historyRandomSpec)

/-- ITS FALSE NEIGHBOUR: 'it returns false'. Refute it at one input. -/
def historyRandomWrong : ChangeSpec := { name := "historyRandom", fn := fun _ => fun
  | [d1, d2, d3, d4, d5] => { results := [.lit (.bool false)], args := [d1, d2, d3, d4, d5] }
  | _ => none }
def HistoryRandomWrongFalsely : Prop := historyRandomRow.holds Try.pinned (OpenSpec.ofChange historyRandomWrong)

/-- 'intervalmonlaw13.HistoryMore': WHATEVER THE INPUT: true; the input reads as it did. -/
def historyMoreSpec : ChangeSpec := { name := "historyMore", fn := fun _ => fun
  | [d1, d2, d3, d4, d5, d6] => { results := [.lit (.bool true)], args := [d1, d2, d3, d4, d5, d6] }
  | _ => none }
def historyMoreRow : OpenClaim := { program := "ytnoenmacakbhdaa", sum := "a57e59efcb2515082ec1b746fd0d91c47d19b638e8a24bef60f85002eb8dcd55", func := "intervalmon/intervalmonlaw13.HistoryMore", spec := "historyMore", unfollowed := true, recurses := true, apart := false }
def HistoryMoreSaid : Prop := historyMoreRow.holds Try.pinned (OpenSpec.ofChange historyMoreSpec)

/-- ITS FALSE NEIGHBOUR: 'it returns false'. Refute it at one input. -/
def historyMoreWrong : ChangeSpec := { name := "historyMore", fn := fun _ => fun
  | [d1, d2, d3, d4, d5, d6] => { results := [.lit (.bool false)], args := [d1, d2, d3, d4, d5, d6] }
  | _ => none }
def HistoryMoreWrongFalsely : Prop := historyMoreRow.holds Try.pinned (OpenSpec.ofChange historyMoreWrong)

/-- 'intervalmonlaw13.HistoryThrough': WHATEVER THE INPUT: true; the input reads as it did. -/
def historyThroughSpec : ChangeSpec := { name := "historyThrough", fn := fun _ => fun
  | [d1, d2, d3, d4, d5, d6, d7] => { results := [.lit (.bool true)], args := [d1, d2, d3, d4, d5, d6, d7] }
  | _ => none }
def historyThroughRow : OpenClaim := { program := "ytnoenmacakbhdaa", sum := "a57e59efcb2515082ec1b746fd0d91c47d19b638e8a24bef60f85002eb8dcd55", func := "intervalmon/intervalmonlaw13.HistoryThrough", spec := "historyThrough", unfollowed := true, recurses := true, apart := false }
def HistoryThroughSaid : Prop := historyThroughRow.holds Try.pinned (OpenSpec.ofChange historyThroughSpec)

/-- ITS FALSE NEIGHBOUR: 'it returns false'. Refute it at one input. -/
def historyThroughWrong : ChangeSpec := { name := "historyThrough", fn := fun _ => fun
  | [d1, d2, d3, d4, d5, d6, d7] => { results := [.lit (.bool false)], args := [d1, d2, d3, d4, d5, d6, d7] }
  | _ => none }
def HistoryThroughWrongFalsely : Prop := historyThroughRow.holds Try.pinned (OpenSpec.ofChange historyThroughWrong)

/-- 'intervalmonlaw13.HistoryLattice': WHATEVER THE INPUT: true; the input reads as it did. -/
def historyLatticeSpec : ChangeSpec := { name := "historyLattice", fn := fun _ => fun
  | [d1, d2, d3, d4, d5, d6, d7, d8] => { results := [.lit (.bool true)], args := [d1, d2, d3, d4, d5, d6, d7, d8] }
  | _ => none }
def historyLatticeRow : OpenClaim := { program := "ytnoenmacakbhdaa", sum := "a57e59efcb2515082ec1b746fd0d91c47d19b638e8a24bef60f85002eb8dcd55", func := "intervalmon/intervalmonlaw13.HistoryLattice", spec := "historyLattice", unfollowed := true, recurses := true, apart := false }
def HistoryLatticeSaid : Prop := historyLatticeRow.holds Try.pinned (OpenSpec.ofChange historyLatticeSpec)

/-- ITS FALSE NEIGHBOUR: 'it returns false'. Refute it at one input. -/
def historyLatticeWrong : ChangeSpec := { name := "historyLattice", fn := fun _ => fun
  | [d1, d2, d3, d4, d5, d6, d7, d8] => { results := [.lit (.bool false)], args := [d1, d2, d3, d4, d5, d6, d7, d8] }
  | _ => none }
def HistoryLatticeWrongFalsely : Prop := historyLatticeRow.holds Try.pinned (OpenSpec.ofChange historyLatticeWrong)

/-- 'intervalmonlaw12.EnvelopeNarrows': WHATEVER THE INPUT: true; the input reads as it did. -/
def envelopeNarrowsSpec : ChangeSpec := { name := "envelopeNarrows", fn := fun _ => fun
  | [d1, d2, d3, d4, d5] => { results := [.lit (.bool true)], args := [d1, d2, d3, d4, d5] }
  | _ => none }
def envelopeNarrowsRow : OpenClaim := { program := "ytnoenmacakbhdaa", sum := "a57e59efcb2515082ec1b746fd0d91c47d19b638e8a24bef60f85002eb8dcd55", func := "intervalmon/intervalmonlaw12.EnvelopeNarrows", spec := "envelopeNarrows", unfollowed := true, recurses := true, apart := false }
def EnvelopeNarrowsSaid : Prop := envelopeNarrowsRow.holds Try.pinned (OpenSpec.ofChange envelopeNarrowsSpec)

/-- ITS FALSE NEIGHBOUR: 'it returns false'. Refute it at one input. -/
def envelopeNarrowsWrong : ChangeSpec := { name := "envelopeNarrows", fn := fun _ => fun
  | [d1, d2, d3, d4, d5] => { results := [.lit (.bool false)], args := [d1, d2, d3, d4, d5] }
  | _ => none }
def EnvelopeNarrowsWrongFalsely : Prop := envelopeNarrowsRow.holds Try.pinned (OpenSpec.ofChange envelopeNarrowsWrong)

/-- 'intervalmonlaw13.HistoryExtremes': WHATEVER THE INPUT: true; the input reads as it did. -/
def historyExtremesSpec : ChangeSpec := { name := "historyExtremes", fn := fun _ => fun
  | [d1, d2, d3, d4] => { results := [.lit (.bool true)], args := [d1, d2, d3, d4] }
  | _ => none }
def historyExtremesRow : OpenClaim := { program := "ytnoenmacakbhdaa", sum := "a57e59efcb2515082ec1b746fd0d91c47d19b638e8a24bef60f85002eb8dcd55", func := "intervalmon/intervalmonlaw13.HistoryExtremes", spec := "historyExtremes", unfollowed := true, recurses := true, apart := false }
def HistoryExtremesSaid : Prop := historyExtremesRow.holds Try.pinned (OpenSpec.ofChange historyExtremesSpec)

/-- ITS FALSE NEIGHBOUR: 'it returns false'. Refute it at one input. -/
def historyExtremesWrong : ChangeSpec := { name := "historyExtremes", fn := fun _ => fun
  | [d1, d2, d3, d4] => { results := [.lit (.bool false)], args := [d1, d2, d3, d4] }
  | _ => none }
def HistoryExtremesWrongFalsely : Prop := historyExtremesRow.holds Try.pinned (OpenSpec.ofChange historyExtremesWrong)

/- THE SECOND FORM. 'bulk': how many values and letters a reading holds, each counted each time it is reached (what is shared counts as often as it is met; a slice's spare places count too). A statement '..UptoSaid' is the law's where the arguments, and the package variables that the reading takes, are together of bulk at most 1048576: NARROWER than '..Said'. Prove '..Said' where nothing that the law and all that it calls make is longer than what came in: it says more and counts as full. Else prove '..UptoSaid'. A law counts once. -/
mutual
def uptoBulk {H : Type} : DataW H → Nat
  | .lit (.string bytes) => bytes.length + 1
  | .lit _ => 1
  | .nil => 1
  | .ptr d => uptoBulk d + 1
  | .slice elems spare => uptoBulkAll elems + uptoBulkAll spare + 1
  | .agg parts => uptoBulkAll parts + 1
  | .iface _ d => uptoBulk d + 1
  | .map entries => uptoBulkEntries entries + 1
  | .held _ => 1
def uptoBulkAll {H : Type} : List (DataW H) → Nat
  | [] => 0
  | d :: r => uptoBulk d + uptoBulkAll r
def uptoBulkEntries {H : Type} : List (Lit × DataW H) → Nat
  | [] => 0
  | x :: r => uptoBulkEntry x + uptoBulkEntries r
def uptoBulkEntry {H : Type} : Lit × DataW H → Nat
  | (.string bytes, d) => bytes.length + uptoBulk d + 1
  | (_, d) => uptoBulk d + 1
 end
def uptoSmall : (H : Type) → List (DataW H) → Bool := fun _ ds => decide (uptoBulkAll ds ≤ 1048576)
def OpenSpec.upto (s : _root_.Go.ChangeSpec) : _root_.Go.OpenSpec := { _root_.Go.OpenSpec.ofChange s with cond := some uptoSmall }

/-- 'intervalmonlaw12.EnvelopeChange', WHERE WHAT IT READS IS OF BULK AT MOST 1048576: true; the input reads as it did. -/
def envelopeChangeUptoRow : OpenClaim := { program := "ytnoenmacakbhdaa", sum := "a57e59efcb2515082ec1b746fd0d91c47d19b638e8a24bef60f85002eb8dcd55", func := "intervalmon/intervalmonlaw12.EnvelopeChange", spec := "envelopeChange", unfollowed := true, recurses := true, apart := false, narrowed := true }
def EnvelopeChangeUptoSaid : Prop := envelopeChangeUptoRow.holds Try.pinned (OpenSpec.upto envelopeChangeSpec)

/-- 'intervalmonlaw12.EnvelopeWhy', WHERE WHAT IT READS IS OF BULK AT MOST 1048576: true; the input reads as it did. -/
def envelopeWhyUptoRow : OpenClaim := { program := "ytnoenmacakbhdaa", sum := "a57e59efcb2515082ec1b746fd0d91c47d19b638e8a24bef60f85002eb8dcd55", func := "intervalmon/intervalmonlaw12.EnvelopeWhy", spec := "envelopeWhy", unfollowed := true, recurses := true, apart := false, narrowed := true }
def EnvelopeWhyUptoSaid : Prop := envelopeWhyUptoRow.holds Try.pinned (OpenSpec.upto envelopeWhySpec)

/-- 'intervalmonlaw12.EnvelopeShapes', WHERE WHAT IT READS IS OF BULK AT MOST 1048576: true; the input reads as it did. -/
def envelopeShapesUptoRow : OpenClaim := { program := "ytnoenmacakbhdaa", sum := "a57e59efcb2515082ec1b746fd0d91c47d19b638e8a24bef60f85002eb8dcd55", func := "intervalmon/intervalmonlaw12.EnvelopeShapes", spec := "envelopeShapes", unfollowed := true, recurses := true, apart := false, narrowed := true }
def EnvelopeShapesUptoSaid : Prop := envelopeShapesUptoRow.holds Try.pinned (OpenSpec.upto envelopeShapesSpec)

/-- 'intervalmonlaw13.HistoryCount', WHERE WHAT IT READS IS OF BULK AT MOST 1048576: true; the input reads as it did. -/
def historyCountUptoRow : OpenClaim := { program := "ytnoenmacakbhdaa", sum := "a57e59efcb2515082ec1b746fd0d91c47d19b638e8a24bef60f85002eb8dcd55", func := "intervalmon/intervalmonlaw13.HistoryCount", spec := "historyCount", unfollowed := true, recurses := true, apart := false, narrowed := true }
def HistoryCountUptoSaid : Prop := historyCountUptoRow.holds Try.pinned (OpenSpec.upto historyCountSpec)

/-- 'intervalmonlaw13.HistoryAgrees', WHERE WHAT IT READS IS OF BULK AT MOST 1048576: true; the input reads as it did. -/
def historyAgreesUptoRow : OpenClaim := { program := "ytnoenmacakbhdaa", sum := "a57e59efcb2515082ec1b746fd0d91c47d19b638e8a24bef60f85002eb8dcd55", func := "intervalmon/intervalmonlaw13.HistoryAgrees", spec := "historyAgrees", unfollowed := true, recurses := true, apart := false, narrowed := true }
def HistoryAgreesUptoSaid : Prop := historyAgreesUptoRow.holds Try.pinned (OpenSpec.upto historyAgreesSpec)

/-- 'intervalmonlaw13.HistorySteep', WHERE WHAT IT READS IS OF BULK AT MOST 1048576: true; the input reads as it did. -/
def historySteepUptoRow : OpenClaim := { program := "ytnoenmacakbhdaa", sum := "a57e59efcb2515082ec1b746fd0d91c47d19b638e8a24bef60f85002eb8dcd55", func := "intervalmon/intervalmonlaw13.HistorySteep", spec := "historySteep", unfollowed := true, recurses := true, apart := false, narrowed := true }
def HistorySteepUptoSaid : Prop := historySteepUptoRow.holds Try.pinned (OpenSpec.upto historySteepSpec)

/-- 'intervalmonlaw13.HistoryRandom', WHERE WHAT IT READS IS OF BULK AT MOST 1048576: true; the input reads as it did. -/
def historyRandomUptoRow : OpenClaim := { program := "ytnoenmacakbhdaa", sum := "a57e59efcb2515082ec1b746fd0d91c47d19b638e8a24bef60f85002eb8dcd55", func := "intervalmon/intervalmonlaw13.HistoryRandom", spec := "historyRandom", unfollowed := true, recurses := true, apart := false, narrowed := true }
def HistoryRandomUptoSaid : Prop := historyRandomUptoRow.holds Try.pinned (OpenSpec.upto historyRandomSpec)

/-- 'intervalmonlaw13.HistoryMore', WHERE WHAT IT READS IS OF BULK AT MOST 1048576: true; the input reads as it did. -/
def historyMoreUptoRow : OpenClaim := { program := "ytnoenmacakbhdaa", sum := "a57e59efcb2515082ec1b746fd0d91c47d19b638e8a24bef60f85002eb8dcd55", func := "intervalmon/intervalmonlaw13.HistoryMore", spec := "historyMore", unfollowed := true, recurses := true, apart := false, narrowed := true }
def HistoryMoreUptoSaid : Prop := historyMoreUptoRow.holds Try.pinned (OpenSpec.upto historyMoreSpec)

/-- 'intervalmonlaw13.HistoryThrough', WHERE WHAT IT READS IS OF BULK AT MOST 1048576: true; the input reads as it did. -/
def historyThroughUptoRow : OpenClaim := { program := "ytnoenmacakbhdaa", sum := "a57e59efcb2515082ec1b746fd0d91c47d19b638e8a24bef60f85002eb8dcd55", func := "intervalmon/intervalmonlaw13.HistoryThrough", spec := "historyThrough", unfollowed := true, recurses := true, apart := false, narrowed := true }
def HistoryThroughUptoSaid : Prop := historyThroughUptoRow.holds Try.pinned (OpenSpec.upto historyThroughSpec)

/-- 'intervalmonlaw13.HistoryLattice', WHERE WHAT IT READS IS OF BULK AT MOST 1048576: true; the input reads as it did. -/
def historyLatticeUptoRow : OpenClaim := { program := "ytnoenmacakbhdaa", sum := "a57e59efcb2515082ec1b746fd0d91c47d19b638e8a24bef60f85002eb8dcd55", func := "intervalmon/intervalmonlaw13.HistoryLattice", spec := "historyLattice", unfollowed := true, recurses := true, apart := false, narrowed := true }
def HistoryLatticeUptoSaid : Prop := historyLatticeUptoRow.holds Try.pinned (OpenSpec.upto historyLatticeSpec)

/-- 'intervalmonlaw12.EnvelopeNarrows', WHERE WHAT IT READS IS OF BULK AT MOST 1048576: true; the input reads as it did. -/
def envelopeNarrowsUptoRow : OpenClaim := { program := "ytnoenmacakbhdaa", sum := "a57e59efcb2515082ec1b746fd0d91c47d19b638e8a24bef60f85002eb8dcd55", func := "intervalmon/intervalmonlaw12.EnvelopeNarrows", spec := "envelopeNarrows", unfollowed := true, recurses := true, apart := false, narrowed := true }
def EnvelopeNarrowsUptoSaid : Prop := envelopeNarrowsUptoRow.holds Try.pinned (OpenSpec.upto envelopeNarrowsSpec)

/-- 'intervalmonlaw13.HistoryExtremes', WHERE WHAT IT READS IS OF BULK AT MOST 1048576: true; the input reads as it did. -/
def historyExtremesUptoRow : OpenClaim := { program := "ytnoenmacakbhdaa", sum := "a57e59efcb2515082ec1b746fd0d91c47d19b638e8a24bef60f85002eb8dcd55", func := "intervalmon/intervalmonlaw13.HistoryExtremes", spec := "historyExtremes", unfollowed := true, recurses := true, apart := false, narrowed := true }
def HistoryExtremesUptoSaid : Prop := historyExtremesUptoRow.holds Try.pinned (OpenSpec.upto historyExtremesSpec)

end Rows
end Go.Proofs.Ytnoenmacakbhdaa
