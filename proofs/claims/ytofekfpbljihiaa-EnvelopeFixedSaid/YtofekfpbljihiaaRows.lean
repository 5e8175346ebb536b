/-
  No cell of these rows narrows 'for every input' (looked for: loops, veiled, ifaces, maps, wideKeys, modest, calm, conditions, laid).
  DERIVED. THE GIVEN ROWS OF THIS SEAT. 12 by the template 'for every input the law returns true; each argument reads behind the call as it read before'; 0 by the template 'total and deterministic' (their statements: YtofekfpbljihiaaTotals.lean).
  GIVEN WITH THE SEED: the statements are not yours to turn. If you find one false, say at which input.
  Laid BY PROGRAM, IN A SANDBOX (cutbox-rows.mjs): the forced cells as the released guide's own fill.sh prints them over the translation 94c576f1eda68903… (all of the seat's roots in one cut). By AI agents, Wed Nov 11 2026. No macro, syntax, notation, axiom, sorry.
-/
import Derived.Test.YtofekfpbljihiaaChecked
import GoSem.Claim
import GoSem.ClaimJoined
import GoSem.ClaimMapViews
import Derived.JoinedTies
import Derived.KernelRfl
namespace Go.Proofs.Ytofekfpbljihiaa
/- THE CELL 'sum', in the pinned program and in every row, IS THE sha256 OF THE DUMP (.gsa) THAT YtofekfpbljihiaaProg.lean LOADS. Nothing in Lean hashes anything: it is a label: what it is worth is what the hold of that sum in a sandbox is worth. -/
noncomputable def Try.pinned : Pinned := { name := "ytofekfpbljihiaa", sum := "94c576f1eda689034d16b4ada2378b0c4496f26229928a6a31800abb89dd0410", checked := Try.checked }
namespace Rows
def none {H : Type} : Left H := { results := [], args := [] }

/-- 'intervalmonlaw11.ClaimsOf': WHATEVER THE INPUT: true; the input reads as it did. -/
def claimsOfSpec : ChangeSpec := { name := "claimsOf", fn := fun _ => fun
  | [d1, d2, d3, d4, d5, d6] => { results := [.lit (.bool true)], args := [d1, d2, d3, d4, d5, d6] }
  | _ => none }
def claimsOfRow : OpenClaim := { program := "ytofekfpbljihiaa", sum := "94c576f1eda689034d16b4ada2378b0c4496f26229928a6a31800abb89dd0410", func := "intervalmon/intervalmonlaw11.ClaimsOf", spec := "claimsOf", apart := false }
def ClaimsOfSaid : Prop := claimsOfRow.holds Try.pinned (OpenSpec.ofChange claimsOfSpec)

/-- ITS FALSE NEIGHBOUR: 'it returns false'. Refute it at one input. -/
def claimsOfWrong : ChangeSpec := { name := "claimsOf", fn := fun _ => fun
  | [d1, d2, d3, d4, d5, d6] => { results := [.lit (.bool false)], args := [d1, d2, d3, d4, d5, d6] }
  | _ => none }
def ClaimsOfWrongFalsely : Prop := claimsOfRow.holds Try.pinned (OpenSpec.ofChange claimsOfWrong)

/-- 'intervalmonlaw11.ClaimsBands': WHATEVER THE INPUT: true; the input reads as it did. -/
def claimsBandsSpec : ChangeSpec := { name := "claimsBands", fn := fun _ => fun
  | [d1, d2, d3, d4, d5, d6, d7] => { results := [.lit (.bool true)], args := [d1, d2, d3, d4, d5, d6, d7] }
  | _ => none }
def claimsBandsRow : OpenClaim := { program := "ytofekfpbljihiaa", sum := "94c576f1eda689034d16b4ada2378b0c4496f26229928a6a31800abb89dd0410", func := "intervalmon/intervalmonlaw11.ClaimsBands", spec := "claimsBands", apart := false }
def ClaimsBandsSaid : Prop := claimsBandsRow.holds Try.pinned (OpenSpec.ofChange claimsBandsSpec)

/-- ITS FALSE NEIGHBOUR: 'it returns false'. Refute it at one input. -/
def claimsBandsWrong : ChangeSpec := { name := "claimsBands", fn := fun _ => fun
  | [d1, d2, d3, d4, d5, d6, d7] => { results := [.lit (.bool false)], args := [d1, d2, d3, d4, d5, d6, d7] }
  | _ => none }
def ClaimsBandsWrongFalsely : Prop := claimsBandsRow.holds Try.pinned (OpenSpec.ofChange claimsBandsWrong)

/-- 'intervalmonlaw11.ClaimsSound': WHATEVER THE INPUT: true; the input reads as it did. -/
def claimsSoundSpec : ChangeSpec := { name := "claimsSound", fn := fun _ => fun
  | [d1, d2, d3, d4, d5] => { results := [.lit (.bool true)], args := [d1, d2, d3, d4, d5] }
  | _ => none }
def claimsSoundRow : OpenClaim := { program := "ytofekfpbljihiaa", sum := "94c576f1eda689034d16b4ada2378b0c4496f26229928a6a31800abb89dd0410", func := "intervalmon/intervalmonlaw11.ClaimsSound", spec := "claimsSound", apart := false }
def ClaimsSoundSaid : Prop := claimsSoundRow.holds Try.pinned (OpenSpec.ofChange claimsSoundSpec)

/-- ITS FALSE NEIGHBOUR: 'it returns false'. Refute it at one input. -/
def claimsSoundWrong : ChangeSpec := { name := "claimsSound", fn := fun _ => fun
  | [d1, d2, d3, d4, d5] => { results := [.lit (.bool false)], args := [d1, d2, d3, d4, d5] }
  | _ => none }
def ClaimsSoundWrongFalsely : Prop := claimsSoundRow.holds Try.pinned (OpenSpec.ofChange claimsSoundWrong)

/-- 'intervalmonlaw11.ClaimsHolds': WHATEVER THE INPUT: true; the input reads as it did. -/
def claimsHoldsSpec : ChangeSpec := { name := "claimsHolds", fn := fun _ => fun
  | [d1, d2, d3, d4] => { results := [.lit (.bool true)], args := [d1, d2, d3, d4] }
  | _ => none }
def claimsHoldsRow : OpenClaim := { program := "ytofekfpbljihiaa", sum := "94c576f1eda689034d16b4ada2378b0c4496f26229928a6a31800abb89dd0410", func := "intervalmon/intervalmonlaw11.ClaimsHolds", spec := "claimsHolds", apart := false }
def ClaimsHoldsSaid : Prop := claimsHoldsRow.holds Try.pinned (OpenSpec.ofChange claimsHoldsSpec)

/-- ITS FALSE NEIGHBOUR: 'it returns false'. Refute it at one input. -/
def claimsHoldsWrong : ChangeSpec := { name := "claimsHolds", fn := fun _ => fun
  | [d1, d2, d3, d4] => { results := [.lit (.bool false)], args := [d1, d2, d3, d4] }
  | _ => none }
def ClaimsHoldsWrongFalsely : Prop := claimsHoldsRow.holds Try.pinned (OpenSpec.ofChange claimsHoldsWrong)

/-- 'intervalmonlaw11.ClaimsEquivalent': WHATEVER THE INPUT: true; the input reads as it did. -/
def claimsEquivalentSpec : ChangeSpec := { name := "claimsEquivalent", fn := fun _ => fun
  | [d1, d2, d3, d4, d5] => { results := [.lit (.bool true)], args := [d1, d2, d3, d4, d5] }
  | _ => none }
def claimsEquivalentRow : OpenClaim := { program := "ytofekfpbljihiaa", sum := "94c576f1eda689034d16b4ada2378b0c4496f26229928a6a31800abb89dd0410", func := "intervalmon/intervalmonlaw11.ClaimsEquivalent", spec := "claimsEquivalent", apart := false }
def ClaimsEquivalentSaid : Prop := claimsEquivalentRow.holds Try.pinned (OpenSpec.ofChange claimsEquivalentSpec)

/-- ITS FALSE NEIGHBOUR: 'it returns false'. Refute it at one input. -/
def claimsEquivalentWrong : ChangeSpec := { name := "claimsEquivalent", fn := fun _ => fun
  | [d1, d2, d3, d4, d5] => { results := [.lit (.bool false)], args := [d1, d2, d3, d4, d5] }
  | _ => none }
def ClaimsEquivalentWrongFalsely : Prop := claimsEquivalentRow.holds Try.pinned (OpenSpec.ofChange claimsEquivalentWrong)

/-- 'intervalmonlaw11.ClaimsImplies': WHATEVER THE INPUT: true; the input reads as it did. -/
def claimsImpliesSpec : ChangeSpec := { name := "claimsImplies", fn := fun _ => fun
  | [d1, d2, d3, d4, d5] => { results := [.lit (.bool true)], args := [d1, d2, d3, d4, d5] }
  | _ => none }
def claimsImpliesRow : OpenClaim := { program := "ytofekfpbljihiaa", sum := "94c576f1eda689034d16b4ada2378b0c4496f26229928a6a31800abb89dd0410", func := "intervalmon/intervalmonlaw11.ClaimsImplies", spec := "claimsImplies", apart := false }
def ClaimsImpliesSaid : Prop := claimsImpliesRow.holds Try.pinned (OpenSpec.ofChange claimsImpliesSpec)

/-- ITS FALSE NEIGHBOUR: 'it returns false'. Refute it at one input. -/
def claimsImpliesWrong : ChangeSpec := { name := "claimsImplies", fn := fun _ => fun
  | [d1, d2, d3, d4, d5] => { results := [.lit (.bool false)], args := [d1, d2, d3, d4, d5] }
  | _ => none }
def ClaimsImpliesWrongFalsely : Prop := claimsImpliesRow.holds Try.pinned (OpenSpec.ofChange claimsImpliesWrong)

/-- 'intervalmonlaw11.ClaimsSorted': WHATEVER THE INPUT: true; the input reads as it did. -/
def claimsSortedSpec : ChangeSpec := { name := "claimsSorted", fn := fun _ => fun
  | [d1, d2, d3] => { results := [.lit (.bool true)], args := [d1, d2, d3] }
  | _ => none }
def claimsSortedRow : OpenClaim := { program := "ytofekfpbljihiaa", sum := "94c576f1eda689034d16b4ada2378b0c4496f26229928a6a31800abb89dd0410", func := "intervalmon/intervalmonlaw11.ClaimsSorted", spec := "claimsSorted", unfollowed := true, recurses := true, apart := false }
def ClaimsSortedSaid : Prop := claimsSortedRow.holds Try.pinned (OpenSpec.ofChange claimsSortedSpec)

/-- ITS FALSE NEIGHBOUR: 'it returns false'. Refute it at one input. -/
def claimsSortedWrong : ChangeSpec := { name := "claimsSorted", fn := fun _ => fun
  | [d1, d2, d3] => { results := [.lit (.bool false)], args := [d1, d2, d3] }
  | _ => none }
def ClaimsSortedWrongFalsely : Prop := claimsSortedRow.holds Try.pinned (OpenSpec.ofChange claimsSortedWrong)

/-- 'intervalmonlaw11.ClaimsNormal': WHATEVER THE INPUT: true; the input reads as it did. -/
def claimsNormalSpec : ChangeSpec := { name := "claimsNormal", fn := fun _ => fun
  | [d1, d2, d3, d4, d5] => { results := [.lit (.bool true)], args := [d1, d2, d3, d4, d5] }
  | _ => none }
def claimsNormalRow : OpenClaim := { program := "ytofekfpbljihiaa", sum := "94c576f1eda689034d16b4ada2378b0c4496f26229928a6a31800abb89dd0410", func := "intervalmon/intervalmonlaw11.ClaimsNormal", spec := "claimsNormal", unfollowed := true, recurses := true, apart := false }
def ClaimsNormalSaid : Prop := claimsNormalRow.holds Try.pinned (OpenSpec.ofChange claimsNormalSpec)

/-- ITS FALSE NEIGHBOUR: 'it returns false'. Refute it at one input. -/
def claimsNormalWrong : ChangeSpec := { name := "claimsNormal", fn := fun _ => fun
  | [d1, d2, d3, d4, d5] => { results := [.lit (.bool false)], args := [d1, d2, d3, d4, d5] }
  | _ => none }
def ClaimsNormalWrongFalsely : Prop := claimsNormalRow.holds Try.pinned (OpenSpec.ofChange claimsNormalWrong)

/-- 'intervalmonlaw12.EnvelopeTight': WHATEVER THE INPUT: true; the input reads as it did. -/
def envelopeTightSpec : ChangeSpec := { name := "envelopeTight", fn := fun _ => fun
  | [d1, d2, d3, d4, d5] => { results := [.lit (.bool true)], args := [d1, d2, d3, d4, d5] }
  | _ => none }
def envelopeTightRow : OpenClaim := { program := "ytofekfpbljihiaa", sum := "94c576f1eda689034d16b4ada2378b0c4496f26229928a6a31800abb89dd0410", func := "intervalmon/intervalmonlaw12.EnvelopeTight", spec := "envelopeTight", unfollowed := true, recurses := true, apart := false }
def EnvelopeTightSaid : Prop := envelopeTightRow.holds Try.pinned (OpenSpec.ofChange envelopeTightSpec)

/-- ITS FALSE NEIGHBOUR: 'it returns false'. Refute it at one input. -/
def envelopeTightWrong : ChangeSpec := { name := "envelopeTight", fn := fun _ => fun
  | [d1, d2, d3, d4, d5] => { results := [.lit (.bool false)], args := [d1, d2, d3, d4, d5] }
  | _ => none }
def EnvelopeTightWrongFalsely : Prop := envelopeTightRow.holds Try.pinned (OpenSpec.ofChange envelopeTightWrong)

/-- 'intervalmonlaw12.EnvelopeClash': WHATEVER THE INPUT: true; the input reads as it did. -/
def envelopeClashSpec : ChangeSpec := { name := "envelopeClash", fn := fun _ => fun
  | [d1, d2, d3] => { results := [.lit (.bool true)], args := [d1, d2, d3] }
  | _ => none }
def envelopeClashRow : OpenClaim := { program := "ytofekfpbljihiaa", sum := "94c576f1eda689034d16b4ada2378b0c4496f26229928a6a31800abb89dd0410", func := "intervalmon/intervalmonlaw12.EnvelopeClash", spec := "envelopeClash", unfollowed := true, recurses := true, apart := false }
def EnvelopeClashSaid : Prop := envelopeClashRow.holds Try.pinned (OpenSpec.ofChange envelopeClashSpec)

/-- ITS FALSE NEIGHBOUR: 'it returns false'. Refute it at one input. -/
def envelopeClashWrong : ChangeSpec := { name := "envelopeClash", fn := fun _ => fun
  | [d1, d2, d3] => { results := [.lit (.bool false)], args := [d1, d2, d3] }
  | _ => none }
def EnvelopeClashWrongFalsely : Prop := envelopeClashRow.holds Try.pinned (OpenSpec.ofChange envelopeClashWrong)

/-- 'intervalmonlaw12.EnvelopeNew': WHATEVER THE INPUT: true; the input reads as it did. -/
def envelopeNewSpec : ChangeSpec := { name := "envelopeNew", fn := fun _ => fun
  | [d1, d2, d3, d4, d5, d6, d7] => { results := [.lit (.bool true)], args := [d1, d2, d3, d4, d5, d6, d7] }
  | _ => none }
def envelopeNewRow : OpenClaim := { program := "ytofekfpbljihiaa", sum := "94c576f1eda689034d16b4ada2378b0c4496f26229928a6a31800abb89dd0410", func := "intervalmon/intervalmonlaw12.EnvelopeNew", spec := "envelopeNew", unfollowed := true, recurses := true, apart := false }
def EnvelopeNewSaid : Prop := envelopeNewRow.holds Try.pinned (OpenSpec.ofChange envelopeNewSpec)

/-- ITS FALSE NEIGHBOUR: 'it returns false'. Refute it at one input. -/
def envelopeNewWrong : ChangeSpec := { name := "envelopeNew", fn := fun _ => fun
  | [d1, d2, d3, d4, d5, d6, d7] => { results := [.lit (.bool false)], args := [d1, d2, d3, d4, d5, d6, d7] }
  | _ => none }
def EnvelopeNewWrongFalsely : Prop := envelopeNewRow.holds Try.pinned (OpenSpec.ofChange envelopeNewWrong)

/-- 'intervalmonlaw12.EnvelopeFixed': WHATEVER THE INPUT: true; the input reads as it did. -/
def envelopeFixedSpec : ChangeSpec := { name := "envelopeFixed", fn := fun _ => fun
  | [d1, d2, d3, d4] => { results := [.lit (.bool true)], args := [d1, d2, d3, d4] }
  | _ => none }
def envelopeFixedRow : OpenClaim := { program := "ytofekfpbljihiaa", sum := "94c576f1eda689034d16b4ada2378b0c4496f26229928a6a31800abb89dd0410", func := "intervalmon/intervalmonlaw12.EnvelopeFixed", spec := "envelopeFixed", unfollowed := true, recurses := true, apart := false }
def EnvelopeFixedSaid : Prop := envelopeFixedRow.holds Try.pinned (OpenSpec.ofChange envelopeFixedSpec)

/-- ITS FALSE NEIGHBOUR: 'it returns false'. Refute it at one input. -/
def envelopeFixedWrong : ChangeSpec := { name := "envelopeFixed", fn := fun _ => fun
  | [d1, d2, d3, d4] => { results := [.lit (.bool false)], args := [d1, d2, d3, d4] }
  | _ => none }
def EnvelopeFixedWrongFalsely : Prop := envelopeFixedRow.holds Try.pinned (OpenSpec.ofChange envelopeFixedWrong)

/- THE SECOND FORM. 'bulk': how many values and letters a reading holds, each counted each time it is reached (what is shared counts as often as it is met; a slice's spare places count too). A statement '..UptoSaid' is the law's where the arguments, and the package variables that the reading takes, are together of bulk at most 1048576: NARROWER than '..Said'. Prove '..Said' where nothing that the law and all that it calls make is longer than what came in: it says more and counts as full. Else prove '..UptoSaid'. A law counts once. -/
mutual
def uptoBulk {H : Type} : DataW H → Nat
  | .lit (.string bytes) => bytes.length + 1
  | .lit _ => 1
  | .nil => 1
  | .ptr d => uptoBulk d + 1
  | .slice elems spare => uptoBulkAll elems + uptoBulkAll spare + 1
  | .agg parts => uptoBulkAll parts + 1
  | .iface _ d => uptoBulk d + 1
  | .map entries => uptoBulkEntries entries + 1
  | .held _ => 1
def uptoBulkAll {H : Type} : List (DataW H) → Nat
  | [] => 0
  | d :: r => uptoBulk d + uptoBulkAll r
def uptoBulkEntries {H : Type} : List (Lit × DataW H) → Nat
  | [] => 0
  | x :: r => uptoBulkEntry x + uptoBulkEntries r
def uptoBulkEntry {H : Type} : Lit × DataW H → Nat
  | (.string bytes, d) => bytes.length + uptoBulk d + 1
  | (_, d) => uptoBulk d + 1
 end
def uptoSmall : (H : Type) → List (DataW H) → Bool := fun _ ds => decide (uptoBulkAll ds ≤ 1048576)
def OpenSpec.upto (s : _root_.Go.ChangeSpec) : _root_.Go.OpenSpec := { _root_.Go.OpenSpec.ofChange s with cond := some uptoSmall }

/-- 'intervalmonlaw11.ClaimsOf', WHERE WHAT IT READS IS OF BULK AT MOST 1048576: true; the input reads as it did. -/
def claimsOfUptoRow : OpenClaim := { program := "ytofekfpbljihiaa", sum := "94c576f1eda689034d16b4ada2378b0c4496f26229928a6a31800abb89dd0410", func := "intervalmon/intervalmonlaw11.ClaimsOf", spec := "claimsOf", apart := false, narrowed := true }
def ClaimsOfUptoSaid : Prop := claimsOfUptoRow.holds Try.pinned (OpenSpec.upto claimsOfSpec)

/-- 'intervalmonlaw11.ClaimsBands', WHERE WHAT IT READS IS OF BULK AT MOST 1048576: true; the input reads as it did. -/
def claimsBandsUptoRow : OpenClaim := { program := "ytofekfpbljihiaa", sum := "94c576f1eda689034d16b4ada2378b0c4496f26229928a6a31800abb89dd0410", func := "intervalmon/intervalmonlaw11.ClaimsBands", spec := "claimsBands", apart := false, narrowed := true }
def ClaimsBandsUptoSaid : Prop := claimsBandsUptoRow.holds Try.pinned (OpenSpec.upto claimsBandsSpec)

/-- 'intervalmonlaw11.ClaimsSound', WHERE WHAT IT READS IS OF BULK AT MOST 1048576: true; the input reads as it did. -/
def claimsSoundUptoRow : OpenClaim := { program := "ytofekfpbljihiaa", sum := "94c576f1eda689034d16b4ada2378b0c4496f26229928a6a31800abb89dd0410", func := "intervalmon/intervalmonlaw11.ClaimsSound", spec := "claimsSound", apart := false, narrowed := true }
def ClaimsSoundUptoSaid : Prop := claimsSoundUptoRow.holds Try.pinned (OpenSpec.upto claimsSoundSpec)

/-- 'intervalmonlaw11.ClaimsHolds', WHERE WHAT IT READS IS OF BULK AT MOST 1048576: true; the input reads as it did. -/
def claimsHoldsUptoRow : OpenClaim := { program := "ytofekfpbljihiaa", sum := "94c576f1eda689034d16b4ada2378b0c4496f26229928a6a31800abb89dd0410", func := "intervalmon/intervalmonlaw11.ClaimsHolds", spec := "claimsHolds", apart := false, narrowed := true }
def ClaimsHoldsUptoSaid : Prop := claimsHoldsUptoRow.holds Try.pinned (OpenSpec.upto claimsHoldsSpec)

/-- 'intervalmonlaw11.ClaimsEquivalent', WHERE WHAT IT READS IS OF BULK AT MOST 1048576: true; the input reads as it did. -/
def claimsEquivalentUptoRow : OpenClaim := { program := "ytofekfpbljihiaa", sum := "94c576f1eda689034d16b4ada2378b0c4496f26229928a6a31800abb89dd0410", func := "intervalmon/intervalmonlaw11.ClaimsEquivalent", spec := "claimsEquivalent", apart := false, narrowed := true }
def ClaimsEquivalentUptoSaid : Prop := claimsEquivalentUptoRow.holds Try.pinned (OpenSpec.upto claimsEquivalentSpec)

/-- 'intervalmonlaw11.ClaimsImplies', WHERE WHAT IT READS IS OF BULK AT MOST 1048576: true; the input reads as it did. -/
def claimsImpliesUptoRow : OpenClaim := { program := "ytofekfpbljihiaa", sum := "94c576f1eda689034d16b4ada2378b0c4496f26229928a6a31800abb89dd0410", func := "intervalmon/intervalmonlaw11.ClaimsImplies", spec := "claimsImplies", apart := false, narrowed := true }
def ClaimsImpliesUptoSaid : Prop := claimsImpliesUptoRow.holds Try.pinned (OpenSpec.upto claimsImpliesSpec)

/-- 'intervalmonlaw11.ClaimsSorted', WHERE WHAT IT READS IS OF BULK AT MOST 1048576: true; the input reads as it did. -/
def claimsSortedUptoRow : OpenClaim := { program := "ytofekfpbljihiaa", sum := "94c576f1eda689034d16b4ada2378b0c4496f26229928a6a31800abb89dd0410", func := "intervalmon/intervalmonlaw11.ClaimsSorted", spec := "claimsSorted", unfollowed := true, recurses := true, apart := false, narrowed := true }
def ClaimsSortedUptoSaid : Prop := claimsSortedUptoRow.holds Try.pinned (OpenSpec.upto claimsSortedSpec)

/-- 'intervalmonlaw11.ClaimsNormal', WHERE WHAT IT READS IS OF BULK AT MOST 1048576: true; the input reads as it did. -/
def claimsNormalUptoRow : OpenClaim := { program := "ytofekfpbljihiaa", sum := "94c576f1eda689034d16b4ada2378b0c4496f26229928a6a31800abb89dd0410", func := "intervalmon/intervalmonlaw11.ClaimsNormal", spec := "claimsNormal", unfollowed := true, recurses := true, apart := false, narrowed := true }
def ClaimsNormalUptoSaid : Prop := claimsNormalUptoRow.holds Try.pinned (OpenSpec.upto claimsNormalSpec)

/-- 'intervalmonlaw12.EnvelopeTight', WHERE WHAT IT READS IS OF BULK AT MOST 1048576: true; the input reads as it did. -/
def envelopeTightUptoRow : OpenClaim := { program := "ytofekfpbljihiaa", sum := "94c576f1eda689034d16b4ada2378b0c4496f26229928a6a31800abb89dd0410", func := "intervalmon/intervalmonlaw12.EnvelopeTight", spec := "envelopeTight", unfollowed := true, recurses := true, apart := false, narrowed := true }
def EnvelopeTightUptoSaid : Prop := envelopeTightUptoRow.holds Try.pinned (OpenSpec.upto envelopeTightSpec)

/-- 'intervalmonlaw12.EnvelopeClash', WHERE WHAT IT READS IS OF BULK AT MOST 1048576: true; the input reads as it did. -/
def envelopeClashUptoRow : OpenClaim := { program := "ytofekfpbljihiaa", sum := "94c576f1eda689034d16b4ada2378b0c4496f26229928a6a31800abb89dd0410", func := "intervalmon/intervalmonlaw12.EnvelopeClash", spec := "envelopeClash", unfollowed := true, recurses := true, apart := false, narrowed := true }
def EnvelopeClashUptoSaid : Prop := envelopeClashUptoRow.holds Try.pinned (OpenSpec.upto envelopeClashSpec)

/-- 'intervalmonlaw12.EnvelopeNew', WHERE WHAT IT READS IS OF BULK AT MOST 1048576: true; the input reads as it did. -/
def envelopeNewUptoRow : OpenClaim := { program := "ytofekfpbljihiaa", sum := "94c576f1eda689034d16b4ada2378b0c4496f26229928a6a31800abb89dd0410", func := "intervalmon/intervalmonlaw12.EnvelopeNew", spec := "envelopeNew", unfollowed := true, recurses := true, apart := false, narrowed := true }
def EnvelopeNewUptoSaid : Prop := envelopeNewUptoRow.holds Try.pinned (OpenSpec.upto envelopeNewSpec)

/-- 'intervalmonlaw12.EnvelopeFixed', WHERE WHAT IT READS IS OF BULK AT MOST 1048576: true; the input reads as it did. -/
def envelopeFixedUptoRow : OpenClaim := { program := "ytofekfpbljihiaa", sum := "94c576f1eda689034d16b4ada2378b0c4496f26229928a6a31800abb89dd0410", func := "intervalmon/intervalmonlaw12.EnvelopeFixed", spec := "envelopeFixed", unfollowed := true, recurses := true, apart := false, narrowed := true }
def EnvelopeFixedUptoSaid : Prop := envelopeFixedUptoRow.holds Try.pinned (OpenSpec.upto envelopeFixedSpec)

end Rows
end Go.Proofs.Ytofekfpbljihiaa
