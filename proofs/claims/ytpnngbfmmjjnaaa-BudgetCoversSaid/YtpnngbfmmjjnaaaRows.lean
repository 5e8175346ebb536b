/-
  No cell of these rows narrows 'for every input' (looked for: loops, veiled, ifaces, maps, wideKeys, modest, calm, conditions, laid).
  DERIVED. THE GIVEN ROWS OF THIS SEAT. 8 by the template 'for every input the law returns true; each argument reads behind the call as it read before'; 0 by the template 'total and deterministic' (their statements: YtpnngbfmmjjnaaaTotals.lean).
  GIVEN WITH THE SEED: the statements are not yours to turn. If you find one false, say at which input.
  Laid BY PROGRAM, IN A SANDBOX (cutbox-rows.mjs): the forced cells as the released guide's own fill.sh prints them over the translation 468fb5b7c385a978… (all of the seat's roots in one cut). By AI agents, Wed Nov 11 2026. No macro, syntax, notation, axiom, sorry.
-/
import Derived.Test.YtpnngbfmmjjnaaaChecked
import GoSem.Claim
import GoSem.ClaimJoined
import GoSem.ClaimMapViews
import Derived.JoinedTies
import Derived.KernelRfl
namespace Go.Proofs.Ytpnngbfmmjjnaaa
/- THE CELL 'sum', in the pinned program and in every row, IS THE sha256 OF THE DUMP (.gsa) THAT YtpnngbfmmjjnaaaProg.lean LOADS. Nothing in Lean hashes anything: it is a label: what it is worth is what the hold of that sum in a sandbox is worth. -/
noncomputable def Try.pinned : Pinned := { name := "ytpnngbfmmjjnaaa", sum := "468fb5b7c385a978a7f0674bf93b881001a10076cfd93b619aaeee43f3c75c83", checked := Try.checked }
namespace Rows
def none {H : Type} : Left H := { results := [], args := [] }

/-- 'intervalmonlaw17.BudgetCovers': WHATEVER THE INPUT: true; the input reads as it did. -/
def budgetCoversSpec : ChangeSpec := { name := "budgetCovers", fn := fun _ => fun
  | [d1, d2, d3, d4] => { results := [.lit (.bool true)], args := [d1, d2, d3, d4] }
  | _ => none }
def budgetCoversRow : OpenClaim := { program := "ytpnngbfmmjjnaaa", sum := "468fb5b7c385a978a7f0674bf93b881001a10076cfd93b619aaeee43f3c75c83", func := "intervalmon/intervalmonlaw17.BudgetCovers", spec := "budgetCovers", unfollowed := true, recurses := true, apart := false }
def BudgetCoversSaid : Prop := budgetCoversRow.holds Try.pinned (OpenSpec.ofChange budgetCoversSpec)

/-- ITS FALSE NEIGHBOUR: 'it returns false'. Refute it at one input. -/
def budgetCoversWrong : ChangeSpec := { name := "budgetCovers", fn := fun _ => fun
  | [d1, d2, d3, d4] => { results := [.lit (.bool false)], args := [d1, d2, d3, d4] }
  | _ => none }
def BudgetCoversWrongFalsely : Prop := budgetCoversRow.holds Try.pinned (OpenSpec.ofChange budgetCoversWrong)

/-- 'intervalmonlaw16.LossyHistories': WHATEVER THE INPUT: true; the input reads as it did. -/
def lossyHistoriesSpec : ChangeSpec := { name := "lossyHistories", fn := fun _ => fun
  | [d1, d2, d3, d4, d5] => { results := [.lit (.bool true)], args := [d1, d2, d3, d4, d5] }
  | _ => none }
def lossyHistoriesRow : OpenClaim := { program := "ytpnngbfmmjjnaaa", sum := "468fb5b7c385a978a7f0674bf93b881001a10076cfd93b619aaeee43f3c75c83", func := "intervalmon/intervalmonlaw16.LossyHistories", spec := "lossyHistories", unfollowed := true, recurses := true, apart := false }
def LossyHistoriesSaid : Prop := lossyHistoriesRow.holds Try.pinned (OpenSpec.ofChange lossyHistoriesSpec)

/-- ITS FALSE NEIGHBOUR: 'it returns false'. Refute it at one input. -/
def lossyHistoriesWrong : ChangeSpec := { name := "lossyHistories", fn := fun _ => fun
  | [d1, d2, d3, d4, d5] => { results := [.lit (.bool false)], args := [d1, d2, d3, d4, d5] }
  | _ => none }
def LossyHistoriesWrongFalsely : Prop := lossyHistoriesRow.holds Try.pinned (OpenSpec.ofChange lossyHistoriesWrong)

/-- 'intervalmonlaw16.LossyCost': WHATEVER THE INPUT: true; the input reads as it did. -/
def lossyCostSpec : ChangeSpec := { name := "lossyCost", fn := fun _ => fun
  | [d1, d2, d3, d4, d5] => { results := [.lit (.bool true)], args := [d1, d2, d3, d4, d5] }
  | _ => none }
def lossyCostRow : OpenClaim := { program := "ytpnngbfmmjjnaaa", sum := "468fb5b7c385a978a7f0674bf93b881001a10076cfd93b619aaeee43f3c75c83", func := "intervalmon/intervalmonlaw16.LossyCost", spec := "lossyCost", unfollowed := true, recurses := true, apart := false }
def LossyCostSaid : Prop := lossyCostRow.holds Try.pinned (OpenSpec.ofChange lossyCostSpec)

/-- ITS FALSE NEIGHBOUR: 'it returns false'. Refute it at one input. -/
def lossyCostWrong : ChangeSpec := { name := "lossyCost", fn := fun _ => fun
  | [d1, d2, d3, d4, d5] => { results := [.lit (.bool false)], args := [d1, d2, d3, d4, d5] }
  | _ => none }
def LossyCostWrongFalsely : Prop := lossyCostRow.holds Try.pinned (OpenSpec.ofChange lossyCostWrong)

/-- 'intervalmonlaw16.LossyTail': WHATEVER THE INPUT: true; the input reads as it did. -/
def lossyTailSpec : ChangeSpec := { name := "lossyTail", fn := fun _ => fun
  | [d1, d2, d3, d4] => { results := [.lit (.bool true)], args := [d1, d2, d3, d4] }
  | _ => none }
def lossyTailRow : OpenClaim := { program := "ytpnngbfmmjjnaaa", sum := "468fb5b7c385a978a7f0674bf93b881001a10076cfd93b619aaeee43f3c75c83", func := "intervalmon/intervalmonlaw16.LossyTail", spec := "lossyTail", unfollowed := true, recurses := true, apart := false }
def LossyTailSaid : Prop := lossyTailRow.holds Try.pinned (OpenSpec.ofChange lossyTailSpec)

/-- ITS FALSE NEIGHBOUR: 'it returns false'. Refute it at one input. -/
def lossyTailWrong : ChangeSpec := { name := "lossyTail", fn := fun _ => fun
  | [d1, d2, d3, d4] => { results := [.lit (.bool false)], args := [d1, d2, d3, d4] }
  | _ => none }
def LossyTailWrongFalsely : Prop := lossyTailRow.holds Try.pinned (OpenSpec.ofChange lossyTailWrong)

/-- 'intervalmonlaw16.LossySteps': WHATEVER THE INPUT: true; the input reads as it did. -/
def lossyStepsSpec : ChangeSpec := { name := "lossySteps", fn := fun _ => fun
  | [d1, d2, d3, d4, d5] => { results := [.lit (.bool true)], args := [d1, d2, d3, d4, d5] }
  | _ => none }
def lossyStepsRow : OpenClaim := { program := "ytpnngbfmmjjnaaa", sum := "468fb5b7c385a978a7f0674bf93b881001a10076cfd93b619aaeee43f3c75c83", func := "intervalmon/intervalmonlaw16.LossySteps", spec := "lossySteps", unfollowed := true, recurses := true, apart := false }
def LossyStepsSaid : Prop := lossyStepsRow.holds Try.pinned (OpenSpec.ofChange lossyStepsSpec)

/-- ITS FALSE NEIGHBOUR: 'it returns false'. Refute it at one input. -/
def lossyStepsWrong : ChangeSpec := { name := "lossySteps", fn := fun _ => fun
  | [d1, d2, d3, d4, d5] => { results := [.lit (.bool false)], args := [d1, d2, d3, d4, d5] }
  | _ => none }
def LossyStepsWrongFalsely : Prop := lossyStepsRow.holds Try.pinned (OpenSpec.ofChange lossyStepsWrong)

/-- 'intervalmonlaw16.LossyRefused': WHATEVER THE INPUT: true; the input reads as it did. -/
def lossyRefusedSpec : ChangeSpec := { name := "lossyRefused", fn := fun _ => fun
  | [d1, d2, d3, d4, d5] => { results := [.lit (.bool true)], args := [d1, d2, d3, d4, d5] }
  | _ => none }
def lossyRefusedRow : OpenClaim := { program := "ytpnngbfmmjjnaaa", sum := "468fb5b7c385a978a7f0674bf93b881001a10076cfd93b619aaeee43f3c75c83", func := "intervalmon/intervalmonlaw16.LossyRefused", spec := "lossyRefused", unfollowed := true, recurses := true, apart := false }
def LossyRefusedSaid : Prop := lossyRefusedRow.holds Try.pinned (OpenSpec.ofChange lossyRefusedSpec)

/-- ITS FALSE NEIGHBOUR: 'it returns false'. Refute it at one input. -/
def lossyRefusedWrong : ChangeSpec := { name := "lossyRefused", fn := fun _ => fun
  | [d1, d2, d3, d4, d5] => { results := [.lit (.bool false)], args := [d1, d2, d3, d4, d5] }
  | _ => none }
def LossyRefusedWrongFalsely : Prop := lossyRefusedRow.holds Try.pinned (OpenSpec.ofChange lossyRefusedWrong)

/-- 'intervalmonlaw16.LossyTwice': WHATEVER THE INPUT: true; the input reads as it did. -/
def lossyTwiceSpec : ChangeSpec := { name := "lossyTwice", fn := fun _ => fun
  | [d1, d2, d3, d4] => { results := [.lit (.bool true)], args := [d1, d2, d3, d4] }
  | _ => none }
def lossyTwiceRow : OpenClaim := { program := "ytpnngbfmmjjnaaa", sum := "468fb5b7c385a978a7f0674bf93b881001a10076cfd93b619aaeee43f3c75c83", func := "intervalmon/intervalmonlaw16.LossyTwice", spec := "lossyTwice", unfollowed := true, recurses := true, apart := false }
def LossyTwiceSaid : Prop := lossyTwiceRow.holds Try.pinned (OpenSpec.ofChange lossyTwiceSpec)

/-- ITS FALSE NEIGHBOUR: 'it returns false'. Refute it at one input. -/
def lossyTwiceWrong : ChangeSpec := { name := "lossyTwice", fn := fun _ => fun
  | [d1, d2, d3, d4] => { results := [.lit (.bool false)], args := [d1, d2, d3, d4] }
  | _ => none }
def LossyTwiceWrongFalsely : Prop := lossyTwiceRow.holds Try.pinned (OpenSpec.ofChange lossyTwiceWrong)

/-- 'intervalmonlaw16.LossyWeaker': WHATEVER THE INPUT: true; the input reads as it did. -/
def lossyWeakerSpec : ChangeSpec := { name := "lossyWeaker", fn := fun _ => fun
  | [d1, d2, d3, d4] => { results := [.lit (.bool true)], args := [d1, d2, d3, d4] }
  | _ => none }
def lossyWeakerRow : OpenClaim := { program := "ytpnngbfmmjjnaaa", sum := "468fb5b7c385a978a7f0674bf93b881001a10076cfd93b619aaeee43f3c75c83", func := "intervalmon/intervalmonlaw16.LossyWeaker", spec := "lossyWeaker", unfollowed := true, recurses := true, apart := false }
def LossyWeakerSaid : Prop := lossyWeakerRow.holds Try.pinned (OpenSpec.ofChange lossyWeakerSpec)

/-- ITS FALSE NEIGHBOUR: 'it returns false'. Refute it at one input. -/
def lossyWeakerWrong : ChangeSpec := { name := "lossyWeaker", fn := fun _ => fun
  | [d1, d2, d3, d4] => { results := [.lit (.bool false)], args := [d1, d2, d3, d4] }
  | _ => none }
def LossyWeakerWrongFalsely : Prop := lossyWeakerRow.holds Try.pinned (OpenSpec.ofChange lossyWeakerWrong)

/- THE SECOND FORM. 'bulk': how many values and letters a reading holds, each counted each time it is reached (what is shared counts as often as it is met; a slice's spare places count too). A statement '..UptoSaid' is the law's where the arguments, and the package variables that the reading takes, are together of bulk at most 1048576: NARROWER than '..Said'. Prove '..Said' where nothing that the law and all that it calls make is longer than what came in: it says more and counts as full. Else prove '..UptoSaid'. A law counts once. -/
mutual
def uptoBulk {H : Type} : DataW H → Nat
  | .lit (.string bytes) => bytes.length + 1
  | .lit _ => 1
  | .nil => 1
  | .ptr d => uptoBulk d + 1
  | .slice elems spare => uptoBulkAll elems + uptoBulkAll spare + 1
  | .agg parts => uptoBulkAll parts + 1
  | .iface _ d => uptoBulk d + 1
  | .map entries => uptoBulkEntries entries + 1
  | .held _ => 1
def uptoBulkAll {H : Type} : List (DataW H) → Nat
  | [] => 0
  | d :: r => uptoBulk d + uptoBulkAll r
def uptoBulkEntries {H : Type} : List (Lit × DataW H) → Nat
  | [] => 0
  | x :: r => uptoBulkEntry x + uptoBulkEntries r
def uptoBulkEntry {H : Type} : Lit × DataW H → Nat
  | (.string bytes, d) => bytes.length + uptoBulk d + 1
  | (_, d) => uptoBulk d + 1
 end
def uptoSmall : (H : Type) → List (DataW H) → Bool := fun _ ds => decide (uptoBulkAll ds ≤ 1048576)
def OpenSpec.upto (s : _root_.Go.ChangeSpec) : _root_.Go.OpenSpec := { _root_.Go.OpenSpec.ofChange s with cond := some uptoSmall }

/-- 'intervalmonlaw17.BudgetCovers', WHERE WHAT IT READS IS OF BULK AT MOST 1048576: true; the input reads as it did. -/
def budgetCoversUptoRow : OpenClaim := { program := "ytpnngbfmmjjnaaa", sum := "468fb5b7c385a978a7f0674bf93b881001a10076cfd93b619aaeee43f3c75c83", func := "intervalmon/intervalmonlaw17.BudgetCovers", spec := "budgetCovers", unfollowed := true, recurses := true, apart := false, narrowed := true }
def BudgetCoversUptoSaid : Prop := budgetCoversUptoRow.holds Try.pinned (OpenSpec.upto budgetCoversSpec)

/-- 'intervalmonlaw16.LossyHistories', WHERE WHAT IT READS IS OF BULK AT MOST 1048576: true; the input reads as it did. -/
def lossyHistoriesUptoRow : OpenClaim := { program := "ytpnngbfmmjjnaaa", sum := "468fb5b7c385a978a7f0674bf93b881001a10076cfd93b619aaeee43f3c75c83", func := "intervalmon/intervalmonlaw16.LossyHistories", spec := "lossyHistories", unfollowed := true, recurses := true, apart := false, narrowed := true }
def LossyHistoriesUptoSaid : Prop := lossyHistoriesUptoRow.holds Try.pinned (OpenSpec.upto lossyHistoriesSpec)

/-- 'intervalmonlaw16.LossyCost', WHERE WHAT IT READS IS OF BULK AT MOST 1048576: true; the input reads as it did. -/
def lossyCostUptoRow : OpenClaim := { program := "ytpnngbfmmjjnaaa", sum := "468fb5b7c385a978a7f0674bf93b881001a10076cfd93b619aaeee43f3c75c83", func := "intervalmon/intervalmonlaw16.LossyCost", spec := "lossyCost", unfollowed := true, recurses := true, apart := false, narrowed := true }
def LossyCostUptoSaid : Prop := lossyCostUptoRow.holds Try.pinned (OpenSpec.upto lossyCostSpec)

/-- 'intervalmonlaw16.LossyTail', WHERE WHAT IT READS IS OF BULK AT MOST 1048576: true; the input reads as it did. -/
def lossyTailUptoRow : OpenClaim := { program := "ytpnngbfmmjjnaaa", sum := "468fb5b7c385a978a7f0674bf93b881001a10076cfd93b619aaeee43f3c75c83", func := "intervalmon/intervalmonlaw16.LossyTail", spec := "lossyTail", unfollowed := true, recurses := true, apart := false, narrowed := true }
def LossyTailUptoSaid : Prop := lossyTailUptoRow.holds Try.pinned (OpenSpec.upto lossyTailSpec)

/-- 'intervalmonlaw16.LossySteps', WHERE WHAT IT READS IS OF BULK AT MOST 1048576: true; the input reads as it did. -/
def lossyStepsUptoRow : OpenClaim := { program := "ytpnngbfmmjjnaaa", sum := "468fb5b7c385a978a7f0674bf93b881001a10076cfd93b619aaeee43f3c75c83", func := "intervalmon/intervalmonlaw16.LossySteps", spec := "lossySteps", unfollowed := true, recurses := true, apart := false, narrowed := true }
def LossyStepsUptoSaid : Prop := lossyStepsUptoRow.holds Try.pinned (OpenSpec.upto lossyStepsSpec)

/-- 'intervalmonlaw16.LossyRefused', WHERE WHAT IT READS IS OF BULK AT MOST 1048576: true; the input reads as it did. -/
def lossyRefusedUptoRow : OpenClaim := { program := "ytpnngbfmmjjnaaa", sum := "468fb5b7c385a978a7f0674bf93b881001a10076cfd93b619aaeee43f3c75c83", func := "intervalmon/intervalmonlaw16.LossyRefused", spec := "lossyRefused", unfollowed := true, recurses := true, apart := false, narrowed := true }
def LossyRefusedUptoSaid : Prop := lossyRefusedUptoRow.holds Try.pinned (OpenSpec.upto lossyRefusedSpec)

/-- 'intervalmonlaw16.LossyTwice', WHERE WHAT IT READS IS OF BULK AT MOST 1048576: true; the input reads as it did. -/
def lossyTwiceUptoRow : OpenClaim := { program := "ytpnngbfmmjjnaaa", sum := "468fb5b7c385a978a7f0674bf93b881001a10076cfd93b619aaeee43f3c75c83", func := "intervalmon/intervalmonlaw16.LossyTwice", spec := "lossyTwice", unfollowed := true, recurses := true, apart := false, narrowed := true }
def LossyTwiceUptoSaid : Prop := lossyTwiceUptoRow.holds Try.pinned (OpenSpec.upto lossyTwiceSpec)

/-- 'intervalmonlaw16.LossyWeaker', WHERE WHAT IT READS IS OF BULK AT MOST 1048576: true; the input reads as it did. -/
def lossyWeakerUptoRow : OpenClaim := { program := "ytpnngbfmmjjnaaa", sum := "468fb5b7c385a978a7f0674bf93b881001a10076cfd93b619aaeee43f3c75c83", func := "intervalmon/intervalmonlaw16.LossyWeaker", spec := "lossyWeaker", unfollowed := true, recurses := true, apart := false, narrowed := true }
def LossyWeakerUptoSaid : Prop := lossyWeakerUptoRow.holds Try.pinned (OpenSpec.upto lossyWeakerSpec)

end Rows
end Go.Proofs.Ytpnngbfmmjjnaaa
