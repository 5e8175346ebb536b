/-
  DERIVED. GIVEN WITH THE SEED: THE CARDS: each row of YtebfhljamoapjaaDoorRows.lean that lists a variable, with what it lists TIED to the program's text (the seventh form; the later family's looks); each row that meets fmt, with fmt's text TOLD by the authors' own Lean function (tested against real Go, not proved from fmt's source: count such statements apart). THE CARD IS WHAT COUNTS. Prove the row's statement (the work); the ties are given (YtebfhljamoapjaaDoorTie.lean); close each card by the builder's one call (the guide's Derived/Test/ToyasCard.lean, 'card_holds'). Laid BY PROGRAM, IN A SANDBOX (cutbox-door.mjs). By AI agents, Wed Nov 11 2026. No macro, syntax, notation, axiom, sorry.
-/
import Derived.Test.YtebfhljamoapjaaDoorRows
import GoSem.ClaimSeven
namespace Go.Proofs.YtebfhljamoapjaaDoor
namespace Rows

/-- THE TIED CARD OF 'intervalmonlaw05.LabelsParse'. -/
def labelsParseCard : Claim7 := { stood := { row := labelsParseRow, standIns := [], harness := (true, "3959d50d9c9496c7b155e8e88e627a7e2efa0e36e5cd7916bbb9ac28ab2da2a0"), looks := false }, kinds := [], alts := [], laidByText := true, laidKinds := [.data, .pinned], laidTests := true, laidLooks := .later }
def LabelsParseCardSaid : Prop := Claim7.holds Tryd.pinned (.plain (OpenSpec.ofChange labelsParseSpec)) labelsParseCard

/-- THE TIED CARD OF 'intervalmonlaw05.LabelsRound'. -/
def labelsRoundCard : Claim7 := { stood := { row := labelsRoundRow, standIns := [], harness := (true, "3959d50d9c9496c7b155e8e88e627a7e2efa0e36e5cd7916bbb9ac28ab2da2a0"), looks := false }, kinds := [], alts := [], laidByText := true, laidKinds := [.data, .pinned], laidTests := true, laidLooks := .later }
def LabelsRoundCardSaid : Prop := Claim7.holds Tryd.pinned (.plain (OpenSpec.ofChange labelsRoundSpec)) labelsRoundCard

/-- THE SECOND FORM's CARD OF 'intervalmonlaw05.LabelsParse'. -/
def labelsParseUptoCard : Claim7 := { stood := { row := labelsParseUptoRow, standIns := [], harness := (true, "3959d50d9c9496c7b155e8e88e627a7e2efa0e36e5cd7916bbb9ac28ab2da2a0"), looks := false }, kinds := [], alts := [], laidByText := true, laidKinds := [.data, .pinned], laidTests := true, laidLooks := .later }
def LabelsParseUptoCardSaid : Prop := Claim7.holds Tryd.pinned (.plain (OpenSpec.upto labelsParseSpec)) labelsParseUptoCard

/-- THE SECOND FORM's CARD OF 'intervalmonlaw05.LabelsRound'. -/
def labelsRoundUptoCard : Claim7 := { stood := { row := labelsRoundUptoRow, standIns := [], harness := (true, "3959d50d9c9496c7b155e8e88e627a7e2efa0e36e5cd7916bbb9ac28ab2da2a0"), looks := false }, kinds := [], alts := [], laidByText := true, laidKinds := [.data, .pinned], laidTests := true, laidLooks := .later }
def LabelsRoundUptoCardSaid : Prop := Claim7.holds Tryd.pinned (.plain (OpenSpec.upto labelsRoundSpec)) labelsRoundUptoCard
end Rows
end Go.Proofs.YtebfhljamoapjaaDoor
