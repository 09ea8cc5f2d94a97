/-
  DERIVED. GIVEN WITH THE SEED: THE CARDS: each row of YtfajckkbinbpiaaGreatDoorRows.lean that lists a variable, with what it lists TIED to the program's text (the seventh form; the later family's looks); each row that meets fmt, with fmt's text TOLD by the authors' own Lean function (tested against real Go, not proved from fmt's source: count such statements apart). THE CARD IS WHAT COUNTS. Prove the row's statement (the work); the ties are given (YtfajckkbinbpiaaGreatDoorTie.lean); close each card by the builder's one call (the guide's Derived/Test/ToyasCard.lean, 'card_holds'). Laid BY PROGRAM, IN A SANDBOX (cutbox-door.mjs). By AI agents, Wed Nov 11 2026. No macro, syntax, notation, axiom, sorry.
-/
import Derived.Test.YtfajckkbinbpiaaGreatDoorRows
import GoSem.ClaimSeven
namespace Go.Proofs.YtfajckkbinbpiaaGreatDoor
namespace Rows

/-- THE TIED CARD OF 'heliographtop.TopInches'. -/
def topInchesCard : Claim7 := { stood := { row := topInchesRow, standIns := [], harness := (true, "3c30daef711b08104f6978c3bd676498bdf0917ece89bd02bcad88d99f0ed7d8"), looks := true }, kinds := [], alts := [], laidByText := true, laidKinds := [.data, .data, .data, .data, .sentinel, .sentinel, .pinned], laidTests := true, laidLooks := .later }
def TopInchesCardSaid : Prop := Claim7.holds Tryz.pinned (.plain (OpenSpec.ofChange topInchesSpec)) topInchesCard

/-- THE TIED CARD OF 'heliographtop.TopSteps'. -/
def topStepsCard : Claim7 := { stood := { row := topStepsRow, standIns := [], harness := (true, "3c30daef711b08104f6978c3bd676498bdf0917ece89bd02bcad88d99f0ed7d8"), looks := true }, kinds := [], alts := [], laidByText := true, laidKinds := [.data, .data, .data, .data, .sentinel, .sentinel, .pinned], laidTests := true, laidLooks := .later }
def TopStepsCardSaid : Prop := Claim7.holds Tryz.pinned (.plain (OpenSpec.ofChange topStepsSpec)) topStepsCard

/-- THE TIED CARD OF 'heliographtop.TopNever'. -/
def topNeverCard : Claim7 := { stood := { row := topNeverRow, standIns := [], harness := (true, "3c30daef711b08104f6978c3bd676498bdf0917ece89bd02bcad88d99f0ed7d8"), looks := true }, kinds := [], alts := [], laidByText := true, laidKinds := [.data, .data, .data, .data, .sentinel, .sentinel, .pinned], laidTests := true, laidLooks := .later }
def TopNeverCardSaid : Prop := Claim7.holds Tryz.pinned (.plain (OpenSpec.ofChange topNeverSpec)) topNeverCard

/-- THE TIED CARD OF 'heliographtop.TopFlat'. -/
def topFlatCard : Claim7 := { stood := { row := topFlatRow, standIns := [], harness := (true, "3c30daef711b08104f6978c3bd676498bdf0917ece89bd02bcad88d99f0ed7d8"), looks := true }, kinds := [], alts := [], laidByText := true, laidKinds := [.data, .data, .data, .data, .sentinel, .sentinel, .pinned], laidTests := true, laidLooks := .later }
def TopFlatCardSaid : Prop := Claim7.holds Tryz.pinned (.plain (OpenSpec.ofChange topFlatSpec)) topFlatCard

/-- THE SECOND FORM's CARD OF 'heliographtop.TopInches'. -/
def topInchesUptoCard : Claim7 := { stood := { row := topInchesUptoRow, standIns := [], harness := (true, "3c30daef711b08104f6978c3bd676498bdf0917ece89bd02bcad88d99f0ed7d8"), looks := true }, kinds := [], alts := [], laidByText := true, laidKinds := [.data, .data, .data, .data, .sentinel, .sentinel, .pinned], laidTests := true, laidLooks := .later }
def TopInchesUptoCardSaid : Prop := Claim7.holds Tryz.pinned (.plain (OpenSpec.upto topInchesSpec)) topInchesUptoCard

/-- THE SECOND FORM's CARD OF 'heliographtop.TopSteps'. -/
def topStepsUptoCard : Claim7 := { stood := { row := topStepsUptoRow, standIns := [], harness := (true, "3c30daef711b08104f6978c3bd676498bdf0917ece89bd02bcad88d99f0ed7d8"), looks := true }, kinds := [], alts := [], laidByText := true, laidKinds := [.data, .data, .data, .data, .sentinel, .sentinel, .pinned], laidTests := true, laidLooks := .later }
def TopStepsUptoCardSaid : Prop := Claim7.holds Tryz.pinned (.plain (OpenSpec.upto topStepsSpec)) topStepsUptoCard

/-- THE SECOND FORM's CARD OF 'heliographtop.TopNever'. -/
def topNeverUptoCard : Claim7 := { stood := { row := topNeverUptoRow, standIns := [], harness := (true, "3c30daef711b08104f6978c3bd676498bdf0917ece89bd02bcad88d99f0ed7d8"), looks := true }, kinds := [], alts := [], laidByText := true, laidKinds := [.data, .data, .data, .data, .sentinel, .sentinel, .pinned], laidTests := true, laidLooks := .later }
def TopNeverUptoCardSaid : Prop := Claim7.holds Tryz.pinned (.plain (OpenSpec.upto topNeverSpec)) topNeverUptoCard

/-- THE SECOND FORM's CARD OF 'heliographtop.TopFlat'. -/
def topFlatUptoCard : Claim7 := { stood := { row := topFlatUptoRow, standIns := [], harness := (true, "3c30daef711b08104f6978c3bd676498bdf0917ece89bd02bcad88d99f0ed7d8"), looks := true }, kinds := [], alts := [], laidByText := true, laidKinds := [.data, .data, .data, .data, .sentinel, .sentinel, .pinned], laidTests := true, laidLooks := .later }
def TopFlatUptoCardSaid : Prop := Claim7.holds Tryz.pinned (.plain (OpenSpec.upto topFlatSpec)) topFlatUptoCard
end Rows
end Go.Proofs.YtfajckkbinbpiaaGreatDoor
