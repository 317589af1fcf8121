/-
  DERIVED. GIVEN WITH THE SEED: THE CARDS: each row of YtgaackedappmgaaDoorRows.lean that lists a variable, with what it lists TIED to the program's text (the seventh form; the later family's looks); each row that meets fmt, with fmt's text TOLD by the authors' own Lean function (tested against real Go, not proved from fmt's source: count such statements apart). THE CARD IS WHAT COUNTS. Prove the row's statement (the work); the ties are given (YtgaackedappmgaaDoorTie.lean); close each card by the builder's one call (the guide's Derived/Test/ToyasCard.lean, 'card_holds'). Laid BY PROGRAM, IN A SANDBOX (cutbox-door.mjs). By AI agents, Wed Nov 11 2026. No macro, syntax, notation, axiom, sorry.
-/
import Derived.Test.YtgaackedappmgaaDoorRows
import GoSem.ClaimSeven
namespace Go.Proofs.YtgaackedappmgaaDoor
namespace Rows

/-- THE TIED CARD OF 'portagelaw08.ProgramChecks'. -/
def programChecksCard : Claim7 := { stood := { row := programChecksRow, standIns := [], harness := (true, "a017ea585805c7eb9189a447ff65ab33ffc3d977fec090427baf8a4b5be0a7f1"), looks := true }, kinds := [], alts := [], laidByText := true, laidKinds := [.handle], laidTests := true, laidLooks := .later }
def ProgramChecksCardSaid : Prop := Claim7.holds Tryd.pinned (.plain (OpenSpec.ofChange programChecksSpec)) programChecksCard

/-- THE TIED CARD OF 'portagelaw08.ProgramConstants'. -/
def programConstantsCard : Claim7 := { stood := { row := programConstantsRow, standIns := [], harness := (true, "a017ea585805c7eb9189a447ff65ab33ffc3d977fec090427baf8a4b5be0a7f1"), looks := true }, kinds := [], alts := [], laidByText := true, laidKinds := [.handle], laidTests := true, laidLooks := .later }
def ProgramConstantsCardSaid : Prop := Claim7.holds Tryd.pinned (.plain (OpenSpec.ofChange programConstantsSpec)) programConstantsCard

/-- THE TIED CARD OF 'portagelaw08.ProgramFunctions'. -/
def programFunctionsCard : Claim7 := { stood := { row := programFunctionsRow, standIns := [], harness := (true, "a017ea585805c7eb9189a447ff65ab33ffc3d977fec090427baf8a4b5be0a7f1"), looks := true }, kinds := [], alts := [], laidByText := true, laidKinds := [.handle], laidTests := true, laidLooks := .later }
def ProgramFunctionsCardSaid : Prop := Claim7.holds Tryd.pinned (.plain (OpenSpec.ofChange programFunctionsSpec)) programFunctionsCard

/-- THE TIED CARD OF 'portagelaw08.ProgramParts'. -/
def programPartsCard : Claim7 := { stood := { row := programPartsRow, standIns := [], harness := (true, "a017ea585805c7eb9189a447ff65ab33ffc3d977fec090427baf8a4b5be0a7f1"), looks := true }, kinds := [], alts := [], laidByText := true, laidKinds := [.handle], laidTests := true, laidLooks := .later }
def ProgramPartsCardSaid : Prop := Claim7.holds Tryd.pinned (.plain (OpenSpec.ofChange programPartsSpec)) programPartsCard

/-- THE TIED CARD OF 'portagelaw08.ProgramGrows'. -/
def programGrowsCard : Claim7 := { stood := { row := programGrowsRow, standIns := [], harness := (true, "a017ea585805c7eb9189a447ff65ab33ffc3d977fec090427baf8a4b5be0a7f1"), looks := true }, kinds := [], alts := [], laidByText := true, laidKinds := [.handle], laidTests := true, laidLooks := .later }
def ProgramGrowsCardSaid : Prop := Claim7.holds Tryd.pinned (.plain (OpenSpec.ofChange programGrowsSpec)) programGrowsCard

/-- THE SECOND FORM's CARD OF 'portagelaw08.ProgramChecks'. -/
def programChecksUptoCard : Claim7 := { stood := { row := programChecksUptoRow, standIns := [], harness := (true, "a017ea585805c7eb9189a447ff65ab33ffc3d977fec090427baf8a4b5be0a7f1"), looks := true }, kinds := [], alts := [], laidByText := true, laidKinds := [.handle], laidTests := true, laidLooks := .later }
def ProgramChecksUptoCardSaid : Prop := Claim7.holds Tryd.pinned (.plain (OpenSpec.upto programChecksSpec)) programChecksUptoCard

/-- THE SECOND FORM's CARD OF 'portagelaw08.ProgramConstants'. -/
def programConstantsUptoCard : Claim7 := { stood := { row := programConstantsUptoRow, standIns := [], harness := (true, "a017ea585805c7eb9189a447ff65ab33ffc3d977fec090427baf8a4b5be0a7f1"), looks := true }, kinds := [], alts := [], laidByText := true, laidKinds := [.handle], laidTests := true, laidLooks := .later }
def ProgramConstantsUptoCardSaid : Prop := Claim7.holds Tryd.pinned (.plain (OpenSpec.upto programConstantsSpec)) programConstantsUptoCard

/-- THE SECOND FORM's CARD OF 'portagelaw08.ProgramFunctions'. -/
def programFunctionsUptoCard : Claim7 := { stood := { row := programFunctionsUptoRow, standIns := [], harness := (true, "a017ea585805c7eb9189a447ff65ab33ffc3d977fec090427baf8a4b5be0a7f1"), looks := true }, kinds := [], alts := [], laidByText := true, laidKinds := [.handle], laidTests := true, laidLooks := .later }
def ProgramFunctionsUptoCardSaid : Prop := Claim7.holds Tryd.pinned (.plain (OpenSpec.upto programFunctionsSpec)) programFunctionsUptoCard

/-- THE SECOND FORM's CARD OF 'portagelaw08.ProgramParts'. -/
def programPartsUptoCard : Claim7 := { stood := { row := programPartsUptoRow, standIns := [], harness := (true, "a017ea585805c7eb9189a447ff65ab33ffc3d977fec090427baf8a4b5be0a7f1"), looks := true }, kinds := [], alts := [], laidByText := true, laidKinds := [.handle], laidTests := true, laidLooks := .later }
def ProgramPartsUptoCardSaid : Prop := Claim7.holds Tryd.pinned (.plain (OpenSpec.upto programPartsSpec)) programPartsUptoCard

/-- THE SECOND FORM's CARD OF 'portagelaw08.ProgramGrows'. -/
def programGrowsUptoCard : Claim7 := { stood := { row := programGrowsUptoRow, standIns := [], harness := (true, "a017ea585805c7eb9189a447ff65ab33ffc3d977fec090427baf8a4b5be0a7f1"), looks := true }, kinds := [], alts := [], laidByText := true, laidKinds := [.handle], laidTests := true, laidLooks := .later }
def ProgramGrowsUptoCardSaid : Prop := Claim7.holds Tryd.pinned (.plain (OpenSpec.upto programGrowsSpec)) programGrowsUptoCard
end Rows
end Go.Proofs.YtgaackedappmgaaDoor
