/-
  DERIVED. GIVEN WITH THE SEED: THE CARDS: each row of YtiaeeclmlchpoaaDoorRows.lean that lists a variable, with what it lists TIED to the program's text (the seventh form; the later family's looks); each row that meets fmt, with fmt's text TOLD by the authors' own Lean function (tested against real Go, not proved from fmt's source: count such statements apart). THE CARD IS WHAT COUNTS. Prove the row's statement (the work); the ties are given (YtiaeeclmlchpoaaDoorTie.lean); close each card by the builder's one call (the guide's Derived/Test/ToyasCard.lean, 'card_holds'). Laid BY PROGRAM, IN A SANDBOX (cutbox-door.mjs). By AI agents, Wed Nov 11 2026. No macro, syntax, notation, axiom, sorry.
-/
import Derived.Test.YtiaeeclmlchpoaaDoorRows
import GoSem.ClaimSeven
namespace Go.Proofs.YtiaeeclmlchpoaaDoor
namespace Rows

/-- THE TIED CARD OF 'katabasislaw05.FateTells'. -/
def fateTellsCard : Claim7 := { stood := { row := fateTellsRow, standIns := [], harness := (true, "e153651947bda6213cc69ea441eb7d3fde102ba2c3f833c36f94c6dc7735654b"), looks := true }, kinds := [], alts := [], laidByText := true, laidKinds := [.data, .data, .data, .sentinel, .sentinel], laidTests := true, laidLooks := .later }
def FateTellsCardSaid : Prop := Claim7.holds Tryd.pinned (.plain (OpenSpec.ofChange fateTellsSpec)) fateTellsCard

/-- THE TIED CARD OF 'katabasislaw05.FateRecords'. -/
def fateRecordsCard : Claim7 := { stood := { row := fateRecordsRow, standIns := [], harness := (true, "e153651947bda6213cc69ea441eb7d3fde102ba2c3f833c36f94c6dc7735654b"), looks := true }, kinds := [], alts := [], laidByText := true, laidKinds := [.data, .data, .data, .sentinel, .sentinel], laidTests := true, laidLooks := .later }
def FateRecordsCardSaid : Prop := Claim7.holds Tryd.pinned (.plain (OpenSpec.ofChange fateRecordsSpec)) fateRecordsCard

/-- THE TIED CARD OF 'katabasislaw05.FateRanks'. -/
def fateRanksCard : Claim7 := { stood := { row := fateRanksRow, standIns := [], harness := (true, "e153651947bda6213cc69ea441eb7d3fde102ba2c3f833c36f94c6dc7735654b"), looks := true }, kinds := [], alts := [], laidByText := true, laidKinds := [.data, .data, .data, .sentinel, .sentinel], laidTests := true, laidLooks := .later }
def FateRanksCardSaid : Prop := Claim7.holds Tryd.pinned (.plain (OpenSpec.ofChange fateRanksSpec)) fateRanksCard

/-- THE TIED CARD OF 'katabasislaw05.FateAlong'. -/
def fateAlongCard : Claim7 := { stood := { row := fateAlongRow, standIns := [], harness := (true, "e153651947bda6213cc69ea441eb7d3fde102ba2c3f833c36f94c6dc7735654b"), looks := true }, kinds := [], alts := [], laidByText := true, laidKinds := [.data, .data, .data, .sentinel, .sentinel], laidTests := true, laidLooks := .later }
def FateAlongCardSaid : Prop := Claim7.holds Tryd.pinned (.plain (OpenSpec.ofChange fateAlongSpec)) fateAlongCard

/-- THE TIED CARD OF 'katabasislaw05.FateCycles'. -/
def fateCyclesCard : Claim7 := { stood := { row := fateCyclesRow, standIns := [], harness := (true, "e153651947bda6213cc69ea441eb7d3fde102ba2c3f833c36f94c6dc7735654b"), looks := true }, kinds := [], alts := [], laidByText := true, laidKinds := [.data, .data, .data, .sentinel, .sentinel], laidTests := true, laidLooks := .later }
def FateCyclesCardSaid : Prop := Claim7.holds Tryd.pinned (.plain (OpenSpec.ofChange fateCyclesSpec)) fateCyclesCard

/-- THE TIED CARD OF 'katabasislaw05.FateParts'. -/
def fatePartsCard : Claim7 := { stood := { row := fatePartsRow, standIns := [], harness := (true, "e153651947bda6213cc69ea441eb7d3fde102ba2c3f833c36f94c6dc7735654b"), looks := true }, kinds := [], alts := [], laidByText := true, laidKinds := [.data, .data, .data, .sentinel, .sentinel], laidTests := true, laidLooks := .later }
def FatePartsCardSaid : Prop := Claim7.holds Tryd.pinned (.plain (OpenSpec.ofChange fatePartsSpec)) fatePartsCard

/-- THE SECOND FORM's CARD OF 'katabasislaw05.FateTells'. -/
def fateTellsUptoCard : Claim7 := { stood := { row := fateTellsUptoRow, standIns := [], harness := (true, "e153651947bda6213cc69ea441eb7d3fde102ba2c3f833c36f94c6dc7735654b"), looks := true }, kinds := [], alts := [], laidByText := true, laidKinds := [.data, .data, .data, .sentinel, .sentinel], laidTests := true, laidLooks := .later }
def FateTellsUptoCardSaid : Prop := Claim7.holds Tryd.pinned (.plain (OpenSpec.upto fateTellsSpec)) fateTellsUptoCard

/-- THE SECOND FORM's CARD OF 'katabasislaw05.FateRecords'. -/
def fateRecordsUptoCard : Claim7 := { stood := { row := fateRecordsUptoRow, standIns := [], harness := (true, "e153651947bda6213cc69ea441eb7d3fde102ba2c3f833c36f94c6dc7735654b"), looks := true }, kinds := [], alts := [], laidByText := true, laidKinds := [.data, .data, .data, .sentinel, .sentinel], laidTests := true, laidLooks := .later }
def FateRecordsUptoCardSaid : Prop := Claim7.holds Tryd.pinned (.plain (OpenSpec.upto fateRecordsSpec)) fateRecordsUptoCard

/-- THE SECOND FORM's CARD OF 'katabasislaw05.FateRanks'. -/
def fateRanksUptoCard : Claim7 := { stood := { row := fateRanksUptoRow, standIns := [], harness := (true, "e153651947bda6213cc69ea441eb7d3fde102ba2c3f833c36f94c6dc7735654b"), looks := true }, kinds := [], alts := [], laidByText := true, laidKinds := [.data, .data, .data, .sentinel, .sentinel], laidTests := true, laidLooks := .later }
def FateRanksUptoCardSaid : Prop := Claim7.holds Tryd.pinned (.plain (OpenSpec.upto fateRanksSpec)) fateRanksUptoCard

/-- THE SECOND FORM's CARD OF 'katabasislaw05.FateAlong'. -/
def fateAlongUptoCard : Claim7 := { stood := { row := fateAlongUptoRow, standIns := [], harness := (true, "e153651947bda6213cc69ea441eb7d3fde102ba2c3f833c36f94c6dc7735654b"), looks := true }, kinds := [], alts := [], laidByText := true, laidKinds := [.data, .data, .data, .sentinel, .sentinel], laidTests := true, laidLooks := .later }
def FateAlongUptoCardSaid : Prop := Claim7.holds Tryd.pinned (.plain (OpenSpec.upto fateAlongSpec)) fateAlongUptoCard

/-- THE SECOND FORM's CARD OF 'katabasislaw05.FateCycles'. -/
def fateCyclesUptoCard : Claim7 := { stood := { row := fateCyclesUptoRow, standIns := [], harness := (true, "e153651947bda6213cc69ea441eb7d3fde102ba2c3f833c36f94c6dc7735654b"), looks := true }, kinds := [], alts := [], laidByText := true, laidKinds := [.data, .data, .data, .sentinel, .sentinel], laidTests := true, laidLooks := .later }
def FateCyclesUptoCardSaid : Prop := Claim7.holds Tryd.pinned (.plain (OpenSpec.upto fateCyclesSpec)) fateCyclesUptoCard

/-- THE SECOND FORM's CARD OF 'katabasislaw05.FateParts'. -/
def fatePartsUptoCard : Claim7 := { stood := { row := fatePartsUptoRow, standIns := [], harness := (true, "e153651947bda6213cc69ea441eb7d3fde102ba2c3f833c36f94c6dc7735654b"), looks := true }, kinds := [], alts := [], laidByText := true, laidKinds := [.data, .data, .data, .sentinel, .sentinel], laidTests := true, laidLooks := .later }
def FatePartsUptoCardSaid : Prop := Claim7.holds Tryd.pinned (.plain (OpenSpec.upto fatePartsSpec)) fatePartsUptoCard
end Rows
end Go.Proofs.YtiaeeclmlchpoaaDoor
