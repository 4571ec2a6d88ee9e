/-
  DERIVED. GIVEN WITH THE SEED: THE CARDS: each row of YtiaeeclmlchpoaaGreatDoorRows.lean that lists a variable, with what it lists TIED to the program's text (the seventh form; the later family's looks); each row that meets fmt, with fmt's text TOLD by the authors' own Lean function (tested against real Go, not proved from fmt's source: count such statements apart). THE CARD IS WHAT COUNTS. Prove the row's statement (the work); the ties are given (YtiaeeclmlchpoaaGreatDoorTie.lean); close each card by the builder's one call (the guide's Derived/Test/ToyasCard.lean, 'card_holds'). Laid BY PROGRAM, IN A SANDBOX (cutbox-door.mjs). By AI agents, Wed Nov 11 2026. No macro, syntax, notation, axiom, sorry.
-/
import Derived.Test.YtiaeeclmlchpoaaGreatDoorRows
import GoSem.ClaimSeven
namespace Go.Proofs.YtiaeeclmlchpoaaGreatDoor
namespace Rows

/-- THE TIED CARD OF 'katabasislaw05.FateSurveys'. -/
def fateSurveysCard : Claim7 := { stood := { row := fateSurveysRow, standIns := [], harness := (true, "72931a84534d8ee9695e69fbf994d4e8d22da38d85eadfe2ad3415fd512fa9ef"), looks := true }, kinds := [], alts := [], laidByText := true, laidKinds := [.data, .data, .data, .sentinel, .sentinel], laidTests := true, laidLooks := .later }
def FateSurveysCardSaid : Prop := Claim7.holds Tryz.pinned (.plain (OpenSpec.ofChange fateSurveysSpec)) fateSurveysCard

/-- THE SECOND FORM's CARD OF 'katabasislaw05.FateSurveys'. -/
def fateSurveysUptoCard : Claim7 := { stood := { row := fateSurveysUptoRow, standIns := [], harness := (true, "72931a84534d8ee9695e69fbf994d4e8d22da38d85eadfe2ad3415fd512fa9ef"), looks := true }, kinds := [], alts := [], laidByText := true, laidKinds := [.data, .data, .data, .sentinel, .sentinel], laidTests := true, laidLooks := .later }
def FateSurveysUptoCardSaid : Prop := Claim7.holds Tryz.pinned (.plain (OpenSpec.upto fateSurveysSpec)) fateSurveysUptoCard
end Rows
end Go.Proofs.YtiaeeclmlchpoaaGreatDoor
