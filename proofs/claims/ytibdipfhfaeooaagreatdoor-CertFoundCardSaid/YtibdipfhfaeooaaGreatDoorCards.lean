/-
  DERIVED. GIVEN WITH THE SEED: THE CARDS: each row of YtibdipfhfaeooaaGreatDoorRows.lean that lists a variable, with what it lists TIED to the program's text (the seventh form; the later family's looks); each row that meets fmt, with fmt's text TOLD by the authors' own Lean function (tested against real Go, not proved from fmt's source: count such statements apart). THE CARD IS WHAT COUNTS. Prove the row's statement (the work); the ties are given (YtibdipfhfaeooaaGreatDoorTie.lean); close each card by the builder's one call (the guide's Derived/Test/ToyasCard.lean, 'card_holds'). Laid BY PROGRAM, IN A SANDBOX (cutbox-door.mjs). By AI agents, Wed Nov 11 2026. No macro, syntax, notation, axiom, sorry.
-/
import Derived.Test.YtibdipfhfaeooaaGreatDoorRows
import GoSem.ClaimSeven
namespace Go.Proofs.YtibdipfhfaeooaaGreatDoor
namespace Rows

/-- THE TIED CARD OF 'katabasistop.TopDown'. -/
def topDownCard : Claim7 := { stood := { row := topDownRow, standIns := [], harness := (true, "8c1318c93a185d3296b463f8b795a66cbd46bc72909e511873cb0fdb945459e9"), looks := true }, kinds := [], alts := [], laidByText := true, laidKinds := [.data, .data, .data, .sentinel, .sentinel], laidTests := true, laidLooks := .later }
def TopDownCardSaid : Prop := Claim7.holds Tryz.pinned (.plain (OpenSpec.ofChange topDownSpec)) topDownCard

/-- THE TIED CARD OF 'katabasistop.TopStairs'. -/
def topStairsCard : Claim7 := { stood := { row := topStairsRow, standIns := [], harness := (true, "8c1318c93a185d3296b463f8b795a66cbd46bc72909e511873cb0fdb945459e9"), looks := true }, kinds := [], alts := [], laidByText := true, laidKinds := [.data, .data, .data, .sentinel, .sentinel], laidTests := true, laidLooks := .later }
def TopStairsCardSaid : Prop := Claim7.holds Tryz.pinned (.plain (OpenSpec.ofChange topStairsSpec)) topStairsCard

/-- THE TIED CARD OF 'katabasislaw09.CertChecks'. -/
def certChecksCard : Claim7 := { stood := { row := certChecksRow, standIns := [], harness := (true, "8c1318c93a185d3296b463f8b795a66cbd46bc72909e511873cb0fdb945459e9"), looks := true }, kinds := [], alts := [], laidByText := true, laidKinds := [.data, .data, .data, .sentinel, .sentinel], laidTests := true, laidLooks := .later }
def CertChecksCardSaid : Prop := Claim7.holds Tryz.pinned (.plain (OpenSpec.ofChange certChecksSpec)) certChecksCard

/-- THE TIED CARD OF 'katabasislaw09.CertFinds'. -/
def certFindsCard : Claim7 := { stood := { row := certFindsRow, standIns := [], harness := (true, "8c1318c93a185d3296b463f8b795a66cbd46bc72909e511873cb0fdb945459e9"), looks := true }, kinds := [], alts := [], laidByText := true, laidKinds := [.data, .data, .data, .sentinel, .sentinel], laidTests := true, laidLooks := .later }
def CertFindsCardSaid : Prop := Claim7.holds Tryz.pinned (.plain (OpenSpec.ofChange certFindsSpec)) certFindsCard

/-- THE TIED CARD OF 'katabasislaw09.CertEnds'. -/
def certEndsCard : Claim7 := { stood := { row := certEndsRow, standIns := [], harness := (true, "8c1318c93a185d3296b463f8b795a66cbd46bc72909e511873cb0fdb945459e9"), looks := true }, kinds := [], alts := [], laidByText := true, laidKinds := [.data, .data, .data, .sentinel, .sentinel], laidTests := true, laidLooks := .later }
def CertEndsCardSaid : Prop := Claim7.holds Tryz.pinned (.plain (OpenSpec.ofChange certEndsSpec)) certEndsCard

/-- THE TIED CARD OF 'katabasislaw09.CertDown'. -/
def certDownCard : Claim7 := { stood := { row := certDownRow, standIns := [], harness := (true, "8c1318c93a185d3296b463f8b795a66cbd46bc72909e511873cb0fdb945459e9"), looks := true }, kinds := [], alts := [], laidByText := true, laidKinds := [.data, .data, .data, .sentinel, .sentinel], laidTests := true, laidLooks := .later }
def CertDownCardSaid : Prop := Claim7.holds Tryz.pinned (.plain (OpenSpec.ofChange certDownSpec)) certDownCard

/-- THE TIED CARD OF 'katabasislaw09.CertFound'. -/
def certFoundCard : Claim7 := { stood := { row := certFoundRow, standIns := [], harness := (true, "8c1318c93a185d3296b463f8b795a66cbd46bc72909e511873cb0fdb945459e9"), looks := true }, kinds := [], alts := [], laidByText := true, laidKinds := [.data, .data, .data, .sentinel, .sentinel], laidTests := true, laidLooks := .later }
def CertFoundCardSaid : Prop := Claim7.holds Tryz.pinned (.plain (OpenSpec.ofChange certFoundSpec)) certFoundCard

/-- THE TIED CARD OF 'katabasislaw09.CertFalls'. -/
def certFallsCard : Claim7 := { stood := { row := certFallsRow, standIns := [], harness := (true, "8c1318c93a185d3296b463f8b795a66cbd46bc72909e511873cb0fdb945459e9"), looks := true }, kinds := [], alts := [], laidByText := true, laidKinds := [.data, .data, .data, .sentinel, .sentinel], laidTests := true, laidLooks := .later }
def CertFallsCardSaid : Prop := Claim7.holds Tryz.pinned (.plain (OpenSpec.ofChange certFallsSpec)) certFallsCard

/-- THE SECOND FORM's CARD OF 'katabasistop.TopDown'. -/
def topDownUptoCard : Claim7 := { stood := { row := topDownUptoRow, standIns := [], harness := (true, "8c1318c93a185d3296b463f8b795a66cbd46bc72909e511873cb0fdb945459e9"), looks := true }, kinds := [], alts := [], laidByText := true, laidKinds := [.data, .data, .data, .sentinel, .sentinel], laidTests := true, laidLooks := .later }
def TopDownUptoCardSaid : Prop := Claim7.holds Tryz.pinned (.plain (OpenSpec.upto topDownSpec)) topDownUptoCard

/-- THE SECOND FORM's CARD OF 'katabasistop.TopStairs'. -/
def topStairsUptoCard : Claim7 := { stood := { row := topStairsUptoRow, standIns := [], harness := (true, "8c1318c93a185d3296b463f8b795a66cbd46bc72909e511873cb0fdb945459e9"), looks := true }, kinds := [], alts := [], laidByText := true, laidKinds := [.data, .data, .data, .sentinel, .sentinel], laidTests := true, laidLooks := .later }
def TopStairsUptoCardSaid : Prop := Claim7.holds Tryz.pinned (.plain (OpenSpec.upto topStairsSpec)) topStairsUptoCard

/-- THE SECOND FORM's CARD OF 'katabasislaw09.CertChecks'. -/
def certChecksUptoCard : Claim7 := { stood := { row := certChecksUptoRow, standIns := [], harness := (true, "8c1318c93a185d3296b463f8b795a66cbd46bc72909e511873cb0fdb945459e9"), looks := true }, kinds := [], alts := [], laidByText := true, laidKinds := [.data, .data, .data, .sentinel, .sentinel], laidTests := true, laidLooks := .later }
def CertChecksUptoCardSaid : Prop := Claim7.holds Tryz.pinned (.plain (OpenSpec.upto certChecksSpec)) certChecksUptoCard

/-- THE SECOND FORM's CARD OF 'katabasislaw09.CertFinds'. -/
def certFindsUptoCard : Claim7 := { stood := { row := certFindsUptoRow, standIns := [], harness := (true, "8c1318c93a185d3296b463f8b795a66cbd46bc72909e511873cb0fdb945459e9"), looks := true }, kinds := [], alts := [], laidByText := true, laidKinds := [.data, .data, .data, .sentinel, .sentinel], laidTests := true, laidLooks := .later }
def CertFindsUptoCardSaid : Prop := Claim7.holds Tryz.pinned (.plain (OpenSpec.upto certFindsSpec)) certFindsUptoCard

/-- THE SECOND FORM's CARD OF 'katabasislaw09.CertEnds'. -/
def certEndsUptoCard : Claim7 := { stood := { row := certEndsUptoRow, standIns := [], harness := (true, "8c1318c93a185d3296b463f8b795a66cbd46bc72909e511873cb0fdb945459e9"), looks := true }, kinds := [], alts := [], laidByText := true, laidKinds := [.data, .data, .data, .sentinel, .sentinel], laidTests := true, laidLooks := .later }
def CertEndsUptoCardSaid : Prop := Claim7.holds Tryz.pinned (.plain (OpenSpec.upto certEndsSpec)) certEndsUptoCard

/-- THE SECOND FORM's CARD OF 'katabasislaw09.CertDown'. -/
def certDownUptoCard : Claim7 := { stood := { row := certDownUptoRow, standIns := [], harness := (true, "8c1318c93a185d3296b463f8b795a66cbd46bc72909e511873cb0fdb945459e9"), looks := true }, kinds := [], alts := [], laidByText := true, laidKinds := [.data, .data, .data, .sentinel, .sentinel], laidTests := true, laidLooks := .later }
def CertDownUptoCardSaid : Prop := Claim7.holds Tryz.pinned (.plain (OpenSpec.upto certDownSpec)) certDownUptoCard

/-- THE SECOND FORM's CARD OF 'katabasislaw09.CertFound'. -/
def certFoundUptoCard : Claim7 := { stood := { row := certFoundUptoRow, standIns := [], harness := (true, "8c1318c93a185d3296b463f8b795a66cbd46bc72909e511873cb0fdb945459e9"), looks := true }, kinds := [], alts := [], laidByText := true, laidKinds := [.data, .data, .data, .sentinel, .sentinel], laidTests := true, laidLooks := .later }
def CertFoundUptoCardSaid : Prop := Claim7.holds Tryz.pinned (.plain (OpenSpec.upto certFoundSpec)) certFoundUptoCard

/-- THE SECOND FORM's CARD OF 'katabasislaw09.CertFalls'. -/
def certFallsUptoCard : Claim7 := { stood := { row := certFallsUptoRow, standIns := [], harness := (true, "8c1318c93a185d3296b463f8b795a66cbd46bc72909e511873cb0fdb945459e9"), looks := true }, kinds := [], alts := [], laidByText := true, laidKinds := [.data, .data, .data, .sentinel, .sentinel], laidTests := true, laidLooks := .later }
def CertFallsUptoCardSaid : Prop := Claim7.holds Tryz.pinned (.plain (OpenSpec.upto certFallsSpec)) certFallsUptoCard
end Rows
end Go.Proofs.YtibdipfhfaeooaaGreatDoor
