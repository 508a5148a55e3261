/-
  DERIVED. GIVEN WITH THE SEED: THE CARDS: each row of YtndgolmgaenlfaaGreatDoorRows.lean that lists a variable, with what it lists TIED to the program's text (the seventh form; the later family's looks); each row that meets fmt, with fmt's text TOLD by the authors' own Lean function (tested against real Go, not proved from fmt's source: count such statements apart). THE CARD IS WHAT COUNTS. Prove the row's statement (the work); the ties are given (YtndgolmgaenlfaaGreatDoorTie.lean); close each card by the builder's one call (the guide's Derived/Test/ToyasCard.lean, 'card_holds'). Laid BY PROGRAM, IN A SANDBOX (cutbox-door.mjs). By AI agents, Wed Nov 11 2026. No macro, syntax, notation, axiom, sorry.
-/
import Derived.Test.YtndgolmgaenlfaaGreatDoorRows
import GoSem.ClaimSeven
namespace Go.Proofs.YtndgolmgaenlfaaGreatDoor
namespace Rows

/-- THE TIED CARD OF 'graphdblaw35.PlanChecks'. -/
def planChecksCard : Claim7 := { stood := { row := planChecksRow, standIns := [], harness := (true, "e0194c6331e921b441e8d3c2b22c31baa152c3d9072564a9bddb1ef21cc59f85"), looks := false }, kinds := [], alts := [], laidByText := true, laidKinds := [.data, .data, .data, .data, .data, .pinned], laidTests := true, laidLooks := .later }
def PlanChecksCardSaid : Prop := Claim7.holds Tryz.pinned (.plain (OpenSpec.ofChange planChecksSpec)) planChecksCard

/-- THE TIED CARD OF 'graphdblaw35.PlanTexts'. -/
def planTextsCard : Claim7 := { stood := { row := planTextsRow, standIns := [], harness := (true, "e0194c6331e921b441e8d3c2b22c31baa152c3d9072564a9bddb1ef21cc59f85"), looks := false }, kinds := [], alts := [], laidByText := true, laidKinds := [.data, .data, .data, .data, .data, .pinned], laidTests := true, laidLooks := .later }
def PlanTextsCardSaid : Prop := Claim7.holds Tryz.pinned (.plain (OpenSpec.ofChange planTextsSpec)) planTextsCard

/-- THE TIED CARD OF 'graphdblaw35.PlanParts'. -/
def planPartsCard : Claim7 := { stood := { row := planPartsRow, standIns := [], harness := (true, "e0194c6331e921b441e8d3c2b22c31baa152c3d9072564a9bddb1ef21cc59f85"), looks := false }, kinds := [], alts := [], laidByText := true, laidKinds := [.data, .data, .data, .data, .data, .pinned], laidTests := true, laidLooks := .later }
def PlanPartsCardSaid : Prop := Claim7.holds Tryz.pinned (.plain (OpenSpec.ofChange planPartsSpec)) planPartsCard

/-- THE TIED CARD OF 'graphdblaw35.PlanApart'. -/
def planApartCard : Claim7 := { stood := { row := planApartRow, standIns := [], harness := (true, "e0194c6331e921b441e8d3c2b22c31baa152c3d9072564a9bddb1ef21cc59f85"), looks := false }, kinds := [], alts := [], laidByText := true, laidKinds := [.data, .data, .data, .data, .data, .pinned], laidTests := true, laidLooks := .later }
def PlanApartCardSaid : Prop := Claim7.holds Tryz.pinned (.plain (OpenSpec.ofChange planApartSpec)) planApartCard

/-- THE TIED CARD OF 'graphdblaw35.PlanNests'. -/
def planNestsCard : Claim7 := { stood := { row := planNestsRow, standIns := [], harness := (true, "e0194c6331e921b441e8d3c2b22c31baa152c3d9072564a9bddb1ef21cc59f85"), looks := false }, kinds := [], alts := [], laidByText := true, laidKinds := [.data, .data, .data, .data, .data, .pinned], laidTests := true, laidLooks := .later }
def PlanNestsCardSaid : Prop := Claim7.holds Tryz.pinned (.plain (OpenSpec.ofChange planNestsSpec)) planNestsCard

/-- THE SECOND FORM's CARD OF 'graphdblaw35.PlanChecks'. -/
def planChecksUptoCard : Claim7 := { stood := { row := planChecksUptoRow, standIns := [], harness := (true, "e0194c6331e921b441e8d3c2b22c31baa152c3d9072564a9bddb1ef21cc59f85"), looks := false }, kinds := [], alts := [], laidByText := true, laidKinds := [.data, .data, .data, .data, .data, .pinned], laidTests := true, laidLooks := .later }
def PlanChecksUptoCardSaid : Prop := Claim7.holds Tryz.pinned (.plain (OpenSpec.upto planChecksSpec)) planChecksUptoCard

/-- THE SECOND FORM's CARD OF 'graphdblaw35.PlanTexts'. -/
def planTextsUptoCard : Claim7 := { stood := { row := planTextsUptoRow, standIns := [], harness := (true, "e0194c6331e921b441e8d3c2b22c31baa152c3d9072564a9bddb1ef21cc59f85"), looks := false }, kinds := [], alts := [], laidByText := true, laidKinds := [.data, .data, .data, .data, .data, .pinned], laidTests := true, laidLooks := .later }
def PlanTextsUptoCardSaid : Prop := Claim7.holds Tryz.pinned (.plain (OpenSpec.upto planTextsSpec)) planTextsUptoCard

/-- THE SECOND FORM's CARD OF 'graphdblaw35.PlanParts'. -/
def planPartsUptoCard : Claim7 := { stood := { row := planPartsUptoRow, standIns := [], harness := (true, "e0194c6331e921b441e8d3c2b22c31baa152c3d9072564a9bddb1ef21cc59f85"), looks := false }, kinds := [], alts := [], laidByText := true, laidKinds := [.data, .data, .data, .data, .data, .pinned], laidTests := true, laidLooks := .later }
def PlanPartsUptoCardSaid : Prop := Claim7.holds Tryz.pinned (.plain (OpenSpec.upto planPartsSpec)) planPartsUptoCard

/-- THE SECOND FORM's CARD OF 'graphdblaw35.PlanApart'. -/
def planApartUptoCard : Claim7 := { stood := { row := planApartUptoRow, standIns := [], harness := (true, "e0194c6331e921b441e8d3c2b22c31baa152c3d9072564a9bddb1ef21cc59f85"), looks := false }, kinds := [], alts := [], laidByText := true, laidKinds := [.data, .data, .data, .data, .data, .pinned], laidTests := true, laidLooks := .later }
def PlanApartUptoCardSaid : Prop := Claim7.holds Tryz.pinned (.plain (OpenSpec.upto planApartSpec)) planApartUptoCard

/-- THE SECOND FORM's CARD OF 'graphdblaw35.PlanNests'. -/
def planNestsUptoCard : Claim7 := { stood := { row := planNestsUptoRow, standIns := [], harness := (true, "e0194c6331e921b441e8d3c2b22c31baa152c3d9072564a9bddb1ef21cc59f85"), looks := false }, kinds := [], alts := [], laidByText := true, laidKinds := [.data, .data, .data, .data, .data, .pinned], laidTests := true, laidLooks := .later }
def PlanNestsUptoCardSaid : Prop := Claim7.holds Tryz.pinned (.plain (OpenSpec.upto planNestsSpec)) planNestsUptoCard
end Rows
end Go.Proofs.YtndgolmgaenlfaaGreatDoor
