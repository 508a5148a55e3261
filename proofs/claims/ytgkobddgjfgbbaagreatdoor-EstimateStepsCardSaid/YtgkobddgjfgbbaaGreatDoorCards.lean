/-
  DERIVED. GIVEN WITH THE SEED: THE CARDS: each row of YtgkobddgjfgbbaaGreatDoorRows.lean that lists a variable, with what it lists TIED to the program's text (the seventh form; the later family's looks); each row that meets fmt, with fmt's text TOLD by the authors' own Lean function (tested against real Go, not proved from fmt's source: count such statements apart). THE CARD IS WHAT COUNTS. Prove the row's statement (the work); the ties are given (YtgkobddgjfgbbaaGreatDoorTie.lean); close each card by the builder's one call (the guide's Derived/Test/ToyasCard.lean, 'card_holds'). Laid BY PROGRAM, IN A SANDBOX (cutbox-door.mjs). By AI agents, Wed Nov 11 2026. No macro, syntax, notation, axiom, sorry.
-/
import Derived.Test.YtgkobddgjfgbbaaGreatDoorRows
import GoSem.ClaimSeven
namespace Go.Proofs.YtgkobddgjfgbbaaGreatDoor
namespace Rows

/-- THE TIED CARD OF 'graphdblaw32.EstimateAtoms'. -/
def estimateAtomsCard : Claim7 := { stood := { row := estimateAtomsRow, standIns := [], harness := (true, "8d7145bc5c8e59426761fc36b81cd022d310366f7d017a7194e762775ea5f80f"), looks := false }, kinds := [], alts := [], laidByText := true, laidKinds := [.data], laidTests := true, laidLooks := .later }
def EstimateAtomsCardSaid : Prop := Claim7.holds Tryz.pinned (.plain (OpenSpec.ofChange estimateAtomsSpec)) estimateAtomsCard

/-- THE TIED CARD OF 'graphdblaw32.EstimateRows'. -/
def estimateRowsCard : Claim7 := { stood := { row := estimateRowsRow, standIns := [], harness := (true, "8d7145bc5c8e59426761fc36b81cd022d310366f7d017a7194e762775ea5f80f"), looks := false }, kinds := [], alts := [], laidByText := true, laidKinds := [.data], laidTests := true, laidLooks := .later }
def EstimateRowsCardSaid : Prop := Claim7.holds Tryz.pinned (.plain (OpenSpec.ofChange estimateRowsSpec)) estimateRowsCard

/-- THE TIED CARD OF 'graphdblaw32.EstimateSteps'. -/
def estimateStepsCard : Claim7 := { stood := { row := estimateStepsRow, standIns := [], harness := (true, "8d7145bc5c8e59426761fc36b81cd022d310366f7d017a7194e762775ea5f80f"), looks := false }, kinds := [], alts := [], laidByText := true, laidKinds := [.data], laidTests := true, laidLooks := .later }
def EstimateStepsCardSaid : Prop := Claim7.holds Tryz.pinned (.plain (OpenSpec.ofChange estimateStepsSpec)) estimateStepsCard

/-- THE TIED CARD OF 'graphdblaw32.EstimateOrder'. -/
def estimateOrderCard : Claim7 := { stood := { row := estimateOrderRow, standIns := [], harness := (true, "8d7145bc5c8e59426761fc36b81cd022d310366f7d017a7194e762775ea5f80f"), looks := false }, kinds := [], alts := [], laidByText := true, laidKinds := [.data], laidTests := true, laidLooks := .later }
def EstimateOrderCardSaid : Prop := Claim7.holds Tryz.pinned (.plain (OpenSpec.ofChange estimateOrderSpec)) estimateOrderCard

/-- THE SECOND FORM's CARD OF 'graphdblaw32.EstimateAtoms'. -/
def estimateAtomsUptoCard : Claim7 := { stood := { row := estimateAtomsUptoRow, standIns := [], harness := (true, "8d7145bc5c8e59426761fc36b81cd022d310366f7d017a7194e762775ea5f80f"), looks := false }, kinds := [], alts := [], laidByText := true, laidKinds := [.data], laidTests := true, laidLooks := .later }
def EstimateAtomsUptoCardSaid : Prop := Claim7.holds Tryz.pinned (.plain (OpenSpec.upto estimateAtomsSpec)) estimateAtomsUptoCard

/-- THE SECOND FORM's CARD OF 'graphdblaw32.EstimateRows'. -/
def estimateRowsUptoCard : Claim7 := { stood := { row := estimateRowsUptoRow, standIns := [], harness := (true, "8d7145bc5c8e59426761fc36b81cd022d310366f7d017a7194e762775ea5f80f"), looks := false }, kinds := [], alts := [], laidByText := true, laidKinds := [.data], laidTests := true, laidLooks := .later }
def EstimateRowsUptoCardSaid : Prop := Claim7.holds Tryz.pinned (.plain (OpenSpec.upto estimateRowsSpec)) estimateRowsUptoCard

/-- THE SECOND FORM's CARD OF 'graphdblaw32.EstimateSteps'. -/
def estimateStepsUptoCard : Claim7 := { stood := { row := estimateStepsUptoRow, standIns := [], harness := (true, "8d7145bc5c8e59426761fc36b81cd022d310366f7d017a7194e762775ea5f80f"), looks := false }, kinds := [], alts := [], laidByText := true, laidKinds := [.data], laidTests := true, laidLooks := .later }
def EstimateStepsUptoCardSaid : Prop := Claim7.holds Tryz.pinned (.plain (OpenSpec.upto estimateStepsSpec)) estimateStepsUptoCard

/-- THE SECOND FORM's CARD OF 'graphdblaw32.EstimateOrder'. -/
def estimateOrderUptoCard : Claim7 := { stood := { row := estimateOrderUptoRow, standIns := [], harness := (true, "8d7145bc5c8e59426761fc36b81cd022d310366f7d017a7194e762775ea5f80f"), looks := false }, kinds := [], alts := [], laidByText := true, laidKinds := [.data], laidTests := true, laidLooks := .later }
def EstimateOrderUptoCardSaid : Prop := Claim7.holds Tryz.pinned (.plain (OpenSpec.upto estimateOrderSpec)) estimateOrderUptoCard
end Rows
end Go.Proofs.YtgkobddgjfgbbaaGreatDoor
