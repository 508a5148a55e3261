/-
  DERIVED. GIVEN WITH THE SEED: THE CARDS: each row of YtkjebcnlmanhlaaGreatDoorRows.lean that lists a variable, with what it lists TIED to the program's text (the seventh form; the later family's looks); each row that meets fmt, with fmt's text TOLD by the authors' own Lean function (tested against real Go, not proved from fmt's source: count such statements apart). THE CARD IS WHAT COUNTS. Prove the row's statement (the work); the ties are given (YtkjebcnlmanhlaaGreatDoorTie.lean); close each card by the builder's one call (the guide's Derived/Test/ToyasCard.lean, 'card_holds'). Laid BY PROGRAM, IN A SANDBOX (cutbox-door.mjs). By AI agents, Wed Nov 11 2026. No macro, syntax, notation, axiom, sorry.
-/
import Derived.Test.YtkjebcnlmanhlaaGreatDoorRows
import GoSem.ClaimSeven
namespace Go.Proofs.YtkjebcnlmanhlaaGreatDoor
namespace Rows

/-- THE TIED CARD OF 'graphdblaw32.EstimateWalks'. -/
def estimateWalksCard : Claim7 := { stood := { row := estimateWalksRow, standIns := [], harness := (true, "32bb31c6c759eb29272ddb5ad5d4329d4f3017d15b0013d5f08b74c8fa6ef54c"), looks := false }, kinds := [], alts := [], laidByText := true, laidKinds := [.data], laidTests := true, laidLooks := .later }
def EstimateWalksCardSaid : Prop := Claim7.holds Tryz.pinned (.plain (OpenSpec.ofChange estimateWalksSpec)) estimateWalksCard

/-- THE SECOND FORM's CARD OF 'graphdblaw32.EstimateWalks'. -/
def estimateWalksUptoCard : Claim7 := { stood := { row := estimateWalksUptoRow, standIns := [], harness := (true, "32bb31c6c759eb29272ddb5ad5d4329d4f3017d15b0013d5f08b74c8fa6ef54c"), looks := false }, kinds := [], alts := [], laidByText := true, laidKinds := [.data], laidTests := true, laidLooks := .later }
def EstimateWalksUptoCardSaid : Prop := Claim7.holds Tryz.pinned (.plain (OpenSpec.upto estimateWalksSpec)) estimateWalksUptoCard
end Rows
end Go.Proofs.YtkjebcnlmanhlaaGreatDoor
