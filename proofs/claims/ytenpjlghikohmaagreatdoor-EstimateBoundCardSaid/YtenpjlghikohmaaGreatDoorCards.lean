/-
  DERIVED. GIVEN WITH THE SEED: THE CARDS: each row of YtenpjlghikohmaaGreatDoorRows.lean that lists a variable, with what it lists TIED to the program's text (the seventh form; the later family's looks); each row that meets fmt, with fmt's text TOLD by the authors' own Lean function (tested against real Go, not proved from fmt's source: count such statements apart). THE CARD IS WHAT COUNTS. Prove the row's statement (the work); the ties are given (YtenpjlghikohmaaGreatDoorTie.lean); close each card by the builder's one call (the guide's Derived/Test/ToyasCard.lean, 'card_holds'). Laid BY PROGRAM, IN A SANDBOX (cutbox-door.mjs). By AI agents, Wed Nov 11 2026. No macro, syntax, notation, axiom, sorry.
-/
import Derived.Test.YtenpjlghikohmaaGreatDoorRows
import GoSem.ClaimSeven
namespace Go.Proofs.YtenpjlghikohmaaGreatDoor
namespace Rows

/-- THE TIED CARD OF 'graphdblaw28.AtomsOf'. -/
def atomsOfCard : Claim7 := { stood := { row := atomsOfRow, standIns := [], harness := (true, "d2eb5a8d35c6f446e52bbd97152af2dd8cac223a2c7134afd90f2021edb63d29"), looks := false }, kinds := [], alts := [], laidByText := true, laidKinds := [.data, .data, .data, .data], laidTests := true, laidLooks := .later }
def AtomsOfCardSaid : Prop := Claim7.holds Tryz.pinned (.plain (OpenSpec.ofChange atomsOfSpec)) atomsOfCard

/-- THE TIED CARD OF 'graphdblaw32.EstimateBound'. -/
def estimateBoundCard : Claim7 := { stood := { row := estimateBoundRow, standIns := [], harness := (true, "d2eb5a8d35c6f446e52bbd97152af2dd8cac223a2c7134afd90f2021edb63d29"), looks := false }, kinds := [], alts := [], laidByText := true, laidKinds := [.data], laidTests := true, laidLooks := .later }
def EstimateBoundCardSaid : Prop := Claim7.holds Tryz.pinned (.plain (OpenSpec.ofChange estimateBoundSpec)) estimateBoundCard

/-- THE TIED CARD OF 'graphdblaw28.AtomsRels'. -/
def atomsRelsCard : Claim7 := { stood := { row := atomsRelsRow, standIns := [], harness := (true, "d2eb5a8d35c6f446e52bbd97152af2dd8cac223a2c7134afd90f2021edb63d29"), looks := false }, kinds := [], alts := [], laidByText := true, laidKinds := [.data, .data, .data, .data], laidTests := true, laidLooks := .later }
def AtomsRelsCardSaid : Prop := Claim7.holds Tryz.pinned (.plain (OpenSpec.ofChange atomsRelsSpec)) atomsRelsCard

/-- THE TIED CARD OF 'graphdblaw28.AtomsShrinks'. -/
def atomsShrinksCard : Claim7 := { stood := { row := atomsShrinksRow, standIns := [], harness := (true, "d2eb5a8d35c6f446e52bbd97152af2dd8cac223a2c7134afd90f2021edb63d29"), looks := false }, kinds := [], alts := [], laidByText := true, laidKinds := [.data, .data, .data, .data], laidTests := true, laidLooks := .later }
def AtomsShrinksCardSaid : Prop := Claim7.holds Tryz.pinned (.plain (OpenSpec.ofChange atomsShrinksSpec)) atomsShrinksCard

/-- THE SECOND FORM's CARD OF 'graphdblaw28.AtomsOf'. -/
def atomsOfUptoCard : Claim7 := { stood := { row := atomsOfUptoRow, standIns := [], harness := (true, "d2eb5a8d35c6f446e52bbd97152af2dd8cac223a2c7134afd90f2021edb63d29"), looks := false }, kinds := [], alts := [], laidByText := true, laidKinds := [.data, .data, .data, .data], laidTests := true, laidLooks := .later }
def AtomsOfUptoCardSaid : Prop := Claim7.holds Tryz.pinned (.plain (OpenSpec.upto atomsOfSpec)) atomsOfUptoCard

/-- THE SECOND FORM's CARD OF 'graphdblaw32.EstimateBound'. -/
def estimateBoundUptoCard : Claim7 := { stood := { row := estimateBoundUptoRow, standIns := [], harness := (true, "d2eb5a8d35c6f446e52bbd97152af2dd8cac223a2c7134afd90f2021edb63d29"), looks := false }, kinds := [], alts := [], laidByText := true, laidKinds := [.data], laidTests := true, laidLooks := .later }
def EstimateBoundUptoCardSaid : Prop := Claim7.holds Tryz.pinned (.plain (OpenSpec.upto estimateBoundSpec)) estimateBoundUptoCard

/-- THE SECOND FORM's CARD OF 'graphdblaw28.AtomsRels'. -/
def atomsRelsUptoCard : Claim7 := { stood := { row := atomsRelsUptoRow, standIns := [], harness := (true, "d2eb5a8d35c6f446e52bbd97152af2dd8cac223a2c7134afd90f2021edb63d29"), looks := false }, kinds := [], alts := [], laidByText := true, laidKinds := [.data, .data, .data, .data], laidTests := true, laidLooks := .later }
def AtomsRelsUptoCardSaid : Prop := Claim7.holds Tryz.pinned (.plain (OpenSpec.upto atomsRelsSpec)) atomsRelsUptoCard

/-- THE SECOND FORM's CARD OF 'graphdblaw28.AtomsShrinks'. -/
def atomsShrinksUptoCard : Claim7 := { stood := { row := atomsShrinksUptoRow, standIns := [], harness := (true, "d2eb5a8d35c6f446e52bbd97152af2dd8cac223a2c7134afd90f2021edb63d29"), looks := false }, kinds := [], alts := [], laidByText := true, laidKinds := [.data, .data, .data, .data], laidTests := true, laidLooks := .later }
def AtomsShrinksUptoCardSaid : Prop := Claim7.holds Tryz.pinned (.plain (OpenSpec.upto atomsShrinksSpec)) atomsShrinksUptoCard
end Rows
end Go.Proofs.YtenpjlghikohmaaGreatDoor
