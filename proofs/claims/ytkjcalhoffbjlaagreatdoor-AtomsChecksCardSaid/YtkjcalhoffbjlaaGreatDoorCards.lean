/-
  DERIVED. GIVEN WITH THE SEED: THE CARDS: each row of YtkjcalhoffbjlaaGreatDoorRows.lean that lists a variable, with what it lists TIED to the program's text (the seventh form; the later family's looks); each row that meets fmt, with fmt's text TOLD by the authors' own Lean function (tested against real Go, not proved from fmt's source: count such statements apart). THE CARD IS WHAT COUNTS. Prove the row's statement (the work); the ties are given (YtkjcalhoffbjlaaGreatDoorTie.lean); close each card by the builder's one call (the guide's Derived/Test/ToyasCard.lean, 'card_holds'). Laid BY PROGRAM, IN A SANDBOX (cutbox-door.mjs). By AI agents, Wed Nov 11 2026. No macro, syntax, notation, axiom, sorry.
-/
import Derived.Test.YtkjcalhoffbjlaaGreatDoorRows
import GoSem.ClaimSeven
namespace Go.Proofs.YtkjcalhoffbjlaaGreatDoor
namespace Rows

/-- THE TIED CARD OF 'graphdblaw28.AtomsOf'. -/
def atomsOfCard : Claim7 := { stood := { row := atomsOfRow, standIns := [], harness := (true, "575a42c2e2313f23da85ca84fdc8cbf3b5ac63fcdbca8a8236e1307c1679ef1d"), looks := false }, kinds := [], alts := [], laidByText := true, laidKinds := [.data, .data, .data, .data], laidTests := true, laidLooks := .later }
def AtomsOfCardSaid : Prop := Claim7.holds Tryz.pinned (.plain (OpenSpec.ofChange atomsOfSpec)) atomsOfCard

/-- THE TIED CARD OF 'graphdblaw28.AtomsChecks'. -/
def atomsChecksCard : Claim7 := { stood := { row := atomsChecksRow, standIns := [], harness := (true, "575a42c2e2313f23da85ca84fdc8cbf3b5ac63fcdbca8a8236e1307c1679ef1d"), looks := false }, kinds := [], alts := [], laidByText := true, laidKinds := [.data, .data, .data, .data], laidTests := true, laidLooks := .later }
def AtomsChecksCardSaid : Prop := Claim7.holds Tryz.pinned (.plain (OpenSpec.ofChange atomsChecksSpec)) atomsChecksCard

/-- THE TIED CARD OF 'graphdblaw28.AtomsRels'. -/
def atomsRelsCard : Claim7 := { stood := { row := atomsRelsRow, standIns := [], harness := (true, "575a42c2e2313f23da85ca84fdc8cbf3b5ac63fcdbca8a8236e1307c1679ef1d"), looks := false }, kinds := [], alts := [], laidByText := true, laidKinds := [.data, .data, .data, .data], laidTests := true, laidLooks := .later }
def AtomsRelsCardSaid : Prop := Claim7.holds Tryz.pinned (.plain (OpenSpec.ofChange atomsRelsSpec)) atomsRelsCard

/-- THE TIED CARD OF 'graphdblaw28.AtomsShrinks'. -/
def atomsShrinksCard : Claim7 := { stood := { row := atomsShrinksRow, standIns := [], harness := (true, "575a42c2e2313f23da85ca84fdc8cbf3b5ac63fcdbca8a8236e1307c1679ef1d"), looks := false }, kinds := [], alts := [], laidByText := true, laidKinds := [.data, .data, .data, .data], laidTests := true, laidLooks := .later }
def AtomsShrinksCardSaid : Prop := Claim7.holds Tryz.pinned (.plain (OpenSpec.ofChange atomsShrinksSpec)) atomsShrinksCard

/-- THE SECOND FORM's CARD OF 'graphdblaw28.AtomsOf'. -/
def atomsOfUptoCard : Claim7 := { stood := { row := atomsOfUptoRow, standIns := [], harness := (true, "575a42c2e2313f23da85ca84fdc8cbf3b5ac63fcdbca8a8236e1307c1679ef1d"), looks := false }, kinds := [], alts := [], laidByText := true, laidKinds := [.data, .data, .data, .data], laidTests := true, laidLooks := .later }
def AtomsOfUptoCardSaid : Prop := Claim7.holds Tryz.pinned (.plain (OpenSpec.upto atomsOfSpec)) atomsOfUptoCard

/-- THE SECOND FORM's CARD OF 'graphdblaw28.AtomsChecks'. -/
def atomsChecksUptoCard : Claim7 := { stood := { row := atomsChecksUptoRow, standIns := [], harness := (true, "575a42c2e2313f23da85ca84fdc8cbf3b5ac63fcdbca8a8236e1307c1679ef1d"), looks := false }, kinds := [], alts := [], laidByText := true, laidKinds := [.data, .data, .data, .data], laidTests := true, laidLooks := .later }
def AtomsChecksUptoCardSaid : Prop := Claim7.holds Tryz.pinned (.plain (OpenSpec.upto atomsChecksSpec)) atomsChecksUptoCard

/-- THE SECOND FORM's CARD OF 'graphdblaw28.AtomsRels'. -/
def atomsRelsUptoCard : Claim7 := { stood := { row := atomsRelsUptoRow, standIns := [], harness := (true, "575a42c2e2313f23da85ca84fdc8cbf3b5ac63fcdbca8a8236e1307c1679ef1d"), looks := false }, kinds := [], alts := [], laidByText := true, laidKinds := [.data, .data, .data, .data], laidTests := true, laidLooks := .later }
def AtomsRelsUptoCardSaid : Prop := Claim7.holds Tryz.pinned (.plain (OpenSpec.upto atomsRelsSpec)) atomsRelsUptoCard

/-- THE SECOND FORM's CARD OF 'graphdblaw28.AtomsShrinks'. -/
def atomsShrinksUptoCard : Claim7 := { stood := { row := atomsShrinksUptoRow, standIns := [], harness := (true, "575a42c2e2313f23da85ca84fdc8cbf3b5ac63fcdbca8a8236e1307c1679ef1d"), looks := false }, kinds := [], alts := [], laidByText := true, laidKinds := [.data, .data, .data, .data], laidTests := true, laidLooks := .later }
def AtomsShrinksUptoCardSaid : Prop := Claim7.holds Tryz.pinned (.plain (OpenSpec.upto atomsShrinksSpec)) atomsShrinksUptoCard
end Rows
end Go.Proofs.YtkjcalhoffbjlaaGreatDoor
