/-
  DERIVED. GIVEN WITH THE SEED: THE CARDS: each row of YthmhfllamlkjoaaGreatDoorRows.lean that lists a variable, with what it lists TIED to the program's text (the seventh form; the later family's looks); each row that meets fmt, with fmt's text TOLD by the authors' own Lean function (tested against real Go, not proved from fmt's source: count such statements apart). THE CARD IS WHAT COUNTS. Prove the row's statement (the work); the ties are given (YthmhfllamlkjoaaGreatDoorTie.lean); close each card by the builder's one call (the guide's Derived/Test/ToyasCard.lean, 'card_holds'). Laid BY PROGRAM, IN A SANDBOX (cutbox-door.mjs). By AI agents, Wed Nov 11 2026. No macro, syntax, notation, axiom, sorry.
-/
import Derived.Test.YthmhfllamlkjoaaGreatDoorRows
import GoSem.ClaimSeven
namespace Go.Proofs.YthmhfllamlkjoaaGreatDoor
namespace Rows

/-- THE TIED CARD OF 'graphdblaw20.FormatExprs'. -/
def formatExprsCard : Claim7 := { stood := { row := formatExprsRow, standIns := [], harness := (true, "f59e31dc2e7e1ec7e3f619e883a8eabd08b64e685bebfc87a75815935cf618ca"), looks := false }, kinds := [], alts := [], laidByText := true, laidKinds := [.data, .data, .data, .data, .pinned], laidTests := true, laidLooks := .later }
def FormatExprsCardSaid : Prop := Claim7.holds Tryz.pinned (.plain (OpenSpec.ofChange formatExprsSpec)) formatExprsCard

/-- THE TIED CARD OF 'graphdblaw20.FormatClauses'. -/
def formatClausesCard : Claim7 := { stood := { row := formatClausesRow, standIns := [], harness := (true, "f59e31dc2e7e1ec7e3f619e883a8eabd08b64e685bebfc87a75815935cf618ca"), looks := false }, kinds := [], alts := [], laidByText := true, laidKinds := [.data, .data, .data, .data, .pinned], laidTests := true, laidLooks := .later }
def FormatClausesCardSaid : Prop := Claim7.holds Tryz.pinned (.plain (OpenSpec.ofChange formatClausesSpec)) formatClausesCard

/-- THE TIED CARD OF 'graphdblaw20.FormatQueries'. -/
def formatQueriesCard : Claim7 := { stood := { row := formatQueriesRow, standIns := [], harness := (true, "f59e31dc2e7e1ec7e3f619e883a8eabd08b64e685bebfc87a75815935cf618ca"), looks := false }, kinds := [], alts := [], laidByText := true, laidKinds := [.data, .data, .data, .data, .pinned], laidTests := true, laidLooks := .later }
def FormatQueriesCardSaid : Prop := Claim7.holds Tryz.pinned (.plain (OpenSpec.ofChange formatQueriesSpec)) formatQueriesCard

/-- THE SECOND FORM's CARD OF 'graphdblaw20.FormatExprs'. -/
def formatExprsUptoCard : Claim7 := { stood := { row := formatExprsUptoRow, standIns := [], harness := (true, "f59e31dc2e7e1ec7e3f619e883a8eabd08b64e685bebfc87a75815935cf618ca"), looks := false }, kinds := [], alts := [], laidByText := true, laidKinds := [.data, .data, .data, .data, .pinned], laidTests := true, laidLooks := .later }
def FormatExprsUptoCardSaid : Prop := Claim7.holds Tryz.pinned (.plain (OpenSpec.upto formatExprsSpec)) formatExprsUptoCard

/-- THE SECOND FORM's CARD OF 'graphdblaw20.FormatClauses'. -/
def formatClausesUptoCard : Claim7 := { stood := { row := formatClausesUptoRow, standIns := [], harness := (true, "f59e31dc2e7e1ec7e3f619e883a8eabd08b64e685bebfc87a75815935cf618ca"), looks := false }, kinds := [], alts := [], laidByText := true, laidKinds := [.data, .data, .data, .data, .pinned], laidTests := true, laidLooks := .later }
def FormatClausesUptoCardSaid : Prop := Claim7.holds Tryz.pinned (.plain (OpenSpec.upto formatClausesSpec)) formatClausesUptoCard

/-- THE SECOND FORM's CARD OF 'graphdblaw20.FormatQueries'. -/
def formatQueriesUptoCard : Claim7 := { stood := { row := formatQueriesUptoRow, standIns := [], harness := (true, "f59e31dc2e7e1ec7e3f619e883a8eabd08b64e685bebfc87a75815935cf618ca"), looks := false }, kinds := [], alts := [], laidByText := true, laidKinds := [.data, .data, .data, .data, .pinned], laidTests := true, laidLooks := .later }
def FormatQueriesUptoCardSaid : Prop := Claim7.holds Tryz.pinned (.plain (OpenSpec.upto formatQueriesSpec)) formatQueriesUptoCard
end Rows
end Go.Proofs.YthmhfllamlkjoaaGreatDoor
