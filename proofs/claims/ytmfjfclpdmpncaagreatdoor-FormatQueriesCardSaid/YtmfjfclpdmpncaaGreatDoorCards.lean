/-
  DERIVED. GIVEN WITH THE SEED: THE CARDS: each row of YtmfjfclpdmpncaaGreatDoorRows.lean that lists a variable, with what it lists TIED to the program's text (the seventh form; the later family's looks); each row that meets fmt, with fmt's text TOLD by the authors' own Lean function (tested against real Go, not proved from fmt's source: count such statements apart). THE CARD IS WHAT COUNTS. Prove the row's statement (the work); the ties are given (YtmfjfclpdmpncaaGreatDoorTie.lean); close each card by the builder's one call (the guide's Derived/Test/ToyasCard.lean, 'card_holds'). Laid BY PROGRAM, IN A SANDBOX (cutbox-door.mjs). By AI agents, Wed Nov 11 2026. No macro, syntax, notation, axiom, sorry.
-/
import Derived.Test.YtmfjfclpdmpncaaGreatDoorRows
import GoSem.ClaimSeven
namespace Go.Proofs.YtmfjfclpdmpncaaGreatDoor
namespace Rows

/-- THE TIED CARD OF 'graphdblaw37.PlannerConjs'. -/
def plannerConjsCard : Claim7 := { stood := { row := plannerConjsRow, standIns := [], harness := (true, "55ebc2035b93cbe55e42946d6a3db90b2b9fb777304b39e82ad4e0d15fae4e34"), looks := false }, kinds := [], alts := [], laidByText := true, laidKinds := [.data], laidTests := true, laidLooks := .later }
def PlannerConjsCardSaid : Prop := Claim7.holds Tryz.pinned (.plain (OpenSpec.ofChange plannerConjsSpec)) plannerConjsCard

/-- THE TIED CARD OF 'graphdblaw20.FormatClauses'. -/
def formatClausesCard : Claim7 := { stood := { row := formatClausesRow, standIns := [], harness := (true, "55ebc2035b93cbe55e42946d6a3db90b2b9fb777304b39e82ad4e0d15fae4e34"), looks := false }, kinds := [], alts := [], laidByText := true, laidKinds := [.data, .data, .data, .data, .pinned], laidTests := true, laidLooks := .later }
def FormatClausesCardSaid : Prop := Claim7.holds Tryz.pinned (.plain (OpenSpec.ofChange formatClausesSpec)) formatClausesCard

/-- THE TIED CARD OF 'graphdblaw20.FormatQueries'. -/
def formatQueriesCard : Claim7 := { stood := { row := formatQueriesRow, standIns := [], harness := (true, "55ebc2035b93cbe55e42946d6a3db90b2b9fb777304b39e82ad4e0d15fae4e34"), looks := false }, kinds := [], alts := [], laidByText := true, laidKinds := [.data, .data, .data, .data, .pinned], laidTests := true, laidLooks := .later }
def FormatQueriesCardSaid : Prop := Claim7.holds Tryz.pinned (.plain (OpenSpec.ofChange formatQueriesSpec)) formatQueriesCard

/-- THE TIED CARD OF 'graphdblaw28.AtomsOf'. -/
def atomsOfCard : Claim7 := { stood := { row := atomsOfRow, standIns := [], harness := (true, "55ebc2035b93cbe55e42946d6a3db90b2b9fb777304b39e82ad4e0d15fae4e34"), looks := false }, kinds := [], alts := [], laidByText := true, laidKinds := [.data, .data, .data, .data], laidTests := true, laidLooks := .later }
def AtomsOfCardSaid : Prop := Claim7.holds Tryz.pinned (.plain (OpenSpec.ofChange atomsOfSpec)) atomsOfCard

/-- THE TIED CARD OF 'graphdblaw28.AtomsChecks'. -/
def atomsChecksCard : Claim7 := { stood := { row := atomsChecksRow, standIns := [], harness := (true, "55ebc2035b93cbe55e42946d6a3db90b2b9fb777304b39e82ad4e0d15fae4e34"), looks := false }, kinds := [], alts := [], laidByText := true, laidKinds := [.data, .data, .data, .data], laidTests := true, laidLooks := .later }
def AtomsChecksCardSaid : Prop := Claim7.holds Tryz.pinned (.plain (OpenSpec.ofChange atomsChecksSpec)) atomsChecksCard

/-- THE SECOND FORM's CARD OF 'graphdblaw37.PlannerConjs'. -/
def plannerConjsUptoCard : Claim7 := { stood := { row := plannerConjsUptoRow, standIns := [], harness := (true, "55ebc2035b93cbe55e42946d6a3db90b2b9fb777304b39e82ad4e0d15fae4e34"), looks := false }, kinds := [], alts := [], laidByText := true, laidKinds := [.data], laidTests := true, laidLooks := .later }
def PlannerConjsUptoCardSaid : Prop := Claim7.holds Tryz.pinned (.plain (OpenSpec.upto plannerConjsSpec)) plannerConjsUptoCard

/-- THE SECOND FORM's CARD OF 'graphdblaw20.FormatClauses'. -/
def formatClausesUptoCard : Claim7 := { stood := { row := formatClausesUptoRow, standIns := [], harness := (true, "55ebc2035b93cbe55e42946d6a3db90b2b9fb777304b39e82ad4e0d15fae4e34"), looks := false }, kinds := [], alts := [], laidByText := true, laidKinds := [.data, .data, .data, .data, .pinned], laidTests := true, laidLooks := .later }
def FormatClausesUptoCardSaid : Prop := Claim7.holds Tryz.pinned (.plain (OpenSpec.upto formatClausesSpec)) formatClausesUptoCard

/-- THE SECOND FORM's CARD OF 'graphdblaw20.FormatQueries'. -/
def formatQueriesUptoCard : Claim7 := { stood := { row := formatQueriesUptoRow, standIns := [], harness := (true, "55ebc2035b93cbe55e42946d6a3db90b2b9fb777304b39e82ad4e0d15fae4e34"), looks := false }, kinds := [], alts := [], laidByText := true, laidKinds := [.data, .data, .data, .data, .pinned], laidTests := true, laidLooks := .later }
def FormatQueriesUptoCardSaid : Prop := Claim7.holds Tryz.pinned (.plain (OpenSpec.upto formatQueriesSpec)) formatQueriesUptoCard

/-- THE SECOND FORM's CARD OF 'graphdblaw28.AtomsOf'. -/
def atomsOfUptoCard : Claim7 := { stood := { row := atomsOfUptoRow, standIns := [], harness := (true, "55ebc2035b93cbe55e42946d6a3db90b2b9fb777304b39e82ad4e0d15fae4e34"), looks := false }, kinds := [], alts := [], laidByText := true, laidKinds := [.data, .data, .data, .data], laidTests := true, laidLooks := .later }
def AtomsOfUptoCardSaid : Prop := Claim7.holds Tryz.pinned (.plain (OpenSpec.upto atomsOfSpec)) atomsOfUptoCard

/-- THE SECOND FORM's CARD OF 'graphdblaw28.AtomsChecks'. -/
def atomsChecksUptoCard : Claim7 := { stood := { row := atomsChecksUptoRow, standIns := [], harness := (true, "55ebc2035b93cbe55e42946d6a3db90b2b9fb777304b39e82ad4e0d15fae4e34"), looks := false }, kinds := [], alts := [], laidByText := true, laidKinds := [.data, .data, .data, .data], laidTests := true, laidLooks := .later }
def AtomsChecksUptoCardSaid : Prop := Claim7.holds Tryz.pinned (.plain (OpenSpec.upto atomsChecksSpec)) atomsChecksUptoCard
end Rows
end Go.Proofs.YtmfjfclpdmpncaaGreatDoor
