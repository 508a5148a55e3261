/-
  DERIVED. GIVEN WITH THE SEED: THE CARDS: each row of YtjgmakalledclaaGreatDoorRows.lean that lists a variable, with what it lists TIED to the program's text (the seventh form; the later family's looks); each row that meets fmt, with fmt's text TOLD by the authors' own Lean function (tested against real Go, not proved from fmt's source: count such statements apart). THE CARD IS WHAT COUNTS. Prove the row's statement (the work); the ties are given (YtjgmakalledclaaGreatDoorTie.lean); close each card by the builder's one call (the guide's Derived/Test/ToyasCard.lean, 'card_holds'). Laid BY PROGRAM, IN A SANDBOX (cutbox-door.mjs). By AI agents, Wed Nov 11 2026. No macro, syntax, notation, axiom, sorry.
-/
import Derived.Test.YtjgmakalledclaaGreatDoorRows
import GoSem.ClaimSeven
namespace Go.Proofs.YtjgmakalledclaaGreatDoor
namespace Rows

/-- THE TIED CARD OF 'graphdblaw04.ValueRows'. -/
def valueRowsCard : Claim7 := { stood := { row := valueRowsRow, standIns := [], harness := (true, "c3ffe0126ce982daa57698b8f9556c5be29f115359ffdd76a60ab6f40f1e4694"), looks := false }, kinds := [], alts := [], laidByText := true, laidKinds := [.data, .data, .data, .data, .data, .pinned], laidTests := true, laidLooks := .later }
def ValueRowsCardSaid : Prop := Claim7.holds Tryz.pinned (.plain (OpenSpec.ofChange valueRowsSpec)) valueRowsCard

/-- THE TIED CARD OF 'graphdblaw23.AggregateTells'. -/
def aggregateTellsCard : Claim7 := { stood := { row := aggregateTellsRow, standIns := [], harness := (true, "c3ffe0126ce982daa57698b8f9556c5be29f115359ffdd76a60ab6f40f1e4694"), looks := false }, kinds := [], alts := [], laidByText := true, laidKinds := [.data, .data, .data, .data, .data, .pinned], laidTests := true, laidLooks := .later }
def AggregateTellsCardSaid : Prop := Claim7.holds Tryz.pinned (.plain (OpenSpec.ofChange aggregateTellsSpec)) aggregateTellsCard

/-- THE TIED CARD OF 'graphdblaw23.AggregateTables'. -/
def aggregateTablesCard : Claim7 := { stood := { row := aggregateTablesRow, standIns := [], harness := (true, "c3ffe0126ce982daa57698b8f9556c5be29f115359ffdd76a60ab6f40f1e4694"), looks := false }, kinds := [], alts := [], laidByText := true, laidKinds := [.data, .data, .data, .data, .data, .pinned], laidTests := true, laidLooks := .later }
def AggregateTablesCardSaid : Prop := Claim7.holds Tryz.pinned (.plain (OpenSpec.ofChange aggregateTablesSpec)) aggregateTablesCard

/-- THE TIED CARD OF 'graphdblaw23.AggregateTurns'. -/
def aggregateTurnsCard : Claim7 := { stood := { row := aggregateTurnsRow, standIns := [], harness := (true, "c3ffe0126ce982daa57698b8f9556c5be29f115359ffdd76a60ab6f40f1e4694"), looks := false }, kinds := [], alts := [], laidByText := true, laidKinds := [.data, .data, .data, .data, .data, .pinned], laidTests := true, laidLooks := .later }
def AggregateTurnsCardSaid : Prop := Claim7.holds Tryz.pinned (.plain (OpenSpec.ofChange aggregateTurnsSpec)) aggregateTurnsCard

/-- THE TIED CARD OF 'graphdblaw23.AggregateParts'. -/
def aggregatePartsCard : Claim7 := { stood := { row := aggregatePartsRow, standIns := [], harness := (true, "c3ffe0126ce982daa57698b8f9556c5be29f115359ffdd76a60ab6f40f1e4694"), looks := false }, kinds := [], alts := [], laidByText := true, laidKinds := [.data, .data, .data, .data, .data, .pinned], laidTests := true, laidLooks := .later }
def AggregatePartsCardSaid : Prop := Claim7.holds Tryz.pinned (.plain (OpenSpec.ofChange aggregatePartsSpec)) aggregatePartsCard

/-- THE TIED CARD OF 'graphdblaw23.AggregateSorts'. -/
def aggregateSortsCard : Claim7 := { stood := { row := aggregateSortsRow, standIns := [], harness := (true, "c3ffe0126ce982daa57698b8f9556c5be29f115359ffdd76a60ab6f40f1e4694"), looks := false }, kinds := [], alts := [], laidByText := true, laidKinds := [.data, .data, .data, .data, .data, .pinned], laidTests := true, laidLooks := .later }
def AggregateSortsCardSaid : Prop := Claim7.holds Tryz.pinned (.plain (OpenSpec.ofChange aggregateSortsSpec)) aggregateSortsCard

/-- THE TIED CARD OF 'graphdblaw23.AggregateCounts'. -/
def aggregateCountsCard : Claim7 := { stood := { row := aggregateCountsRow, standIns := [], harness := (true, "c3ffe0126ce982daa57698b8f9556c5be29f115359ffdd76a60ab6f40f1e4694"), looks := false }, kinds := [], alts := [], laidByText := true, laidKinds := [.data, .data, .data, .data, .data, .pinned], laidTests := true, laidLooks := .later }
def AggregateCountsCardSaid : Prop := Claim7.holds Tryz.pinned (.plain (OpenSpec.ofChange aggregateCountsSpec)) aggregateCountsCard

/-- THE SECOND FORM's CARD OF 'graphdblaw04.ValueRows'. -/
def valueRowsUptoCard : Claim7 := { stood := { row := valueRowsUptoRow, standIns := [], harness := (true, "c3ffe0126ce982daa57698b8f9556c5be29f115359ffdd76a60ab6f40f1e4694"), looks := false }, kinds := [], alts := [], laidByText := true, laidKinds := [.data, .data, .data, .data, .data, .pinned], laidTests := true, laidLooks := .later }
def ValueRowsUptoCardSaid : Prop := Claim7.holds Tryz.pinned (.plain (OpenSpec.upto valueRowsSpec)) valueRowsUptoCard

/-- THE SECOND FORM's CARD OF 'graphdblaw23.AggregateTells'. -/
def aggregateTellsUptoCard : Claim7 := { stood := { row := aggregateTellsUptoRow, standIns := [], harness := (true, "c3ffe0126ce982daa57698b8f9556c5be29f115359ffdd76a60ab6f40f1e4694"), looks := false }, kinds := [], alts := [], laidByText := true, laidKinds := [.data, .data, .data, .data, .data, .pinned], laidTests := true, laidLooks := .later }
def AggregateTellsUptoCardSaid : Prop := Claim7.holds Tryz.pinned (.plain (OpenSpec.upto aggregateTellsSpec)) aggregateTellsUptoCard

/-- THE SECOND FORM's CARD OF 'graphdblaw23.AggregateTables'. -/
def aggregateTablesUptoCard : Claim7 := { stood := { row := aggregateTablesUptoRow, standIns := [], harness := (true, "c3ffe0126ce982daa57698b8f9556c5be29f115359ffdd76a60ab6f40f1e4694"), looks := false }, kinds := [], alts := [], laidByText := true, laidKinds := [.data, .data, .data, .data, .data, .pinned], laidTests := true, laidLooks := .later }
def AggregateTablesUptoCardSaid : Prop := Claim7.holds Tryz.pinned (.plain (OpenSpec.upto aggregateTablesSpec)) aggregateTablesUptoCard

/-- THE SECOND FORM's CARD OF 'graphdblaw23.AggregateTurns'. -/
def aggregateTurnsUptoCard : Claim7 := { stood := { row := aggregateTurnsUptoRow, standIns := [], harness := (true, "c3ffe0126ce982daa57698b8f9556c5be29f115359ffdd76a60ab6f40f1e4694"), looks := false }, kinds := [], alts := [], laidByText := true, laidKinds := [.data, .data, .data, .data, .data, .pinned], laidTests := true, laidLooks := .later }
def AggregateTurnsUptoCardSaid : Prop := Claim7.holds Tryz.pinned (.plain (OpenSpec.upto aggregateTurnsSpec)) aggregateTurnsUptoCard

/-- THE SECOND FORM's CARD OF 'graphdblaw23.AggregateParts'. -/
def aggregatePartsUptoCard : Claim7 := { stood := { row := aggregatePartsUptoRow, standIns := [], harness := (true, "c3ffe0126ce982daa57698b8f9556c5be29f115359ffdd76a60ab6f40f1e4694"), looks := false }, kinds := [], alts := [], laidByText := true, laidKinds := [.data, .data, .data, .data, .data, .pinned], laidTests := true, laidLooks := .later }
def AggregatePartsUptoCardSaid : Prop := Claim7.holds Tryz.pinned (.plain (OpenSpec.upto aggregatePartsSpec)) aggregatePartsUptoCard

/-- THE SECOND FORM's CARD OF 'graphdblaw23.AggregateSorts'. -/
def aggregateSortsUptoCard : Claim7 := { stood := { row := aggregateSortsUptoRow, standIns := [], harness := (true, "c3ffe0126ce982daa57698b8f9556c5be29f115359ffdd76a60ab6f40f1e4694"), looks := false }, kinds := [], alts := [], laidByText := true, laidKinds := [.data, .data, .data, .data, .data, .pinned], laidTests := true, laidLooks := .later }
def AggregateSortsUptoCardSaid : Prop := Claim7.holds Tryz.pinned (.plain (OpenSpec.upto aggregateSortsSpec)) aggregateSortsUptoCard

/-- THE SECOND FORM's CARD OF 'graphdblaw23.AggregateCounts'. -/
def aggregateCountsUptoCard : Claim7 := { stood := { row := aggregateCountsUptoRow, standIns := [], harness := (true, "c3ffe0126ce982daa57698b8f9556c5be29f115359ffdd76a60ab6f40f1e4694"), looks := false }, kinds := [], alts := [], laidByText := true, laidKinds := [.data, .data, .data, .data, .data, .pinned], laidTests := true, laidLooks := .later }
def AggregateCountsUptoCardSaid : Prop := Claim7.holds Tryz.pinned (.plain (OpenSpec.upto aggregateCountsSpec)) aggregateCountsUptoCard
end Rows
end Go.Proofs.YtjgmakalledclaaGreatDoor
