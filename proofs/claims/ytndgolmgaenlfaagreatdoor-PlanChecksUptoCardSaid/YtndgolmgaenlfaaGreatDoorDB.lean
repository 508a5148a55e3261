/- Columns as text, by both texts; Assignments as text, by both texts; A clause as text, by both texts; The check of a query, by both texts; Clauses and . Conditions: each part's own, as it says. -/
import Derived.Test.YtndgolmgaenlfaaGreatDoorDA
import Derived.Test.YtndgolmgaenlfaaGreatDoorGC
import Derived.Test.YtndgolmgaenlfaaGreatDoorCB
import Derived.Test.YtndgolmgaenlfaaGreatDoorKE
set_option linter.unusedVariables false
set_option linter.unusedSimpArgs false
namespace Go.Proofs.YtndgolmgaenlfaaGreatDoor
set_option maxRecDepth 4000
open Go Go.Abs Go.Val Go.RowKit
attribute [local irreducible] go SGo an1 Ev au8 EvO EvS RGo
end Go.Proofs.YtndgolmgaenlfaaGreatDoor
