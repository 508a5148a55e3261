/- A row of the caller's handed to a function over data, anywhere among its arguments; slices.Index at texts; slices.Index at texts, over data and over a row of the caller's; The builder's variables; The builder's atoms. Conditions: each part's own, as it says. -/
import Derived.Test.YtenpjlghikohmaaGreatDoorLD
import Derived.Test.YtenpjlghikohmaaGreatDoorGC
import Derived.Test.YtenpjlghikohmaaGreatDoorMB
set_option linter.unusedVariables false
set_option linter.unusedSimpArgs false
namespace Go.Proofs.YtenpjlghikohmaaGreatDoor
set_option maxRecDepth 4000
open Go Go.Abs Go.Val Go.RowKit Go.Sort Go.Proofs
end Go.Proofs.YtenpjlghikohmaaGreatDoor
namespace Go.Proofs.YtenpjlghikohmaaGreatDoor
set_option maxRecDepth 4000
open Go Go.Abs Go.Val Go.RowKit Go.Proofs
attribute [local irreducible] go SGo HasBody Ev ExtEv EvO EvS PGo RGo
def fX (k : Nat) : List D → X
 | [] => .nilS
 | _ :: _ => .own k
def fO (t : TypeId) (sz : Nat) : List D → AObj
 | [] => .dead
 | x :: r => .row t sz (x :: r)
end Go.Proofs.YtenpjlghikohmaaGreatDoor
