/- Unnamed columns, a conjunctive query as an operator, by the specification; The property expressions of a path over columns, by the specification; The variables of path patterns in the order in which they come, by the specification; The check of a clause, by the specification; A clause of patterns as an operator, by the specification; Items over columns, by the specification; The shape of a plan's operator, by the specification: every operator; The check of a plan, by the specification. Conditions: each part's own, as it says. -/
import Derived.Test.YtndgolmgaenlfaaGreatDoorPB
import Derived.Test.YtndgolmgaenlfaaGreatDoorPA
import Derived.Test.YtndgolmgaenlfaaGreatDoorCA
import Derived.Test.YtndgolmgaenlfaaGreatDoorMA
import Derived.Test.YtndgolmgaenlfaaGreatDoorGC
import Derived.Test.YtndgolmgaenlfaaGreatDoorCB
import Derived.Test.YtndgolmgaenlfaaGreatDoorFA
set_option linter.unusedVariables false
set_option linter.unusedSimpArgs false
namespace Go.Proofs.YtndgolmgaenlfaaGreatDoor
set_option maxRecDepth 4000
open Go Go.Abs Go.Val Go.RowKit
attribute [local irreducible] go SGo an1 Ev au7 EvO EvS RGo RGw PGo
theorem byteAt_get{s:ByteArray}{i:Nat}{c:UInt8}(h:s.data.toList[i]? =some c):ag0 s i=(c.toNat:Int):=by
 unfold ag0;rw[fb6,h];rfl
structure SKp{α:Type}(l:List α)(f:α→Bool) where
 i:Nat
 hi:i≤l.length
 ok:(l.take i).all f=true
theorem SKp.next{α:Type}{l:List α}{f:α→Bool}{i:Nat}{x:α}(h:l[i]? =some x)(ok:(l.take i).all f=true)(hx:f x=true):(l.take (i+1)).all f=true:=by
 rw[fc0,h,List.all_append,ok];simp[hx]
end Go.Proofs.YtndgolmgaenlfaaGreatDoor
namespace Go.Proofs.YtndgolmgaenlfaaGreatDoor
set_option maxRecDepth 4000
open Go Go.Abs Go.Val Go.RowKit
attribute [local irreducible] go SGo an1 Ev au7 EvO EvS RGo PGo
end Go.Proofs.YtndgolmgaenlfaaGreatDoor
namespace Go.Proofs.YtndgolmgaenlfaaGreatDoor
set_option maxRecDepth 4000
open Go Go.Abs Go.Val Go.RowKit
attribute [local irreducible] go SGo an1 Ev au7 EvO EvS RGo
attribute [local irreducible] PGo RGw
end Go.Proofs.YtndgolmgaenlfaaGreatDoor
