/-
  NARROWER THAN 'FOR EVERY INPUT', by the rows' own cells (each row's printed sentence says how): EstimateAtoms: loops, laid · EstimateRows: loops, laid · EstimateSteps: laid · EstimateOrder: loops, laid.
  DERIVED. THE GIVEN ROWS OF THIS SEAT. 4 by the template 'for every input the law returns true; each argument reads behind the call as it read before'; 0 by the template 'total and deterministic' (their statements: YtgkobddgjfgbbaaGreatDoorTotals.lean).
  GIVEN WITH THE SEED: the statements are not yours to turn. If you find one false, say at which input.
  Laid BY PROGRAM, IN A SANDBOX (cutbox-rows.mjs): the forced cells as the released guide's own fill.sh prints them over the translation 66747595fea7e958… (all of the seat's roots in one cut). By AI agents, Wed Nov 11 2026. No macro, syntax, notation, axiom, sorry.
-/
import Derived.Test.YtgkobddgjfgbbaaGreatDoorChecked
import GoSem.Claim
import GoSem.ClaimJoined
import GoSem.ClaimMapViews
import Derived.JoinedTies
import Derived.KernelRfl
namespace Go.Proofs.YtgkobddgjfgbbaaGreatDoor
/- THE CELL 'sum', in the pinned program and in every row, IS THE sha256 OF THE DUMP (.gsa) THAT YtgkobddgjfgbbaaGreatDoorProg.lean LOADS. Nothing in Lean hashes anything: it is a label: what it is worth is what the hold of that sum in a sandbox is worth. -/
noncomputable def Tryz.pinned : Pinned := { name := "ytgkobddgjfgbbaagreatdoor", sum := "66747595fea7e95873425d7d5d87d61740a7c700a47dc49c4e032e01e70f79bc", checked := Tryz.checked }
namespace Rows
def none {H : Type} : Left H := { results := [], args := [] }

/- WHAT THE LISTED PACKAGE-LEVEL VARIABLES READ AS WHEN THE CALL BEGINS. Each datum BY PROGRAM (the guide's laid-datum.mjs) off the statement by which the dump's own 'gosem.cut.vars' lays the variable. In a bare row this is a premise. The card (YtgkobddgjfgbbaaGreatDoorCards.lean) ties it to the program's text. -/
def laid_graphdb_frac_zero {H : Type} : DataW H := .agg [.lit (.int .i64 0), .lit (.int .i64 1)]

/-- 'graphdblaw32.EstimateAtoms': WHATEVER THE INPUT: true; the input reads as it did. -/
def estimateAtomsSpec : ChangeSpec := { name := "estimateAtoms", fn := fun _ => fun
  | [d1, d2, d3] => { results := [.lit (.bool true)], args := [d1, d2, d3] }
  | _ => none }
def estimateAtomsRow : OpenClaim := { program := "ytgkobddgjfgbbaagreatdoor", sum := "66747595fea7e95873425d7d5d87d61740a7c700a47dc49c4e032e01e70f79bc", func := "graphdb/graphdblaw32.EstimateAtoms", spec := "estimateAtoms", inPlace := ["math/bits.Add64", "math/bits.Sub64"], unfollowed := true, recurses := true, named := ["graphdb/frac.zero"], loops := true, apart := false, laid := [("graphdb/frac.zero", laid_graphdb_frac_zero)] }
def EstimateAtomsSaid : Prop := estimateAtomsRow.holds Tryz.pinned (OpenSpec.ofChange estimateAtomsSpec)

/-- ITS FALSE NEIGHBOUR: 'it returns false'. Refute it at one input. -/
def estimateAtomsWrong : ChangeSpec := { name := "estimateAtoms", fn := fun _ => fun
  | [d1, d2, d3] => { results := [.lit (.bool false)], args := [d1, d2, d3] }
  | _ => none }
def EstimateAtomsWrongFalsely : Prop := estimateAtomsRow.holds Tryz.pinned (OpenSpec.ofChange estimateAtomsWrong)

/-- 'graphdblaw32.EstimateRows': WHATEVER THE INPUT: true; the input reads as it did. -/
def estimateRowsSpec : ChangeSpec := { name := "estimateRows", fn := fun _ => fun
  | [d1, d2] => { results := [.lit (.bool true)], args := [d1, d2] }
  | _ => none }
def estimateRowsRow : OpenClaim := { program := "ytgkobddgjfgbbaagreatdoor", sum := "66747595fea7e95873425d7d5d87d61740a7c700a47dc49c4e032e01e70f79bc", func := "graphdb/graphdblaw32.EstimateRows", spec := "estimateRows", inPlace := ["math/bits.Add64", "math/bits.Sub64"], unfollowed := true, recurses := true, named := ["graphdb/frac.zero"], loops := true, apart := false, laid := [("graphdb/frac.zero", laid_graphdb_frac_zero)] }
def EstimateRowsSaid : Prop := estimateRowsRow.holds Tryz.pinned (OpenSpec.ofChange estimateRowsSpec)

/-- ITS FALSE NEIGHBOUR: 'it returns false'. Refute it at one input. -/
def estimateRowsWrong : ChangeSpec := { name := "estimateRows", fn := fun _ => fun
  | [d1, d2] => { results := [.lit (.bool false)], args := [d1, d2] }
  | _ => none }
def EstimateRowsWrongFalsely : Prop := estimateRowsRow.holds Tryz.pinned (OpenSpec.ofChange estimateRowsWrong)

/-- 'graphdblaw32.EstimateSteps': WHATEVER THE INPUT: true; the input reads as it did. -/
def estimateStepsSpec : ChangeSpec := { name := "estimateSteps", fn := fun _ => fun
  | [d1, d2] => { results := [.lit (.bool true)], args := [d1, d2] }
  | _ => none }
def estimateStepsRow : OpenClaim := { program := "ytgkobddgjfgbbaagreatdoor", sum := "66747595fea7e95873425d7d5d87d61740a7c700a47dc49c4e032e01e70f79bc", func := "graphdb/graphdblaw32.EstimateSteps", spec := "estimateSteps", inPlace := ["math/bits.Add64", "math/bits.Sub64"], unfollowed := true, recurses := true, named := ["graphdb/frac.zero"], apart := false, laid := [("graphdb/frac.zero", laid_graphdb_frac_zero)] }
def EstimateStepsSaid : Prop := estimateStepsRow.holds Tryz.pinned (OpenSpec.ofChange estimateStepsSpec)

/-- ITS FALSE NEIGHBOUR: 'it returns false'. Refute it at one input. -/
def estimateStepsWrong : ChangeSpec := { name := "estimateSteps", fn := fun _ => fun
  | [d1, d2] => { results := [.lit (.bool false)], args := [d1, d2] }
  | _ => none }
def EstimateStepsWrongFalsely : Prop := estimateStepsRow.holds Tryz.pinned (OpenSpec.ofChange estimateStepsWrong)

/-- 'graphdblaw32.EstimateOrder': WHATEVER THE INPUT: true; the input reads as it did. -/
def estimateOrderSpec : ChangeSpec := { name := "estimateOrder", fn := fun _ => fun
  | [d1, d2, d3] => { results := [.lit (.bool true)], args := [d1, d2, d3] }
  | _ => none }
def estimateOrderRow : OpenClaim := { program := "ytgkobddgjfgbbaagreatdoor", sum := "66747595fea7e95873425d7d5d87d61740a7c700a47dc49c4e032e01e70f79bc", func := "graphdb/graphdblaw32.EstimateOrder", spec := "estimateOrder", inPlace := ["math/bits.Add64", "math/bits.Sub64"], unfollowed := true, recurses := true, named := ["graphdb/frac.zero"], loops := true, apart := false, laid := [("graphdb/frac.zero", laid_graphdb_frac_zero)] }
def EstimateOrderSaid : Prop := estimateOrderRow.holds Tryz.pinned (OpenSpec.ofChange estimateOrderSpec)

/-- ITS FALSE NEIGHBOUR: 'it returns false'. Refute it at one input. -/
def estimateOrderWrong : ChangeSpec := { name := "estimateOrder", fn := fun _ => fun
  | [d1, d2, d3] => { results := [.lit (.bool false)], args := [d1, d2, d3] }
  | _ => none }
def EstimateOrderWrongFalsely : Prop := estimateOrderRow.holds Tryz.pinned (OpenSpec.ofChange estimateOrderWrong)

/- THE SECOND FORM. 'bulk': how many values and letters a reading holds, each counted each time it is reached (what is shared counts as often as it is met; a slice's spare places count too). A statement '..UptoSaid' is the law's where the arguments, and the package variables that the reading takes, are together of bulk at most 1048576: NARROWER than '..Said'. Prove '..Said' where nothing that the law and all that it calls make is longer than what came in: it says more and counts as full. Else prove '..UptoSaid'. A law counts once. -/
mutual
def uptoBulk {H : Type} : DataW H → Nat
  | .lit (.string bytes) => bytes.length + 1
  | .lit _ => 1
  | .nil => 1
  | .ptr d => uptoBulk d + 1
  | .slice elems spare => uptoBulkAll elems + uptoBulkAll spare + 1
  | .agg parts => uptoBulkAll parts + 1
  | .iface _ d => uptoBulk d + 1
  | .map entries => uptoBulkEntries entries + 1
  | .held _ => 1
def uptoBulkAll {H : Type} : List (DataW H) → Nat
  | [] => 0
  | d :: r => uptoBulk d + uptoBulkAll r
def uptoBulkEntries {H : Type} : List (Lit × DataW H) → Nat
  | [] => 0
  | x :: r => uptoBulkEntry x + uptoBulkEntries r
def uptoBulkEntry {H : Type} : Lit × DataW H → Nat
  | (.string bytes, d) => bytes.length + uptoBulk d + 1
  | (_, d) => uptoBulk d + 1
 end
def uptoSmall : (H : Type) → List (DataW H) → Bool := fun _ ds => decide (uptoBulkAll ds ≤ 1048576)
def OpenSpec.upto (s : _root_.Go.ChangeSpec) : _root_.Go.OpenSpec := { _root_.Go.OpenSpec.ofChange s with cond := some uptoSmall }

/-- 'graphdblaw32.EstimateAtoms', WHERE WHAT IT READS IS OF BULK AT MOST 1048576: true; the input reads as it did. -/
def estimateAtomsUptoRow : OpenClaim := { program := "ytgkobddgjfgbbaagreatdoor", sum := "66747595fea7e95873425d7d5d87d61740a7c700a47dc49c4e032e01e70f79bc", func := "graphdb/graphdblaw32.EstimateAtoms", spec := "estimateAtoms", inPlace := ["math/bits.Add64", "math/bits.Sub64"], unfollowed := true, recurses := true, named := ["graphdb/frac.zero"], loops := true, apart := false, laid := [("graphdb/frac.zero", laid_graphdb_frac_zero)], narrowed := true }
def EstimateAtomsUptoSaid : Prop := estimateAtomsUptoRow.holds Tryz.pinned (OpenSpec.upto estimateAtomsSpec)

/-- 'graphdblaw32.EstimateRows', WHERE WHAT IT READS IS OF BULK AT MOST 1048576: true; the input reads as it did. -/
def estimateRowsUptoRow : OpenClaim := { program := "ytgkobddgjfgbbaagreatdoor", sum := "66747595fea7e95873425d7d5d87d61740a7c700a47dc49c4e032e01e70f79bc", func := "graphdb/graphdblaw32.EstimateRows", spec := "estimateRows", inPlace := ["math/bits.Add64", "math/bits.Sub64"], unfollowed := true, recurses := true, named := ["graphdb/frac.zero"], loops := true, apart := false, laid := [("graphdb/frac.zero", laid_graphdb_frac_zero)], narrowed := true }
def EstimateRowsUptoSaid : Prop := estimateRowsUptoRow.holds Tryz.pinned (OpenSpec.upto estimateRowsSpec)

/-- 'graphdblaw32.EstimateSteps', WHERE WHAT IT READS IS OF BULK AT MOST 1048576: true; the input reads as it did. -/
def estimateStepsUptoRow : OpenClaim := { program := "ytgkobddgjfgbbaagreatdoor", sum := "66747595fea7e95873425d7d5d87d61740a7c700a47dc49c4e032e01e70f79bc", func := "graphdb/graphdblaw32.EstimateSteps", spec := "estimateSteps", inPlace := ["math/bits.Add64", "math/bits.Sub64"], unfollowed := true, recurses := true, named := ["graphdb/frac.zero"], apart := false, laid := [("graphdb/frac.zero", laid_graphdb_frac_zero)], narrowed := true }
def EstimateStepsUptoSaid : Prop := estimateStepsUptoRow.holds Tryz.pinned (OpenSpec.upto estimateStepsSpec)

/-- 'graphdblaw32.EstimateOrder', WHERE WHAT IT READS IS OF BULK AT MOST 1048576: true; the input reads as it did. -/
def estimateOrderUptoRow : OpenClaim := { program := "ytgkobddgjfgbbaagreatdoor", sum := "66747595fea7e95873425d7d5d87d61740a7c700a47dc49c4e032e01e70f79bc", func := "graphdb/graphdblaw32.EstimateOrder", spec := "estimateOrder", inPlace := ["math/bits.Add64", "math/bits.Sub64"], unfollowed := true, recurses := true, named := ["graphdb/frac.zero"], loops := true, apart := false, laid := [("graphdb/frac.zero", laid_graphdb_frac_zero)], narrowed := true }
def EstimateOrderUptoSaid : Prop := estimateOrderUptoRow.holds Tryz.pinned (OpenSpec.upto estimateOrderSpec)

end Rows
end Go.Proofs.YtgkobddgjfgbbaaGreatDoor
