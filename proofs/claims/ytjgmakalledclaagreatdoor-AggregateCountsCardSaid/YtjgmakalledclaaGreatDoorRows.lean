/-
  NARROWER THAN 'FOR EVERY INPUT', by the rows' own cells (each row's printed sentence says how): ValueRows: loops, laid · AggregateTells: loops, laid · AggregateTables: loops, laid · AggregateTurns: loops, laid · AggregateParts: loops, laid · AggregateSorts: loops, laid · AggregateCounts: loops, laid.
  DERIVED. THE GIVEN ROWS OF THIS SEAT. 7 by the template 'for every input the law returns true; each argument reads behind the call as it read before'; 0 by the template 'total and deterministic' (their statements: YtjgmakalledclaaGreatDoorTotals.lean).
  GIVEN WITH THE SEED: the statements are not yours to turn. If you find one false, say at which input.
  Laid BY PROGRAM, IN A SANDBOX (cutbox-rows.mjs): the forced cells as the released guide's own fill.sh prints them over the translation 5dec1ef231f9484a… (all of the seat's roots in one cut). By AI agents, Wed Nov 11 2026. No macro, syntax, notation, axiom, sorry.
-/
import Derived.Test.YtjgmakalledclaaGreatDoorChecked
import GoSem.PinnedTables
import GoSem.Claim
import GoSem.ClaimJoined
import GoSem.ClaimMapViews
import Derived.JoinedTies
import Derived.KernelRfl
namespace Go.Proofs.YtjgmakalledclaaGreatDoor
/- THE CELL 'sum', in the pinned program and in every row, IS THE sha256 OF THE DUMP (.gsa) THAT YtjgmakalledclaaGreatDoorProg.lean LOADS. Nothing in Lean hashes anything: it is a label: what it is worth is what the hold of that sum in a sandbox is worth. -/
noncomputable def Tryz.pinned : Pinned := { name := "ytjgmakalledclaagreatdoor", sum := "5dec1ef231f9484a9495193b8749bc13c3f089b220135845fd60ca22a40ff322", checked := Tryz.checked }
namespace Rows
def none {H : Type} : Left H := { results := [], args := [] }

/- WHAT THE LISTED PACKAGE-LEVEL VARIABLES READ AS WHEN THE CALL BEGINS. Each datum BY PROGRAM (the guide's laid-datum.mjs) off the statement by which the dump's own 'gosem.cut.vars' lays the variable. In a bare row this is a premise. The card (YtjgmakalledclaaGreatDoorCards.lean) ties it to the program's text. -/
def laid_math_bits_deBruijn32tab {H : Type} : DataW H := .agg [.lit (.int .u8 0), .lit (.int .u8 1), .lit (.int .u8 28), .lit (.int .u8 2), .lit (.int .u8 29), .lit (.int .u8 14), .lit (.int .u8 24), .lit (.int .u8 3), .lit (.int .u8 30), .lit (.int .u8 22), .lit (.int .u8 20), .lit (.int .u8 15), .lit (.int .u8 25), .lit (.int .u8 17), .lit (.int .u8 4), .lit (.int .u8 8), .lit (.int .u8 31), .lit (.int .u8 27), .lit (.int .u8 13), .lit (.int .u8 23), .lit (.int .u8 21), .lit (.int .u8 19), .lit (.int .u8 16), .lit (.int .u8 7), .lit (.int .u8 26), .lit (.int .u8 12), .lit (.int .u8 18), .lit (.int .u8 6), .lit (.int .u8 11), .lit (.int .u8 5), .lit (.int .u8 10), .lit (.int .u8 9)]
def laid_math_bits_deBruijn64tab {H : Type} : DataW H := .agg [.lit (.int .u8 0), .lit (.int .u8 1), .lit (.int .u8 56), .lit (.int .u8 2), .lit (.int .u8 57), .lit (.int .u8 49), .lit (.int .u8 28), .lit (.int .u8 3), .lit (.int .u8 61), .lit (.int .u8 58), .lit (.int .u8 42), .lit (.int .u8 50), .lit (.int .u8 38), .lit (.int .u8 29), .lit (.int .u8 17), .lit (.int .u8 4), .lit (.int .u8 62), .lit (.int .u8 47), .lit (.int .u8 59), .lit (.int .u8 36), .lit (.int .u8 45), .lit (.int .u8 43), .lit (.int .u8 51), .lit (.int .u8 22), .lit (.int .u8 53), .lit (.int .u8 39), .lit (.int .u8 33), .lit (.int .u8 30), .lit (.int .u8 24), .lit (.int .u8 18), .lit (.int .u8 12), .lit (.int .u8 5), .lit (.int .u8 63), .lit (.int .u8 55), .lit (.int .u8 48), .lit (.int .u8 27), .lit (.int .u8 60), .lit (.int .u8 41), .lit (.int .u8 37), .lit (.int .u8 16), .lit (.int .u8 46), .lit (.int .u8 35), .lit (.int .u8 44), .lit (.int .u8 21), .lit (.int .u8 52), .lit (.int .u8 32), .lit (.int .u8 23), .lit (.int .u8 11), .lit (.int .u8 54), .lit (.int .u8 26), .lit (.int .u8 40), .lit (.int .u8 15), .lit (.int .u8 34), .lit (.int .u8 20), .lit (.int .u8 31), .lit (.int .u8 10), .lit (.int .u8 25), .lit (.int .u8 14), .lit (.int .u8 19), .lit (.int .u8 9), .lit (.int .u8 13), .lit (.int .u8 8), .lit (.int .u8 7), .lit (.int .u8 6)]
def laid_internal_strconv_uint64pow10 {H : Type} : DataW H := .agg [.lit (.int .u64 1), .lit (.int .u64 10), .lit (.int .u64 100), .lit (.int .u64 1000), .lit (.int .u64 10000), .lit (.int .u64 100000), .lit (.int .u64 1000000), .lit (.int .u64 10000000), .lit (.int .u64 100000000), .lit (.int .u64 1000000000), .lit (.int .u64 10000000000), .lit (.int .u64 100000000000), .lit (.int .u64 1000000000000), .lit (.int .u64 10000000000000), .lit (.int .u64 100000000000000), .lit (.int .u64 1000000000000000), .lit (.int .u64 10000000000000000), .lit (.int .u64 100000000000000000), .lit (.int .u64 1000000000000000000), .lit (.int .u64 10000000000000000000)]
def laid_unicode_utf8_acceptRanges {H : Type} : DataW H := .agg [.agg [.lit (.int .u8 128), .lit (.int .u8 191)], .agg [.lit (.int .u8 160), .lit (.int .u8 191)], .agg [.lit (.int .u8 128), .lit (.int .u8 159)], .agg [.lit (.int .u8 144), .lit (.int .u8 191)], .agg [.lit (.int .u8 128), .lit (.int .u8 143)], .agg [.lit (.int .u8 0), .lit (.int .u8 0)], .agg [.lit (.int .u8 0), .lit (.int .u8 0)], .agg [.lit (.int .u8 0), .lit (.int .u8 0)], .agg [.lit (.int .u8 0), .lit (.int .u8 0)], .agg [.lit (.int .u8 0), .lit (.int .u8 0)], .agg [.lit (.int .u8 0), .lit (.int .u8 0)], .agg [.lit (.int .u8 0), .lit (.int .u8 0)], .agg [.lit (.int .u8 0), .lit (.int .u8 0)], .agg [.lit (.int .u8 0), .lit (.int .u8 0)], .agg [.lit (.int .u8 0), .lit (.int .u8 0)], .agg [.lit (.int .u8 0), .lit (.int .u8 0)]]
def laid_graphdb_frac_zero {H : Type} : DataW H := .agg [.lit (.int .i64 0), .lit (.int .i64 1)]
/-- One of Go's own tables, pinned by name: the form's constant. -/
def laid_unicode_utf8_first : DataW Unit := Go.Pinned.utf8First

/-- 'graphdblaw04.ValueRows': WHATEVER THE INPUT: true; the input reads as it did. -/
def valueRowsSpec : ChangeSpec := { name := "valueRows", fn := fun _ => fun
  | [d1, d2, d3] => { results := [.lit (.bool true)], args := [d1, d2, d3] }
  | _ => none }
def valueRowsRow : OpenClaim := { program := "ytjgmakalledclaagreatdoor", sum := "5dec1ef231f9484a9495193b8749bc13c3f089b220135845fd60ca22a40ff322", func := "graphdb/graphdblaw04.ValueRows", spec := "valueRows", inPlace := ["math/bits.Add64", "math/bits.Sub64", "internal/bytealg.CountString", "internal/bytealg.IndexByteString", "internal/bytealg.IndexString", "internal/abi.NoEscape", "internal/bytealg.MakeNoZero"], unfollowed := true, recurses := true, named := ["graphdb/frac.zero", "internal/strconv.uint64pow10", "math/bits.deBruijn32tab", "math/bits.deBruijn64tab", "internal/bytealg.MaxLen", "unicode/utf8.first", "unicode/utf8.acceptRanges"], loops := true, apart := false, laid := [("math/bits.deBruijn32tab", laid_math_bits_deBruijn32tab), ("math/bits.deBruijn64tab", laid_math_bits_deBruijn64tab), ("internal/strconv.uint64pow10", laid_internal_strconv_uint64pow10), ("unicode/utf8.acceptRanges", laid_unicode_utf8_acceptRanges), ("graphdb/frac.zero", laid_graphdb_frac_zero), ("unicode/utf8.first", laid_unicode_utf8_first)] }
def ValueRowsSaid : Prop := valueRowsRow.holds Tryz.pinned (OpenSpec.ofChange valueRowsSpec)

/-- ITS FALSE NEIGHBOUR: 'it returns false'. Refute it at one input. -/
def valueRowsWrong : ChangeSpec := { name := "valueRows", fn := fun _ => fun
  | [d1, d2, d3] => { results := [.lit (.bool false)], args := [d1, d2, d3] }
  | _ => none }
def ValueRowsWrongFalsely : Prop := valueRowsRow.holds Tryz.pinned (OpenSpec.ofChange valueRowsWrong)

/-- 'graphdblaw23.AggregateTells': WHATEVER THE INPUT: true; the input reads as it did. -/
def aggregateTellsSpec : ChangeSpec := { name := "aggregateTells", fn := fun _ => fun
  | [d1, d2, d3] => { results := [.lit (.bool true)], args := [d1, d2, d3] }
  | _ => none }
def aggregateTellsRow : OpenClaim := { program := "ytjgmakalledclaagreatdoor", sum := "5dec1ef231f9484a9495193b8749bc13c3f089b220135845fd60ca22a40ff322", func := "graphdb/graphdblaw23.AggregateTells", spec := "aggregateTells", inPlace := ["math/bits.Add64", "math/bits.Sub64", "internal/bytealg.IndexByteString", "internal/bytealg.IndexString", "internal/bytealg.CountString", "internal/abi.NoEscape", "internal/bytealg.MakeNoZero"], unfollowed := true, recurses := true, named := ["graphdb/frac.zero", "math/bits.divideError", "math/bits.overflowError", "internal/bytealg.MaxLen", "internal/strconv.uint64pow10", "math/bits.deBruijn32tab", "math/bits.deBruijn64tab", "unicode/utf8.first", "unicode/utf8.acceptRanges"], loops := true, apart := false, laid := [("math/bits.deBruijn32tab", laid_math_bits_deBruijn32tab), ("math/bits.deBruijn64tab", laid_math_bits_deBruijn64tab), ("internal/strconv.uint64pow10", laid_internal_strconv_uint64pow10), ("unicode/utf8.acceptRanges", laid_unicode_utf8_acceptRanges), ("graphdb/frac.zero", laid_graphdb_frac_zero), ("unicode/utf8.first", laid_unicode_utf8_first)] }
def AggregateTellsSaid : Prop := aggregateTellsRow.holds Tryz.pinned (OpenSpec.ofChange aggregateTellsSpec)

/-- ITS FALSE NEIGHBOUR: 'it returns false'. Refute it at one input. -/
def aggregateTellsWrong : ChangeSpec := { name := "aggregateTells", fn := fun _ => fun
  | [d1, d2, d3] => { results := [.lit (.bool false)], args := [d1, d2, d3] }
  | _ => none }
def AggregateTellsWrongFalsely : Prop := aggregateTellsRow.holds Tryz.pinned (OpenSpec.ofChange aggregateTellsWrong)

/-- 'graphdblaw23.AggregateTables': WHATEVER THE INPUT: true; the input reads as it did. -/
def aggregateTablesSpec : ChangeSpec := { name := "aggregateTables", fn := fun _ => fun
  | [d1, d2, d3] => { results := [.lit (.bool true)], args := [d1, d2, d3] }
  | _ => none }
def aggregateTablesRow : OpenClaim := { program := "ytjgmakalledclaagreatdoor", sum := "5dec1ef231f9484a9495193b8749bc13c3f089b220135845fd60ca22a40ff322", func := "graphdb/graphdblaw23.AggregateTables", spec := "aggregateTables", inPlace := ["math/bits.Add64", "math/bits.Sub64", "internal/bytealg.IndexByteString", "internal/bytealg.IndexString", "internal/bytealg.CountString", "internal/abi.NoEscape", "internal/bytealg.MakeNoZero"], unfollowed := true, recurses := true, named := ["graphdb/frac.zero", "math/bits.divideError", "math/bits.overflowError", "internal/bytealg.MaxLen", "internal/strconv.uint64pow10", "math/bits.deBruijn32tab", "math/bits.deBruijn64tab", "unicode/utf8.first", "unicode/utf8.acceptRanges"], loops := true, apart := false, laid := [("math/bits.deBruijn32tab", laid_math_bits_deBruijn32tab), ("math/bits.deBruijn64tab", laid_math_bits_deBruijn64tab), ("internal/strconv.uint64pow10", laid_internal_strconv_uint64pow10), ("unicode/utf8.acceptRanges", laid_unicode_utf8_acceptRanges), ("graphdb/frac.zero", laid_graphdb_frac_zero), ("unicode/utf8.first", laid_unicode_utf8_first)] }
def AggregateTablesSaid : Prop := aggregateTablesRow.holds Tryz.pinned (OpenSpec.ofChange aggregateTablesSpec)

/-- ITS FALSE NEIGHBOUR: 'it returns false'. Refute it at one input. -/
def aggregateTablesWrong : ChangeSpec := { name := "aggregateTables", fn := fun _ => fun
  | [d1, d2, d3] => { results := [.lit (.bool false)], args := [d1, d2, d3] }
  | _ => none }
def AggregateTablesWrongFalsely : Prop := aggregateTablesRow.holds Tryz.pinned (OpenSpec.ofChange aggregateTablesWrong)

/-- 'graphdblaw23.AggregateTurns': WHATEVER THE INPUT: true; the input reads as it did. -/
def aggregateTurnsSpec : ChangeSpec := { name := "aggregateTurns", fn := fun _ => fun
  | [d1, d2, d3] => { results := [.lit (.bool true)], args := [d1, d2, d3] }
  | _ => none }
def aggregateTurnsRow : OpenClaim := { program := "ytjgmakalledclaagreatdoor", sum := "5dec1ef231f9484a9495193b8749bc13c3f089b220135845fd60ca22a40ff322", func := "graphdb/graphdblaw23.AggregateTurns", spec := "aggregateTurns", inPlace := ["math/bits.Add64", "math/bits.Sub64", "internal/bytealg.IndexByteString", "internal/bytealg.IndexString", "internal/bytealg.CountString", "internal/abi.NoEscape", "internal/bytealg.MakeNoZero"], unfollowed := true, recurses := true, named := ["graphdb/frac.zero", "math/bits.divideError", "math/bits.overflowError", "internal/bytealg.MaxLen", "internal/strconv.uint64pow10", "math/bits.deBruijn32tab", "math/bits.deBruijn64tab", "unicode/utf8.first", "unicode/utf8.acceptRanges"], loops := true, apart := false, laid := [("math/bits.deBruijn32tab", laid_math_bits_deBruijn32tab), ("math/bits.deBruijn64tab", laid_math_bits_deBruijn64tab), ("internal/strconv.uint64pow10", laid_internal_strconv_uint64pow10), ("unicode/utf8.acceptRanges", laid_unicode_utf8_acceptRanges), ("graphdb/frac.zero", laid_graphdb_frac_zero), ("unicode/utf8.first", laid_unicode_utf8_first)] }
def AggregateTurnsSaid : Prop := aggregateTurnsRow.holds Tryz.pinned (OpenSpec.ofChange aggregateTurnsSpec)

/-- ITS FALSE NEIGHBOUR: 'it returns false'. Refute it at one input. -/
def aggregateTurnsWrong : ChangeSpec := { name := "aggregateTurns", fn := fun _ => fun
  | [d1, d2, d3] => { results := [.lit (.bool false)], args := [d1, d2, d3] }
  | _ => none }
def AggregateTurnsWrongFalsely : Prop := aggregateTurnsRow.holds Tryz.pinned (OpenSpec.ofChange aggregateTurnsWrong)

/-- 'graphdblaw23.AggregateParts': WHATEVER THE INPUT: true; the input reads as it did. -/
def aggregatePartsSpec : ChangeSpec := { name := "aggregateParts", fn := fun _ => fun
  | [d1, d2] => { results := [.lit (.bool true)], args := [d1, d2] }
  | _ => none }
def aggregatePartsRow : OpenClaim := { program := "ytjgmakalledclaagreatdoor", sum := "5dec1ef231f9484a9495193b8749bc13c3f089b220135845fd60ca22a40ff322", func := "graphdb/graphdblaw23.AggregateParts", spec := "aggregateParts", inPlace := ["math/bits.Add64", "math/bits.Sub64", "internal/bytealg.IndexByteString", "internal/bytealg.IndexString", "internal/bytealg.CountString", "internal/abi.NoEscape", "internal/bytealg.MakeNoZero"], unfollowed := true, recurses := true, named := ["graphdb/frac.zero", "math/bits.divideError", "math/bits.overflowError", "internal/bytealg.MaxLen", "internal/strconv.uint64pow10", "math/bits.deBruijn32tab", "math/bits.deBruijn64tab", "unicode/utf8.first", "unicode/utf8.acceptRanges"], loops := true, apart := false, laid := [("math/bits.deBruijn32tab", laid_math_bits_deBruijn32tab), ("math/bits.deBruijn64tab", laid_math_bits_deBruijn64tab), ("internal/strconv.uint64pow10", laid_internal_strconv_uint64pow10), ("unicode/utf8.acceptRanges", laid_unicode_utf8_acceptRanges), ("graphdb/frac.zero", laid_graphdb_frac_zero), ("unicode/utf8.first", laid_unicode_utf8_first)] }
def AggregatePartsSaid : Prop := aggregatePartsRow.holds Tryz.pinned (OpenSpec.ofChange aggregatePartsSpec)

/-- ITS FALSE NEIGHBOUR: 'it returns false'. Refute it at one input. -/
def aggregatePartsWrong : ChangeSpec := { name := "aggregateParts", fn := fun _ => fun
  | [d1, d2] => { results := [.lit (.bool false)], args := [d1, d2] }
  | _ => none }
def AggregatePartsWrongFalsely : Prop := aggregatePartsRow.holds Tryz.pinned (OpenSpec.ofChange aggregatePartsWrong)

/-- 'graphdblaw23.AggregateSorts': WHATEVER THE INPUT: true; the input reads as it did. -/
def aggregateSortsSpec : ChangeSpec := { name := "aggregateSorts", fn := fun _ => fun
  | [d1, d2, d3] => { results := [.lit (.bool true)], args := [d1, d2, d3] }
  | _ => none }
def aggregateSortsRow : OpenClaim := { program := "ytjgmakalledclaagreatdoor", sum := "5dec1ef231f9484a9495193b8749bc13c3f089b220135845fd60ca22a40ff322", func := "graphdb/graphdblaw23.AggregateSorts", spec := "aggregateSorts", inPlace := ["math/bits.Add64", "math/bits.Sub64", "internal/bytealg.IndexByteString", "internal/bytealg.IndexString", "internal/bytealg.CountString", "internal/abi.NoEscape", "internal/bytealg.MakeNoZero"], unfollowed := true, recurses := true, named := ["graphdb/frac.zero", "math/bits.divideError", "math/bits.overflowError", "internal/bytealg.MaxLen", "internal/strconv.uint64pow10", "math/bits.deBruijn32tab", "math/bits.deBruijn64tab", "unicode/utf8.first", "unicode/utf8.acceptRanges"], loops := true, apart := false, laid := [("math/bits.deBruijn32tab", laid_math_bits_deBruijn32tab), ("math/bits.deBruijn64tab", laid_math_bits_deBruijn64tab), ("internal/strconv.uint64pow10", laid_internal_strconv_uint64pow10), ("unicode/utf8.acceptRanges", laid_unicode_utf8_acceptRanges), ("graphdb/frac.zero", laid_graphdb_frac_zero), ("unicode/utf8.first", laid_unicode_utf8_first)] }
def AggregateSortsSaid : Prop := aggregateSortsRow.holds Tryz.pinned (OpenSpec.ofChange aggregateSortsSpec)

/-- ITS FALSE NEIGHBOUR: 'it returns false'. Refute it at one input. -/
def aggregateSortsWrong : ChangeSpec := { name := "aggregateSorts", fn := fun _ => fun
  | [d1, d2, d3] => { results := [.lit (.bool false)], args := [d1, d2, d3] }
  | _ => none }
def AggregateSortsWrongFalsely : Prop := aggregateSortsRow.holds Tryz.pinned (OpenSpec.ofChange aggregateSortsWrong)

/-- 'graphdblaw23.AggregateCounts': WHATEVER THE INPUT: true; the input reads as it did. -/
def aggregateCountsSpec : ChangeSpec := { name := "aggregateCounts", fn := fun _ => fun
  | [d1, d2, d3] => { results := [.lit (.bool true)], args := [d1, d2, d3] }
  | _ => none }
def aggregateCountsRow : OpenClaim := { program := "ytjgmakalledclaagreatdoor", sum := "5dec1ef231f9484a9495193b8749bc13c3f089b220135845fd60ca22a40ff322", func := "graphdb/graphdblaw23.AggregateCounts", spec := "aggregateCounts", inPlace := ["math/bits.Add64", "math/bits.Sub64", "internal/bytealg.IndexByteString", "internal/bytealg.IndexString", "internal/bytealg.CountString", "internal/abi.NoEscape", "internal/bytealg.MakeNoZero"], unfollowed := true, recurses := true, named := ["graphdb/frac.zero", "math/bits.divideError", "math/bits.overflowError", "internal/bytealg.MaxLen", "internal/strconv.uint64pow10", "math/bits.deBruijn32tab", "math/bits.deBruijn64tab", "unicode/utf8.first", "unicode/utf8.acceptRanges"], loops := true, apart := false, laid := [("math/bits.deBruijn32tab", laid_math_bits_deBruijn32tab), ("math/bits.deBruijn64tab", laid_math_bits_deBruijn64tab), ("internal/strconv.uint64pow10", laid_internal_strconv_uint64pow10), ("unicode/utf8.acceptRanges", laid_unicode_utf8_acceptRanges), ("graphdb/frac.zero", laid_graphdb_frac_zero), ("unicode/utf8.first", laid_unicode_utf8_first)] }
def AggregateCountsSaid : Prop := aggregateCountsRow.holds Tryz.pinned (OpenSpec.ofChange aggregateCountsSpec)

/-- ITS FALSE NEIGHBOUR: 'it returns false'. Refute it at one input. -/
def aggregateCountsWrong : ChangeSpec := { name := "aggregateCounts", fn := fun _ => fun
  | [d1, d2, d3] => { results := [.lit (.bool false)], args := [d1, d2, d3] }
  | _ => none }
def AggregateCountsWrongFalsely : Prop := aggregateCountsRow.holds Tryz.pinned (OpenSpec.ofChange aggregateCountsWrong)

/- THE SECOND FORM. 'bulk': how many values and letters a reading holds, each counted each time it is reached (what is shared counts as often as it is met; a slice's spare places count too). A statement '..UptoSaid' is the law's where the arguments, and the package variables that the reading takes, are together of bulk at most 1048576: NARROWER than '..Said'. Prove '..Said' where nothing that the law and all that it calls make is longer than what came in: it says more and counts as full. Else prove '..UptoSaid'. A law counts once. -/
mutual
def uptoBulk {H : Type} : DataW H → Nat
  | .lit (.string bytes) => bytes.length + 1
  | .lit _ => 1
  | .nil => 1
  | .ptr d => uptoBulk d + 1
  | .slice elems spare => uptoBulkAll elems + uptoBulkAll spare + 1
  | .agg parts => uptoBulkAll parts + 1
  | .iface _ d => uptoBulk d + 1
  | .map entries => uptoBulkEntries entries + 1
  | .held _ => 1
def uptoBulkAll {H : Type} : List (DataW H) → Nat
  | [] => 0
  | d :: r => uptoBulk d + uptoBulkAll r
def uptoBulkEntries {H : Type} : List (Lit × DataW H) → Nat
  | [] => 0
  | x :: r => uptoBulkEntry x + uptoBulkEntries r
def uptoBulkEntry {H : Type} : Lit × DataW H → Nat
  | (.string bytes, d) => bytes.length + uptoBulk d + 1
  | (_, d) => uptoBulk d + 1
 end
def uptoSmall : (H : Type) → List (DataW H) → Bool := fun _ ds => decide (uptoBulkAll ds ≤ 1048576)
def OpenSpec.upto (s : _root_.Go.ChangeSpec) : _root_.Go.OpenSpec := { _root_.Go.OpenSpec.ofChange s with cond := some uptoSmall }

/-- 'graphdblaw04.ValueRows', WHERE WHAT IT READS IS OF BULK AT MOST 1048576: true; the input reads as it did. -/
def valueRowsUptoRow : OpenClaim := { program := "ytjgmakalledclaagreatdoor", sum := "5dec1ef231f9484a9495193b8749bc13c3f089b220135845fd60ca22a40ff322", func := "graphdb/graphdblaw04.ValueRows", spec := "valueRows", inPlace := ["math/bits.Add64", "math/bits.Sub64", "internal/bytealg.CountString", "internal/bytealg.IndexByteString", "internal/bytealg.IndexString", "internal/abi.NoEscape", "internal/bytealg.MakeNoZero"], unfollowed := true, recurses := true, named := ["graphdb/frac.zero", "internal/strconv.uint64pow10", "math/bits.deBruijn32tab", "math/bits.deBruijn64tab", "internal/bytealg.MaxLen", "unicode/utf8.first", "unicode/utf8.acceptRanges"], loops := true, apart := false, laid := [("math/bits.deBruijn32tab", laid_math_bits_deBruijn32tab), ("math/bits.deBruijn64tab", laid_math_bits_deBruijn64tab), ("internal/strconv.uint64pow10", laid_internal_strconv_uint64pow10), ("unicode/utf8.acceptRanges", laid_unicode_utf8_acceptRanges), ("graphdb/frac.zero", laid_graphdb_frac_zero), ("unicode/utf8.first", laid_unicode_utf8_first)], narrowed := true }
def ValueRowsUptoSaid : Prop := valueRowsUptoRow.holds Tryz.pinned (OpenSpec.upto valueRowsSpec)

/-- 'graphdblaw23.AggregateTells', WHERE WHAT IT READS IS OF BULK AT MOST 1048576: true; the input reads as it did. -/
def aggregateTellsUptoRow : OpenClaim := { program := "ytjgmakalledclaagreatdoor", sum := "5dec1ef231f9484a9495193b8749bc13c3f089b220135845fd60ca22a40ff322", func := "graphdb/graphdblaw23.AggregateTells", spec := "aggregateTells", inPlace := ["math/bits.Add64", "math/bits.Sub64", "internal/bytealg.IndexByteString", "internal/bytealg.IndexString", "internal/bytealg.CountString", "internal/abi.NoEscape", "internal/bytealg.MakeNoZero"], unfollowed := true, recurses := true, named := ["graphdb/frac.zero", "math/bits.divideError", "math/bits.overflowError", "internal/bytealg.MaxLen", "internal/strconv.uint64pow10", "math/bits.deBruijn32tab", "math/bits.deBruijn64tab", "unicode/utf8.first", "unicode/utf8.acceptRanges"], loops := true, apart := false, laid := [("math/bits.deBruijn32tab", laid_math_bits_deBruijn32tab), ("math/bits.deBruijn64tab", laid_math_bits_deBruijn64tab), ("internal/strconv.uint64pow10", laid_internal_strconv_uint64pow10), ("unicode/utf8.acceptRanges", laid_unicode_utf8_acceptRanges), ("graphdb/frac.zero", laid_graphdb_frac_zero), ("unicode/utf8.first", laid_unicode_utf8_first)], narrowed := true }
def AggregateTellsUptoSaid : Prop := aggregateTellsUptoRow.holds Tryz.pinned (OpenSpec.upto aggregateTellsSpec)

/-- 'graphdblaw23.AggregateTables', WHERE WHAT IT READS IS OF BULK AT MOST 1048576: true; the input reads as it did. -/
def aggregateTablesUptoRow : OpenClaim := { program := "ytjgmakalledclaagreatdoor", sum := "5dec1ef231f9484a9495193b8749bc13c3f089b220135845fd60ca22a40ff322", func := "graphdb/graphdblaw23.AggregateTables", spec := "aggregateTables", inPlace := ["math/bits.Add64", "math/bits.Sub64", "internal/bytealg.IndexByteString", "internal/bytealg.IndexString", "internal/bytealg.CountString", "internal/abi.NoEscape", "internal/bytealg.MakeNoZero"], unfollowed := true, recurses := true, named := ["graphdb/frac.zero", "math/bits.divideError", "math/bits.overflowError", "internal/bytealg.MaxLen", "internal/strconv.uint64pow10", "math/bits.deBruijn32tab", "math/bits.deBruijn64tab", "unicode/utf8.first", "unicode/utf8.acceptRanges"], loops := true, apart := false, laid := [("math/bits.deBruijn32tab", laid_math_bits_deBruijn32tab), ("math/bits.deBruijn64tab", laid_math_bits_deBruijn64tab), ("internal/strconv.uint64pow10", laid_internal_strconv_uint64pow10), ("unicode/utf8.acceptRanges", laid_unicode_utf8_acceptRanges), ("graphdb/frac.zero", laid_graphdb_frac_zero), ("unicode/utf8.first", laid_unicode_utf8_first)], narrowed := true }
def AggregateTablesUptoSaid : Prop := aggregateTablesUptoRow.holds Tryz.pinned (OpenSpec.upto aggregateTablesSpec)

/-- 'graphdblaw23.AggregateTurns', WHERE WHAT IT READS IS OF BULK AT MOST 1048576: true; the input reads as it did. -/
def aggregateTurnsUptoRow : OpenClaim := { program := "ytjgmakalledclaagreatdoor", sum := "5dec1ef231f9484a9495193b8749bc13c3f089b220135845fd60ca22a40ff322", func := "graphdb/graphdblaw23.AggregateTurns", spec := "aggregateTurns", inPlace := ["math/bits.Add64", "math/bits.Sub64", "internal/bytealg.IndexByteString", "internal/bytealg.IndexString", "internal/bytealg.CountString", "internal/abi.NoEscape", "internal/bytealg.MakeNoZero"], unfollowed := true, recurses := true, named := ["graphdb/frac.zero", "math/bits.divideError", "math/bits.overflowError", "internal/bytealg.MaxLen", "internal/strconv.uint64pow10", "math/bits.deBruijn32tab", "math/bits.deBruijn64tab", "unicode/utf8.first", "unicode/utf8.acceptRanges"], loops := true, apart := false, laid := [("math/bits.deBruijn32tab", laid_math_bits_deBruijn32tab), ("math/bits.deBruijn64tab", laid_math_bits_deBruijn64tab), ("internal/strconv.uint64pow10", laid_internal_strconv_uint64pow10), ("unicode/utf8.acceptRanges", laid_unicode_utf8_acceptRanges), ("graphdb/frac.zero", laid_graphdb_frac_zero), ("unicode/utf8.first", laid_unicode_utf8_first)], narrowed := true }
def AggregateTurnsUptoSaid : Prop := aggregateTurnsUptoRow.holds Tryz.pinned (OpenSpec.upto aggregateTurnsSpec)

/-- 'graphdblaw23.AggregateParts', WHERE WHAT IT READS IS OF BULK AT MOST 1048576: true; the input reads as it did. -/
def aggregatePartsUptoRow : OpenClaim := { program := "ytjgmakalledclaagreatdoor", sum := "5dec1ef231f9484a9495193b8749bc13c3f089b220135845fd60ca22a40ff322", func := "graphdb/graphdblaw23.AggregateParts", spec := "aggregateParts", inPlace := ["math/bits.Add64", "math/bits.Sub64", "internal/bytealg.IndexByteString", "internal/bytealg.IndexString", "internal/bytealg.CountString", "internal/abi.NoEscape", "internal/bytealg.MakeNoZero"], unfollowed := true, recurses := true, named := ["graphdb/frac.zero", "math/bits.divideError", "math/bits.overflowError", "internal/bytealg.MaxLen", "internal/strconv.uint64pow10", "math/bits.deBruijn32tab", "math/bits.deBruijn64tab", "unicode/utf8.first", "unicode/utf8.acceptRanges"], loops := true, apart := false, laid := [("math/bits.deBruijn32tab", laid_math_bits_deBruijn32tab), ("math/bits.deBruijn64tab", laid_math_bits_deBruijn64tab), ("internal/strconv.uint64pow10", laid_internal_strconv_uint64pow10), ("unicode/utf8.acceptRanges", laid_unicode_utf8_acceptRanges), ("graphdb/frac.zero", laid_graphdb_frac_zero), ("unicode/utf8.first", laid_unicode_utf8_first)], narrowed := true }
def AggregatePartsUptoSaid : Prop := aggregatePartsUptoRow.holds Tryz.pinned (OpenSpec.upto aggregatePartsSpec)

/-- 'graphdblaw23.AggregateSorts', WHERE WHAT IT READS IS OF BULK AT MOST 1048576: true; the input reads as it did. -/
def aggregateSortsUptoRow : OpenClaim := { program := "ytjgmakalledclaagreatdoor", sum := "5dec1ef231f9484a9495193b8749bc13c3f089b220135845fd60ca22a40ff322", func := "graphdb/graphdblaw23.AggregateSorts", spec := "aggregateSorts", inPlace := ["math/bits.Add64", "math/bits.Sub64", "internal/bytealg.IndexByteString", "internal/bytealg.IndexString", "internal/bytealg.CountString", "internal/abi.NoEscape", "internal/bytealg.MakeNoZero"], unfollowed := true, recurses := true, named := ["graphdb/frac.zero", "math/bits.divideError", "math/bits.overflowError", "internal/bytealg.MaxLen", "internal/strconv.uint64pow10", "math/bits.deBruijn32tab", "math/bits.deBruijn64tab", "unicode/utf8.first", "unicode/utf8.acceptRanges"], loops := true, apart := false, laid := [("math/bits.deBruijn32tab", laid_math_bits_deBruijn32tab), ("math/bits.deBruijn64tab", laid_math_bits_deBruijn64tab), ("internal/strconv.uint64pow10", laid_internal_strconv_uint64pow10), ("unicode/utf8.acceptRanges", laid_unicode_utf8_acceptRanges), ("graphdb/frac.zero", laid_graphdb_frac_zero), ("unicode/utf8.first", laid_unicode_utf8_first)], narrowed := true }
def AggregateSortsUptoSaid : Prop := aggregateSortsUptoRow.holds Tryz.pinned (OpenSpec.upto aggregateSortsSpec)

/-- 'graphdblaw23.AggregateCounts', WHERE WHAT IT READS IS OF BULK AT MOST 1048576: true; the input reads as it did. -/
def aggregateCountsUptoRow : OpenClaim := { program := "ytjgmakalledclaagreatdoor", sum := "5dec1ef231f9484a9495193b8749bc13c3f089b220135845fd60ca22a40ff322", func := "graphdb/graphdblaw23.AggregateCounts", spec := "aggregateCounts", inPlace := ["math/bits.Add64", "math/bits.Sub64", "internal/bytealg.IndexByteString", "internal/bytealg.IndexString", "internal/bytealg.CountString", "internal/abi.NoEscape", "internal/bytealg.MakeNoZero"], unfollowed := true, recurses := true, named := ["graphdb/frac.zero", "math/bits.divideError", "math/bits.overflowError", "internal/bytealg.MaxLen", "internal/strconv.uint64pow10", "math/bits.deBruijn32tab", "math/bits.deBruijn64tab", "unicode/utf8.first", "unicode/utf8.acceptRanges"], loops := true, apart := false, laid := [("math/bits.deBruijn32tab", laid_math_bits_deBruijn32tab), ("math/bits.deBruijn64tab", laid_math_bits_deBruijn64tab), ("internal/strconv.uint64pow10", laid_internal_strconv_uint64pow10), ("unicode/utf8.acceptRanges", laid_unicode_utf8_acceptRanges), ("graphdb/frac.zero", laid_graphdb_frac_zero), ("unicode/utf8.first", laid_unicode_utf8_first)], narrowed := true }
def AggregateCountsUptoSaid : Prop := aggregateCountsUptoRow.holds Tryz.pinned (OpenSpec.upto aggregateCountsSpec)

end Rows
end Go.Proofs.YtjgmakalledclaaGreatDoor
