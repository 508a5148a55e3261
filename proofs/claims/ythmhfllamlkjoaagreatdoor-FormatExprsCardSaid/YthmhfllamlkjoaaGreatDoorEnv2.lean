/- The table of the seat's types and listed variables, off the loaded program. Conditions: none. -/
import Derived.Test.YthmhfllamlkjoaaGreatDoorProg
import Derived.Test.YthmhfllamlkjoaaGreatDoorGB
import Derived.KernelRfl
import Derived.Lib.LaidTab
import Derived.Shelf.Strconv.Itoa3
namespace Go.Proofs.YthmhfllamlkjoaaGreatDoor
open Go Go.Abs
set_option maxRecDepth 100000
def te3 : TE := { t := 3, desc := Go.TypeDesc.int Go.IntKind.i64, size := 1, bytes := 8, zero := Go.Value.int Go.IntKind.i64 0 }
def te4 : TE := { t := 4, desc := Go.TypeDesc.bool, size := 1, bytes := 1, zero := Go.Value.bool false }
def te9 : TE := { t := 9, desc := Go.TypeDesc.string, size := 1, bytes := 16, zero := Go.Value.string { data := #[] } }
def te23 : TE := { t := 23, desc := Go.TypeDesc.struct #[{ name := "Kind", type := 3, offset := 0, embedded := false, tag := "", pkgPath := "", byteOffset := 0 }, { name := "N", type := 3, offset := 1, embedded := false, tag := "", pkgPath := "", byteOffset := 8 }, { name := "D", type := 3, offset := 2, embedded := false, tag := "", pkgPath := "", byteOffset := 16 }, { name := "S", type := 9, offset := 3, embedded := false, tag := "", pkgPath := "", byteOffset := 24 }, { name := "L", type := 22, offset := 4, embedded := false, tag := "", pkgPath := "", byteOffset := 40 }], size := 5, bytes := 64, zero := Go.Value.agg #[Go.Value.int Go.IntKind.i64 0, Go.Value.int Go.IntKind.i64 0, Go.Value.int Go.IntKind.i64 0, Go.Value.string { data := #[] }, Go.Value.slice Option.none 0 0] }
def te24 : TE := { t := 24, desc := Go.TypeDesc.struct #[{ name := "Kind", type := 3, offset := 0, embedded := false, tag := "", pkgPath := "", byteOffset := 0 }, { name := "N", type := 3, offset := 1, embedded := false, tag := "", pkgPath := "", byteOffset := 8 }, { name := "D", type := 3, offset := 2, embedded := false, tag := "", pkgPath := "", byteOffset := 16 }, { name := "S", type := 9, offset := 3, embedded := false, tag := "", pkgPath := "", byteOffset := 24 }, { name := "L", type := 22, offset := 4, embedded := false, tag := "", pkgPath := "", byteOffset := 40 }], size := 5, bytes := 64, zero := Go.Value.agg #[Go.Value.int Go.IntKind.i64 0, Go.Value.int Go.IntKind.i64 0, Go.Value.int Go.IntKind.i64 0, Go.Value.string { data := #[] }, Go.Value.slice Option.none 0 0] }
def te26 : TE := { t := 26, desc := Go.TypeDesc.struct #[{ name := "Op", type := 3, offset := 0, embedded := false, tag := "", pkgPath := "", byteOffset := 0 }, { name := "V", type := 24, offset := 1, embedded := false, tag := "", pkgPath := "", byteOffset := 8 }, { name := "Name", type := 9, offset := 6, embedded := false, tag := "", pkgPath := "", byteOffset := 72 }, { name := "Distinct", type := 4, offset := 7, embedded := false, tag := "", pkgPath := "", byteOffset := 88 }, { name := "Kids", type := 25, offset := 8, embedded := false, tag := "", pkgPath := "", byteOffset := 96 }], size := 9, bytes := 120, zero := Go.Value.agg #[Go.Value.int Go.IntKind.i64 0, Go.Value.int Go.IntKind.i64 0, Go.Value.int Go.IntKind.i64 0, Go.Value.int Go.IntKind.i64 0, Go.Value.string { data := #[] }, Go.Value.slice Option.none 0 0, Go.Value.string { data := #[] }, Go.Value.bool false, Go.Value.slice Option.none 0 0] }
def te27 : TE := { t := 27, desc := Go.TypeDesc.struct #[{ name := "Op", type := 3, offset := 0, embedded := false, tag := "", pkgPath := "", byteOffset := 0 }, { name := "V", type := 24, offset := 1, embedded := false, tag := "", pkgPath := "", byteOffset := 8 }, { name := "Name", type := 9, offset := 6, embedded := false, tag := "", pkgPath := "", byteOffset := 72 }, { name := "Distinct", type := 4, offset := 7, embedded := false, tag := "", pkgPath := "", byteOffset := 88 }, { name := "Kids", type := 25, offset := 8, embedded := false, tag := "", pkgPath := "", byteOffset := 96 }], size := 9, bytes := 120, zero := Go.Value.agg #[Go.Value.int Go.IntKind.i64 0, Go.Value.int Go.IntKind.i64 0, Go.Value.int Go.IntKind.i64 0, Go.Value.int Go.IntKind.i64 0, Go.Value.string { data := #[] }, Go.Value.slice Option.none 0 0, Go.Value.string { data := #[] }, Go.Value.bool false, Go.Value.slice Option.none 0 0] }
def te38 : TE := { t := 38, desc := Go.TypeDesc.struct #[{ name := "Kind", type := 3, offset := 0, embedded := false, tag := "", pkgPath := "", byteOffset := 0 }, { name := "Opt", type := 4, offset := 1, embedded := false, tag := "", pkgPath := "", byteOffset := 8 }, { name := "Distinct", type := 4, offset := 2, embedded := false, tag := "", pkgPath := "", byteOffset := 9 }, { name := "Paths", type := 33, offset := 3, embedded := false, tag := "", pkgPath := "", byteOffset := 16 }, { name := "Where", type := 25, offset := 4, embedded := false, tag := "", pkgPath := "", byteOffset := 40 }, { name := "E", type := 27, offset := 5, embedded := false, tag := "", pkgPath := "", byteOffset := 64 }, { name := "Name", type := 9, offset := 14, embedded := false, tag := "", pkgPath := "", byteOffset := 184 }, { name := "Items", type := 34, offset := 15, embedded := false, tag := "", pkgPath := "", byteOffset := 200 }, { name := "Order", type := 35, offset := 16, embedded := false, tag := "", pkgPath := "", byteOffset := 224 }, { name := "Skip", type := 3, offset := 17, embedded := false, tag := "", pkgPath := "", byteOffset := 248 }, { name := "Limit", type := 3, offset := 18, embedded := false, tag := "", pkgPath := "", byteOffset := 256 }, { name := "Sets", type := 36, offset := 19, embedded := false, tag := "", pkgPath := "", byteOffset := 264 }, { name := "Names", type := 37, offset := 20, embedded := false, tag := "", pkgPath := "", byteOffset := 288 }], size := 21, bytes := 312, zero := Go.Value.agg #[Go.Value.int Go.IntKind.i64 0, Go.Value.bool false, Go.Value.bool false, Go.Value.slice Option.none 0 0, Go.Value.slice Option.none 0 0, Go.Value.int Go.IntKind.i64 0, Go.Value.int Go.IntKind.i64 0, Go.Value.int Go.IntKind.i64 0, Go.Value.int Go.IntKind.i64 0, Go.Value.string { data := #[] }, Go.Value.slice Option.none 0 0, Go.Value.string { data := #[] }, Go.Value.bool false, Go.Value.slice Option.none 0 0, Go.Value.string { data := #[] }, Go.Value.slice Option.none 0 0, Go.Value.slice Option.none 0 0, Go.Value.int Go.IntKind.i64 0, Go.Value.int Go.IntKind.i64 0, Go.Value.slice Option.none 0 0, Go.Value.slice Option.none 0 0] }
def te39 : TE := { t := 39, desc := Go.TypeDesc.struct #[{ name := "Kind", type := 3, offset := 0, embedded := false, tag := "", pkgPath := "", byteOffset := 0 }, { name := "Opt", type := 4, offset := 1, embedded := false, tag := "", pkgPath := "", byteOffset := 8 }, { name := "Distinct", type := 4, offset := 2, embedded := false, tag := "", pkgPath := "", byteOffset := 9 }, { name := "Paths", type := 33, offset := 3, embedded := false, tag := "", pkgPath := "", byteOffset := 16 }, { name := "Where", type := 25, offset := 4, embedded := false, tag := "", pkgPath := "", byteOffset := 40 }, { name := "E", type := 27, offset := 5, embedded := false, tag := "", pkgPath := "", byteOffset := 64 }, { name := "Name", type := 9, offset := 14, embedded := false, tag := "", pkgPath := "", byteOffset := 184 }, { name := "Items", type := 34, offset := 15, embedded := false, tag := "", pkgPath := "", byteOffset := 200 }, { name := "Order", type := 35, offset := 16, embedded := false, tag := "", pkgPath := "", byteOffset := 224 }, { name := "Skip", type := 3, offset := 17, embedded := false, tag := "", pkgPath := "", byteOffset := 248 }, { name := "Limit", type := 3, offset := 18, embedded := false, tag := "", pkgPath := "", byteOffset := 256 }, { name := "Sets", type := 36, offset := 19, embedded := false, tag := "", pkgPath := "", byteOffset := 264 }, { name := "Names", type := 37, offset := 20, embedded := false, tag := "", pkgPath := "", byteOffset := 288 }], size := 21, bytes := 312, zero := Go.Value.agg #[Go.Value.int Go.IntKind.i64 0, Go.Value.bool false, Go.Value.bool false, Go.Value.slice Option.none 0 0, Go.Value.slice Option.none 0 0, Go.Value.int Go.IntKind.i64 0, Go.Value.int Go.IntKind.i64 0, Go.Value.int Go.IntKind.i64 0, Go.Value.int Go.IntKind.i64 0, Go.Value.string { data := #[] }, Go.Value.slice Option.none 0 0, Go.Value.string { data := #[] }, Go.Value.bool false, Go.Value.slice Option.none 0 0, Go.Value.string { data := #[] }, Go.Value.slice Option.none 0 0, Go.Value.slice Option.none 0 0, Go.Value.int Go.IntKind.i64 0, Go.Value.int Go.IntKind.i64 0, Go.Value.slice Option.none 0 0, Go.Value.slice Option.none 0 0] }
def te43 : TE := { t := 43, desc := Go.TypeDesc.struct #[{ name := "Clauses", type := 42, offset := 0, embedded := false, tag := "", pkgPath := "", byteOffset := 0 }], size := 1, bytes := 24, zero := Go.Value.agg #[Go.Value.slice Option.none 0 0] }
def te44 : TE := { t := 44, desc := Go.TypeDesc.struct #[{ name := "Clauses", type := 42, offset := 0, embedded := false, tag := "", pkgPath := "", byteOffset := 0 }], size := 1, bytes := 24, zero := Go.Value.agg #[Go.Value.slice Option.none 0 0] }
def te52 : TE := { t := 52, desc := Go.TypeDesc.struct #[{ name := "E", type := 27, offset := 0, embedded := false, tag := "", pkgPath := "", byteOffset := 0 }, { name := "As", type := 9, offset := 9, embedded := false, tag := "", pkgPath := "", byteOffset := 120 }], size := 10, bytes := 136, zero := Go.Value.agg #[Go.Value.int Go.IntKind.i64 0, Go.Value.int Go.IntKind.i64 0, Go.Value.int Go.IntKind.i64 0, Go.Value.int Go.IntKind.i64 0, Go.Value.string { data := #[] }, Go.Value.slice Option.none 0 0, Go.Value.string { data := #[] }, Go.Value.bool false, Go.Value.slice Option.none 0 0, Go.Value.string { data := #[] }] }
def te53 : TE := { t := 53, desc := Go.TypeDesc.struct #[{ name := "E", type := 27, offset := 0, embedded := false, tag := "", pkgPath := "", byteOffset := 0 }, { name := "As", type := 9, offset := 9, embedded := false, tag := "", pkgPath := "", byteOffset := 120 }], size := 10, bytes := 136, zero := Go.Value.agg #[Go.Value.int Go.IntKind.i64 0, Go.Value.int Go.IntKind.i64 0, Go.Value.int Go.IntKind.i64 0, Go.Value.int Go.IntKind.i64 0, Go.Value.string { data := #[] }, Go.Value.slice Option.none 0 0, Go.Value.string { data := #[] }, Go.Value.bool false, Go.Value.slice Option.none 0 0, Go.Value.string { data := #[] }] }
def te54 : TE := { t := 54, desc := Go.TypeDesc.struct #[{ name := "E", type := 27, offset := 0, embedded := false, tag := "", pkgPath := "", byteOffset := 0 }, { name := "Desc", type := 4, offset := 9, embedded := false, tag := "", pkgPath := "", byteOffset := 120 }], size := 10, bytes := 128, zero := Go.Value.agg #[Go.Value.int Go.IntKind.i64 0, Go.Value.int Go.IntKind.i64 0, Go.Value.int Go.IntKind.i64 0, Go.Value.int Go.IntKind.i64 0, Go.Value.string { data := #[] }, Go.Value.slice Option.none 0 0, Go.Value.string { data := #[] }, Go.Value.bool false, Go.Value.slice Option.none 0 0, Go.Value.bool false] }
def te55 : TE := { t := 55, desc := Go.TypeDesc.struct #[{ name := "E", type := 27, offset := 0, embedded := false, tag := "", pkgPath := "", byteOffset := 0 }, { name := "Desc", type := 4, offset := 9, embedded := false, tag := "", pkgPath := "", byteOffset := 120 }], size := 10, bytes := 128, zero := Go.Value.agg #[Go.Value.int Go.IntKind.i64 0, Go.Value.int Go.IntKind.i64 0, Go.Value.int Go.IntKind.i64 0, Go.Value.int Go.IntKind.i64 0, Go.Value.string { data := #[] }, Go.Value.slice Option.none 0 0, Go.Value.string { data := #[] }, Go.Value.bool false, Go.Value.slice Option.none 0 0, Go.Value.bool false] }
def te56 : TE := { t := 56, desc := Go.TypeDesc.struct #[{ name := "Var", type := 9, offset := 0, embedded := false, tag := "", pkgPath := "", byteOffset := 0 }, { name := "Key", type := 9, offset := 1, embedded := false, tag := "", pkgPath := "", byteOffset := 16 }, { name := "Label", type := 9, offset := 2, embedded := false, tag := "", pkgPath := "", byteOffset := 32 }, { name := "Off", type := 4, offset := 3, embedded := false, tag := "", pkgPath := "", byteOffset := 48 }, { name := "E", type := 27, offset := 4, embedded := false, tag := "", pkgPath := "", byteOffset := 56 }], size := 13, bytes := 176, zero := Go.Value.agg #[Go.Value.string { data := #[] }, Go.Value.string { data := #[] }, Go.Value.string { data := #[] }, Go.Value.bool false, Go.Value.int Go.IntKind.i64 0, Go.Value.int Go.IntKind.i64 0, Go.Value.int Go.IntKind.i64 0, Go.Value.int Go.IntKind.i64 0, Go.Value.string { data := #[] }, Go.Value.slice Option.none 0 0, Go.Value.string { data := #[] }, Go.Value.bool false, Go.Value.slice Option.none 0 0] }
def te57 : TE := { t := 57, desc := Go.TypeDesc.struct #[{ name := "Var", type := 9, offset := 0, embedded := false, tag := "", pkgPath := "", byteOffset := 0 }, { name := "Key", type := 9, offset := 1, embedded := false, tag := "", pkgPath := "", byteOffset := 16 }, { name := "Label", type := 9, offset := 2, embedded := false, tag := "", pkgPath := "", byteOffset := 32 }, { name := "Off", type := 4, offset := 3, embedded := false, tag := "", pkgPath := "", byteOffset := 48 }, { name := "E", type := 27, offset := 4, embedded := false, tag := "", pkgPath := "", byteOffset := 56 }], size := 13, bytes := 176, zero := Go.Value.agg #[Go.Value.string { data := #[] }, Go.Value.string { data := #[] }, Go.Value.string { data := #[] }, Go.Value.bool false, Go.Value.int Go.IntKind.i64 0, Go.Value.int Go.IntKind.i64 0, Go.Value.int Go.IntKind.i64 0, Go.Value.int Go.IntKind.i64 0, Go.Value.string { data := #[] }, Go.Value.slice Option.none 0 0, Go.Value.string { data := #[] }, Go.Value.bool false, Go.Value.slice Option.none 0 0] }
def te70 : TE := { t := 70, desc := Go.TypeDesc.struct #[{ name := "Var", type := 9, offset := 0, embedded := false, tag := "", pkgPath := "", byteOffset := 0 }, { name := "Nodes", type := 68, offset := 1, embedded := false, tag := "", pkgPath := "", byteOffset := 16 }, { name := "Edges", type := 69, offset := 2, embedded := false, tag := "", pkgPath := "", byteOffset := 40 }], size := 3, bytes := 64, zero := Go.Value.agg #[Go.Value.string { data := #[] }, Go.Value.slice Option.none 0 0, Go.Value.slice Option.none 0 0] }
def te71 : TE := { t := 71, desc := Go.TypeDesc.struct #[{ name := "Var", type := 9, offset := 0, embedded := false, tag := "", pkgPath := "", byteOffset := 0 }, { name := "Nodes", type := 68, offset := 1, embedded := false, tag := "", pkgPath := "", byteOffset := 16 }, { name := "Edges", type := 69, offset := 2, embedded := false, tag := "", pkgPath := "", byteOffset := 40 }], size := 3, bytes := 64, zero := Go.Value.agg #[Go.Value.string { data := #[] }, Go.Value.slice Option.none 0 0, Go.Value.slice Option.none 0 0] }
def te73 : TE := { t := 73, desc := Go.TypeDesc.struct #[{ name := "Var", type := 9, offset := 0, embedded := false, tag := "", pkgPath := "", byteOffset := 0 }, { name := "Labels", type := 37, offset := 1, embedded := false, tag := "", pkgPath := "", byteOffset := 16 }, { name := "Props", type := 72, offset := 2, embedded := false, tag := "", pkgPath := "", byteOffset := 40 }], size := 3, bytes := 64, zero := Go.Value.agg #[Go.Value.string { data := #[] }, Go.Value.slice Option.none 0 0, Go.Value.slice Option.none 0 0] }
def te74 : TE := { t := 74, desc := Go.TypeDesc.struct #[{ name := "Var", type := 9, offset := 0, embedded := false, tag := "", pkgPath := "", byteOffset := 0 }, { name := "Labels", type := 37, offset := 1, embedded := false, tag := "", pkgPath := "", byteOffset := 16 }, { name := "Props", type := 72, offset := 2, embedded := false, tag := "", pkgPath := "", byteOffset := 40 }], size := 3, bytes := 64, zero := Go.Value.agg #[Go.Value.string { data := #[] }, Go.Value.slice Option.none 0 0, Go.Value.slice Option.none 0 0] }
def te76 : TE := { t := 76, desc := Go.TypeDesc.struct #[{ name := "Var", type := 9, offset := 0, embedded := false, tag := "", pkgPath := "", byteOffset := 0 }, { name := "Types", type := 37, offset := 1, embedded := false, tag := "", pkgPath := "", byteOffset := 16 }, { name := "Dir", type := 3, offset := 2, embedded := false, tag := "", pkgPath := "", byteOffset := 40 }, { name := "Mode", type := 3, offset := 3, embedded := false, tag := "", pkgPath := "", byteOffset := 48 }, { name := "Min", type := 3, offset := 4, embedded := false, tag := "", pkgPath := "", byteOffset := 56 }, { name := "Max", type := 3, offset := 5, embedded := false, tag := "", pkgPath := "", byteOffset := 64 }, { name := "Props", type := 72, offset := 6, embedded := false, tag := "", pkgPath := "", byteOffset := 72 }], size := 7, bytes := 96, zero := Go.Value.agg #[Go.Value.string { data := #[] }, Go.Value.slice Option.none 0 0, Go.Value.int Go.IntKind.i64 0, Go.Value.int Go.IntKind.i64 0, Go.Value.int Go.IntKind.i64 0, Go.Value.int Go.IntKind.i64 0, Go.Value.slice Option.none 0 0] }
def te77 : TE := { t := 77, desc := Go.TypeDesc.struct #[{ name := "Var", type := 9, offset := 0, embedded := false, tag := "", pkgPath := "", byteOffset := 0 }, { name := "Types", type := 37, offset := 1, embedded := false, tag := "", pkgPath := "", byteOffset := 16 }, { name := "Dir", type := 3, offset := 2, embedded := false, tag := "", pkgPath := "", byteOffset := 40 }, { name := "Mode", type := 3, offset := 3, embedded := false, tag := "", pkgPath := "", byteOffset := 48 }, { name := "Min", type := 3, offset := 4, embedded := false, tag := "", pkgPath := "", byteOffset := 56 }, { name := "Max", type := 3, offset := 5, embedded := false, tag := "", pkgPath := "", byteOffset := 64 }, { name := "Props", type := 72, offset := 6, embedded := false, tag := "", pkgPath := "", byteOffset := 72 }], size := 7, bytes := 96, zero := Go.Value.agg #[Go.Value.string { data := #[] }, Go.Value.slice Option.none 0 0, Go.Value.int Go.IntKind.i64 0, Go.Value.int Go.IntKind.i64 0, Go.Value.int Go.IntKind.i64 0, Go.Value.int Go.IntKind.i64 0, Go.Value.slice Option.none 0 0] }
def te78 : TE := { t := 78, desc := Go.TypeDesc.struct #[{ name := "e", type := 30, offset := 0, embedded := false, tag := "", pkgPath := "graphdb/syntax", byteOffset := 0 }], size := 1, bytes := 8, zero := Go.Value.agg #[Go.Value.int Go.IntKind.i64 0] }
def te79 : TE := { t := 79, desc := Go.TypeDesc.struct #[{ name := "e", type := 30, offset := 0, embedded := false, tag := "", pkgPath := "graphdb/syntax", byteOffset := 0 }], size := 1, bytes := 8, zero := Go.Value.agg #[Go.Value.int Go.IntKind.i64 0] }
def te89 : TE := { t := 89, desc := Go.TypeDesc.struct #[{ name := "addr", type := 87, offset := 0, embedded := false, tag := "", pkgPath := "strings", byteOffset := 0 }, { name := "buf", type := 88, offset := 1, embedded := false, tag := "", pkgPath := "strings", byteOffset := 8 }], size := 2, bytes := 32, zero := Go.Value.agg #[Go.Value.pointer Option.none, Go.Value.slice Option.none 0 0] }
def te90 : TE := { t := 90, desc := Go.TypeDesc.struct #[{ name := "addr", type := 87, offset := 0, embedded := false, tag := "", pkgPath := "strings", byteOffset := 0 }, { name := "buf", type := 88, offset := 1, embedded := false, tag := "", pkgPath := "strings", byteOffset := 8 }], size := 2, bytes := 32, zero := Go.Value.agg #[Go.Value.pointer Option.none, Go.Value.slice Option.none 0 0] }
def te99 : TE := { t := 99, desc := Go.TypeDesc.struct #[{ name := "Key", type := 9, offset := 0, embedded := false, tag := "", pkgPath := "", byteOffset := 0 }, { name := "E", type := 27, offset := 1, embedded := false, tag := "", pkgPath := "", byteOffset := 16 }], size := 10, bytes := 136, zero := Go.Value.agg #[Go.Value.string { data := #[] }, Go.Value.int Go.IntKind.i64 0, Go.Value.int Go.IntKind.i64 0, Go.Value.int Go.IntKind.i64 0, Go.Value.int Go.IntKind.i64 0, Go.Value.string { data := #[] }, Go.Value.slice Option.none 0 0, Go.Value.string { data := #[] }, Go.Value.bool false, Go.Value.slice Option.none 0 0] }
def te100 : TE := { t := 100, desc := Go.TypeDesc.struct #[{ name := "Key", type := 9, offset := 0, embedded := false, tag := "", pkgPath := "", byteOffset := 0 }, { name := "E", type := 27, offset := 1, embedded := false, tag := "", pkgPath := "", byteOffset := 16 }], size := 10, bytes := 136, zero := Go.Value.agg #[Go.Value.string { data := #[] }, Go.Value.int Go.IntKind.i64 0, Go.Value.int Go.IntKind.i64 0, Go.Value.int Go.IntKind.i64 0, Go.Value.int Go.IntKind.i64 0, Go.Value.string { data := #[] }, Go.Value.slice Option.none 0 0, Go.Value.string { data := #[] }, Go.Value.bool false, Go.Value.slice Option.none 0 0] }
def te112 : TE := { t := 112, desc := Go.TypeDesc.struct #[{ name := "name", type := 9, offset := 0, embedded := false, tag := "", pkgPath := "graphdb/syntax", byteOffset := 0 }, { name := "names", type := 37, offset := 1, embedded := false, tag := "", pkgPath := "graphdb/syntax", byteOffset := 16 }, { name := "props", type := 72, offset := 2, embedded := false, tag := "", pkgPath := "graphdb/syntax", byteOffset := 40 }], size := 3, bytes := 64, zero := Go.Value.agg #[Go.Value.string { data := #[] }, Go.Value.slice Option.none 0 0, Go.Value.slice Option.none 0 0] }
def te113 : TE := { t := 113, desc := Go.TypeDesc.struct #[{ name := "name", type := 9, offset := 0, embedded := false, tag := "", pkgPath := "graphdb/syntax", byteOffset := 0 }, { name := "names", type := 37, offset := 1, embedded := false, tag := "", pkgPath := "graphdb/syntax", byteOffset := 16 }, { name := "props", type := 72, offset := 2, embedded := false, tag := "", pkgPath := "graphdb/syntax", byteOffset := 40 }], size := 3, bytes := 64, zero := Go.Value.agg #[Go.Value.string { data := #[] }, Go.Value.slice Option.none 0 0, Go.Value.slice Option.none 0 0] }
def te127 : TE := { t := 127, desc := Go.TypeDesc.struct #[{ name := "N", type := 3, offset := 0, embedded := false, tag := "", pkgPath := "", byteOffset := 0 }, { name := "D", type := 3, offset := 1, embedded := false, tag := "", pkgPath := "", byteOffset := 8 }], size := 2, bytes := 16, zero := Go.Value.agg #[Go.Value.int Go.IntKind.i64 0, Go.Value.int Go.IntKind.i64 0] }
def te128 : TE := { t := 128, desc := Go.TypeDesc.struct #[{ name := "N", type := 3, offset := 0, embedded := false, tag := "", pkgPath := "", byteOffset := 0 }, { name := "D", type := 3, offset := 1, embedded := false, tag := "", pkgPath := "", byteOffset := 8 }], size := 2, bytes := 16, zero := Go.Value.agg #[Go.Value.int Go.IntKind.i64 0, Go.Value.int Go.IntKind.i64 0] }
def te181 : TE := { t := 181, desc := Go.TypeDesc.struct #[{ name := "lo", type := 5, offset := 0, embedded := false, tag := "", pkgPath := "unicode/utf8", byteOffset := 0 }, { name := "hi", type := 5, offset := 1, embedded := false, tag := "", pkgPath := "unicode/utf8", byteOffset := 1 }], size := 2, bytes := 2, zero := Go.Value.agg #[Go.Value.int Go.IntKind.u8 0, Go.Value.int Go.IntKind.u8 0] }
def te182 : TE := { t := 182, desc := Go.TypeDesc.struct #[{ name := "lo", type := 5, offset := 0, embedded := false, tag := "", pkgPath := "unicode/utf8", byteOffset := 0 }, { name := "hi", type := 5, offset := 1, embedded := false, tag := "", pkgPath := "unicode/utf8", byteOffset := 1 }], size := 2, bytes := 2, zero := Go.Value.agg #[Go.Value.int Go.IntKind.u8 0, Go.Value.int Go.IntKind.u8 0] }
def te22 : TE := { t := 22, desc := Go.TypeDesc.slice 24, size := 1, bytes := 24, zero := Go.Value.slice Option.none 0 0 }
def te25 : TE := { t := 25, desc := Go.TypeDesc.slice 27, size := 1, bytes := 24, zero := Go.Value.slice Option.none 0 0 }
def te33 : TE := { t := 33, desc := Go.TypeDesc.slice 71, size := 1, bytes := 24, zero := Go.Value.slice Option.none 0 0 }
def te34 : TE := { t := 34, desc := Go.TypeDesc.slice 53, size := 1, bytes := 24, zero := Go.Value.slice Option.none 0 0 }
def te35 : TE := { t := 35, desc := Go.TypeDesc.slice 55, size := 1, bytes := 24, zero := Go.Value.slice Option.none 0 0 }
def te36 : TE := { t := 36, desc := Go.TypeDesc.slice 57, size := 1, bytes := 24, zero := Go.Value.slice Option.none 0 0 }
def te37 : TE := { t := 37, desc := Go.TypeDesc.slice 9, size := 1, bytes := 24, zero := Go.Value.slice Option.none 0 0 }
def te42 : TE := { t := 42, desc := Go.TypeDesc.slice 39, size := 1, bytes := 24, zero := Go.Value.slice Option.none 0 0 }
def te68 : TE := { t := 68, desc := Go.TypeDesc.slice 74, size := 1, bytes := 24, zero := Go.Value.slice Option.none 0 0 }
def te69 : TE := { t := 69, desc := Go.TypeDesc.slice 77, size := 1, bytes := 24, zero := Go.Value.slice Option.none 0 0 }
def te72 : TE := { t := 72, desc := Go.TypeDesc.slice 100, size := 1, bytes := 24, zero := Go.Value.slice Option.none 0 0 }
def te88 : TE := { t := 88, desc := Go.TypeDesc.slice 5, size := 1, bytes := 24, zero := Go.Value.slice Option.none 0 0 }
def te101 : TE := { t := 101, desc := Go.TypeDesc.slice 3, size := 1, bytes := 24, zero := Go.Value.slice Option.none 0 0 }
def te109 : TE := { t := 109, desc := Go.TypeDesc.slice 113, size := 1, bytes := 24, zero := Go.Value.slice Option.none 0 0 }
def te2 : TE := { t := 2, desc := Go.TypeDesc.int Go.IntKind.i64, size := 1, bytes := 8, zero := Go.Value.int Go.IntKind.i64 0 }
def te5 : TE := { t := 5, desc := Go.TypeDesc.int Go.IntKind.u8, size := 1, bytes := 1, zero := Go.Value.int Go.IntKind.u8 0 }
def te12 : TE := { t := 12, desc := Go.TypeDesc.int Go.IntKind.u64, size := 1, bytes := 8, zero := Go.Value.int Go.IntKind.u64 0 }
def te21 : TE := { t := 21, desc := Go.TypeDesc.int Go.IntKind.i32, size := 1, bytes := 4, zero := Go.Value.int Go.IntKind.i32 0 }
def te30 : TE := { t := 30, desc := Go.TypeDesc.int Go.IntKind.i64, size := 1, bytes := 8, zero := Go.Value.int Go.IntKind.i64 0 }
def te87 : TE := { t := 87, desc := Go.TypeDesc.pointer 90, size := 1, bytes := 8, zero := Go.Value.pointer Option.none }
def te105 : TE := { t := 105, desc := Go.TypeDesc.pointer 79, size := 1, bytes := 8, zero := Go.Value.pointer Option.none }
def te122 : TE := { t := 122, desc := Go.TypeDesc.pointer 5, size := 1, bytes := 8, zero := Go.Value.pointer Option.none }
def te158 : TE := { t := 158, desc := Go.TypeDesc.int Go.IntKind.u64, size := 1, bytes := 8, zero := Go.Value.int Go.IntKind.u64 0 }
def te173 : TE := { t := 173, desc := Go.TypeDesc.int Go.IntKind.u32, size := 1, bytes := 4, zero := Go.Value.int Go.IntKind.u32 0 }
def te175 : TE := { t := 175, desc := Go.TypeDesc.int Go.IntKind.u64, size := 1, bytes := 8, zero := Go.Value.int Go.IntKind.u64 0 }
theorem ok3 : te3.ok Tryz.prog := ⟨Tryz.underlying3, Tryz.t3, Tryz.type3, rfl, rfl, rfl⟩
theorem ok4 : te4.ok Tryz.prog := ⟨Tryz.underlying4, Tryz.t4, Tryz.type4, rfl, rfl, rfl⟩
theorem ok9 : te9.ok Tryz.prog := ⟨Tryz.underlying9, Tryz.t9, Tryz.type9, rfl, rfl, rfl⟩
theorem ok23 : te23.ok Tryz.prog := ⟨Tryz.underlying23, Tryz.t23, Tryz.type23, rfl, rfl, rfl⟩
theorem ok24 : te24.ok Tryz.prog := ⟨Tryz.underlying24, Tryz.t24, Tryz.type24, rfl, rfl, rfl⟩
theorem ok26 : te26.ok Tryz.prog := ⟨Tryz.underlying26, Tryz.t26, Tryz.type26, rfl, rfl, rfl⟩
theorem ok27 : te27.ok Tryz.prog := ⟨Tryz.underlying27, Tryz.t27, Tryz.type27, rfl, rfl, rfl⟩
theorem ok38 : te38.ok Tryz.prog := ⟨Tryz.underlying38, Tryz.t38, Tryz.type38, rfl, rfl, rfl⟩
theorem ok39 : te39.ok Tryz.prog := ⟨Tryz.underlying39, Tryz.t39, Tryz.type39, rfl, rfl, rfl⟩
theorem ok43 : te43.ok Tryz.prog := ⟨Tryz.underlying43, Tryz.t43, Tryz.type43, rfl, rfl, rfl⟩
theorem ok44 : te44.ok Tryz.prog := ⟨Tryz.underlying44, Tryz.t44, Tryz.type44, rfl, rfl, rfl⟩
theorem ok52 : te52.ok Tryz.prog := ⟨Tryz.underlying52, Tryz.t52, Tryz.type52, rfl, rfl, rfl⟩
theorem ok53 : te53.ok Tryz.prog := ⟨Tryz.underlying53, Tryz.t53, Tryz.type53, rfl, rfl, rfl⟩
theorem ok54 : te54.ok Tryz.prog := ⟨Tryz.underlying54, Tryz.t54, Tryz.type54, rfl, rfl, rfl⟩
theorem ok55 : te55.ok Tryz.prog := ⟨Tryz.underlying55, Tryz.t55, Tryz.type55, rfl, rfl, rfl⟩
theorem ok56 : te56.ok Tryz.prog := ⟨Tryz.underlying56, Tryz.t56, Tryz.type56, rfl, rfl, rfl⟩
theorem ok57 : te57.ok Tryz.prog := ⟨Tryz.underlying57, Tryz.t57, Tryz.type57, rfl, rfl, rfl⟩
theorem ok70 : te70.ok Tryz.prog := ⟨Tryz.underlying70, Tryz.t70, Tryz.type70, rfl, rfl, rfl⟩
theorem ok71 : te71.ok Tryz.prog := ⟨Tryz.underlying71, Tryz.t71, Tryz.type71, rfl, rfl, rfl⟩
theorem ok73 : te73.ok Tryz.prog := ⟨Tryz.underlying73, Tryz.t73, Tryz.type73, rfl, rfl, rfl⟩
theorem ok74 : te74.ok Tryz.prog := ⟨Tryz.underlying74, Tryz.t74, Tryz.type74, rfl, rfl, rfl⟩
theorem ok76 : te76.ok Tryz.prog := ⟨Tryz.underlying76, Tryz.t76, Tryz.type76, rfl, rfl, rfl⟩
theorem ok77 : te77.ok Tryz.prog := ⟨Tryz.underlying77, Tryz.t77, Tryz.type77, rfl, rfl, rfl⟩
theorem ok78 : te78.ok Tryz.prog := ⟨Tryz.underlying78, Tryz.t78, Tryz.type78, rfl, rfl, rfl⟩
theorem ok79 : te79.ok Tryz.prog := ⟨Tryz.underlying79, Tryz.t79, Tryz.type79, rfl, rfl, rfl⟩
theorem ok89 : te89.ok Tryz.prog := ⟨Tryz.underlying89, Tryz.t89, Tryz.type89, rfl, rfl, rfl⟩
theorem ok90 : te90.ok Tryz.prog := ⟨Tryz.underlying90, Tryz.t90, Tryz.type90, rfl, rfl, rfl⟩
theorem ok99 : te99.ok Tryz.prog := ⟨Tryz.underlying99, Tryz.t99, Tryz.type99, rfl, rfl, rfl⟩
theorem ok100 : te100.ok Tryz.prog := ⟨Tryz.underlying100, Tryz.t100, Tryz.type100, rfl, rfl, rfl⟩
theorem ok112 : te112.ok Tryz.prog := ⟨Tryz.underlying112, Tryz.t112, Tryz.type112, rfl, rfl, rfl⟩
theorem ok113 : te113.ok Tryz.prog := ⟨Tryz.underlying113, Tryz.t113, Tryz.type113, rfl, rfl, rfl⟩
theorem ok127 : te127.ok Tryz.prog := ⟨Tryz.underlying127, Tryz.t127, Tryz.type127, rfl, rfl, rfl⟩
theorem ok128 : te128.ok Tryz.prog := ⟨Tryz.underlying128, Tryz.t128, Tryz.type128, rfl, rfl, rfl⟩
theorem ok181 : te181.ok Tryz.prog := ⟨Tryz.underlying181, Tryz.t181, Tryz.type181, rfl, rfl, rfl⟩
theorem ok182 : te182.ok Tryz.prog := ⟨Tryz.underlying182, Tryz.t182, Tryz.type182, rfl, rfl, rfl⟩
theorem ok22 : te22.ok Tryz.prog := ⟨Tryz.underlying22, Tryz.t22, Tryz.type22, rfl, rfl, rfl⟩
theorem ok25 : te25.ok Tryz.prog := ⟨Tryz.underlying25, Tryz.t25, Tryz.type25, rfl, rfl, rfl⟩
theorem ok33 : te33.ok Tryz.prog := ⟨Tryz.underlying33, Tryz.t33, Tryz.type33, rfl, rfl, rfl⟩
theorem ok34 : te34.ok Tryz.prog := ⟨Tryz.underlying34, Tryz.t34, Tryz.type34, rfl, rfl, rfl⟩
theorem ok35 : te35.ok Tryz.prog := ⟨Tryz.underlying35, Tryz.t35, Tryz.type35, rfl, rfl, rfl⟩
theorem ok36 : te36.ok Tryz.prog := ⟨Tryz.underlying36, Tryz.t36, Tryz.type36, rfl, rfl, rfl⟩
theorem ok37 : te37.ok Tryz.prog := ⟨Tryz.underlying37, Tryz.t37, Tryz.type37, rfl, rfl, rfl⟩
theorem ok42 : te42.ok Tryz.prog := ⟨Tryz.underlying42, Tryz.t42, Tryz.type42, rfl, rfl, rfl⟩
theorem ok68 : te68.ok Tryz.prog := ⟨Tryz.underlying68, Tryz.t68, Tryz.type68, rfl, rfl, rfl⟩
theorem ok69 : te69.ok Tryz.prog := ⟨Tryz.underlying69, Tryz.t69, Tryz.type69, rfl, rfl, rfl⟩
theorem ok72 : te72.ok Tryz.prog := ⟨Tryz.underlying72, Tryz.t72, Tryz.type72, rfl, rfl, rfl⟩
theorem ok88 : te88.ok Tryz.prog := ⟨Tryz.underlying88, Tryz.t88, Tryz.type88, rfl, rfl, rfl⟩
theorem ok101 : te101.ok Tryz.prog := ⟨Tryz.underlying101, Tryz.t101, Tryz.type101, rfl, rfl, rfl⟩
theorem ok109 : te109.ok Tryz.prog := ⟨Tryz.underlying109, Tryz.t109, Tryz.type109, rfl, rfl, rfl⟩
theorem ok2 : te2.ok Tryz.prog := ⟨Tryz.underlying2, Tryz.t2, Tryz.type2, rfl, rfl, rfl⟩
theorem ok5 : te5.ok Tryz.prog := ⟨Tryz.underlying5, Tryz.t5, Tryz.type5, rfl, rfl, rfl⟩
theorem ok12 : te12.ok Tryz.prog := ⟨Tryz.underlying12, Tryz.t12, Tryz.type12, rfl, rfl, rfl⟩
theorem ok21 : te21.ok Tryz.prog := ⟨Tryz.underlying21, Tryz.t21, Tryz.type21, rfl, rfl, rfl⟩
theorem ok30 : te30.ok Tryz.prog := ⟨Tryz.underlying30, Tryz.t30, Tryz.type30, rfl, rfl, rfl⟩
theorem ok87 : te87.ok Tryz.prog := ⟨Tryz.underlying87, Tryz.t87, Tryz.type87, rfl, rfl, rfl⟩
theorem ok105 : te105.ok Tryz.prog := ⟨Tryz.underlying105, Tryz.t105, Tryz.type105, rfl, rfl, rfl⟩
theorem ok122 : te122.ok Tryz.prog := ⟨Tryz.underlying122, Tryz.t122, Tryz.type122, rfl, rfl, rfl⟩
theorem ok158 : te158.ok Tryz.prog := ⟨Tryz.underlying158, Tryz.t158, Tryz.type158, rfl, rfl, rfl⟩
theorem ok173 : te173.ok Tryz.prog := ⟨Tryz.underlying173, Tryz.t173, Tryz.type173, rfl, rfl, rfl⟩
theorem ok175 : te175.ok Tryz.prog := ⟨Tryz.underlying175, Tryz.t175, Tryz.type175, rfl, rfl, rfl⟩
def seatT : List TE := [te3, te4, te9, te23, te24, te26, te27, te38, te39, te43, te44, te52, te53, te54, te55, te56, te57, te70, te71, te73, te74, te76, te77, te78, te79, te89, te90, te99, te100, te112, te113, te127, te128, te181, te182, te22, te25, te33, te34, te35, te36, te37, te42, te68, te69, te72, te88, te101, te109, te2, te5, te12, te21, te30, te87, te105, te122, te158, te173, te175]
theorem seatT_ok : ∀ e ∈ seatT, e.ok Tryz.prog := by
  unfold seatT
  refine List.forall_mem_cons.2 ⟨ok3, ?_⟩
  refine List.forall_mem_cons.2 ⟨ok4, ?_⟩
  refine List.forall_mem_cons.2 ⟨ok9, ?_⟩
  refine List.forall_mem_cons.2 ⟨ok23, ?_⟩
  refine List.forall_mem_cons.2 ⟨ok24, ?_⟩
  refine List.forall_mem_cons.2 ⟨ok26, ?_⟩
  refine List.forall_mem_cons.2 ⟨ok27, ?_⟩
  refine List.forall_mem_cons.2 ⟨ok38, ?_⟩
  refine List.forall_mem_cons.2 ⟨ok39, ?_⟩
  refine List.forall_mem_cons.2 ⟨ok43, ?_⟩
  refine List.forall_mem_cons.2 ⟨ok44, ?_⟩
  refine List.forall_mem_cons.2 ⟨ok52, ?_⟩
  refine List.forall_mem_cons.2 ⟨ok53, ?_⟩
  refine List.forall_mem_cons.2 ⟨ok54, ?_⟩
  refine List.forall_mem_cons.2 ⟨ok55, ?_⟩
  refine List.forall_mem_cons.2 ⟨ok56, ?_⟩
  refine List.forall_mem_cons.2 ⟨ok57, ?_⟩
  refine List.forall_mem_cons.2 ⟨ok70, ?_⟩
  refine List.forall_mem_cons.2 ⟨ok71, ?_⟩
  refine List.forall_mem_cons.2 ⟨ok73, ?_⟩
  refine List.forall_mem_cons.2 ⟨ok74, ?_⟩
  refine List.forall_mem_cons.2 ⟨ok76, ?_⟩
  refine List.forall_mem_cons.2 ⟨ok77, ?_⟩
  refine List.forall_mem_cons.2 ⟨ok78, ?_⟩
  refine List.forall_mem_cons.2 ⟨ok79, ?_⟩
  refine List.forall_mem_cons.2 ⟨ok89, ?_⟩
  refine List.forall_mem_cons.2 ⟨ok90, ?_⟩
  refine List.forall_mem_cons.2 ⟨ok99, ?_⟩
  refine List.forall_mem_cons.2 ⟨ok100, ?_⟩
  refine List.forall_mem_cons.2 ⟨ok112, ?_⟩
  refine List.forall_mem_cons.2 ⟨ok113, ?_⟩
  refine List.forall_mem_cons.2 ⟨ok127, ?_⟩
  refine List.forall_mem_cons.2 ⟨ok128, ?_⟩
  refine List.forall_mem_cons.2 ⟨ok181, ?_⟩
  refine List.forall_mem_cons.2 ⟨ok182, ?_⟩
  refine List.forall_mem_cons.2 ⟨ok22, ?_⟩
  refine List.forall_mem_cons.2 ⟨ok25, ?_⟩
  refine List.forall_mem_cons.2 ⟨ok33, ?_⟩
  refine List.forall_mem_cons.2 ⟨ok34, ?_⟩
  refine List.forall_mem_cons.2 ⟨ok35, ?_⟩
  refine List.forall_mem_cons.2 ⟨ok36, ?_⟩
  refine List.forall_mem_cons.2 ⟨ok37, ?_⟩
  refine List.forall_mem_cons.2 ⟨ok42, ?_⟩
  refine List.forall_mem_cons.2 ⟨ok68, ?_⟩
  refine List.forall_mem_cons.2 ⟨ok69, ?_⟩
  refine List.forall_mem_cons.2 ⟨ok72, ?_⟩
  refine List.forall_mem_cons.2 ⟨ok88, ?_⟩
  refine List.forall_mem_cons.2 ⟨ok101, ?_⟩
  refine List.forall_mem_cons.2 ⟨ok109, ?_⟩
  refine List.forall_mem_cons.2 ⟨ok2, ?_⟩
  refine List.forall_mem_cons.2 ⟨ok5, ?_⟩
  refine List.forall_mem_cons.2 ⟨ok12, ?_⟩
  refine List.forall_mem_cons.2 ⟨ok21, ?_⟩
  refine List.forall_mem_cons.2 ⟨ok30, ?_⟩
  refine List.forall_mem_cons.2 ⟨ok87, ?_⟩
  refine List.forall_mem_cons.2 ⟨ok105, ?_⟩
  refine List.forall_mem_cons.2 ⟨ok122, ?_⟩
  refine List.forall_mem_cons.2 ⟨ok158, ?_⟩
  refine List.forall_mem_cons.2 ⟨ok173, ?_⟩
  refine List.forall_mem_cons.2 ⟨ok175, ?_⟩
  intro e h; cases h
def seatG : List GE := []
/-- The table of powers of ten is as laid, and the library's bound on lengths is some int. -/
def seatI (w : World) (F : Nat → Prop) : Prop := (F 1 ∧ Lib.TabIs Tryz.prog w "internal/strconv.uint64pow10" .u64 Lib.pow10Tab) ∧ (F 0 ∧ ∃ m : Int, w.cell? ⟨0, 0, none⟩ = some (.int .i64 m))
theorem seatI_mono : ∀ (w w' : World) (F F' : Nat → Prop), (∀ b, F b → F' b) → (∀ b, F b → w'.heap[b]? = w.heap[b]?) → seatI w F → seatI w' F' := by
  rintro w w' F F' hF hw ⟨h1, h2⟩
  refine ⟨?_, ?_⟩
  · obtain ⟨a, b⟩ := h1
    have hg : Program.globalNamed Tryz.prog "internal/strconv.uint64pow10" = some 1 := by kernel_rfl
    refine ⟨hF _ a, ?_⟩
    unfold Lib.TabIs World.var? at b ⊢
    rw [hg] at b ⊢
    simp only [Option.bind_some] at b ⊢
    rw [hw _ a]
    exact b
  · obtain ⟨a, m, b⟩ := h2
    exact ⟨hF _ a, m, by rw [World.cell?_of_block (hw _ a)]; exact b⟩
theorem seatM : Tryz.prog.follows .mixedOrders = true := by kernel_rfl
noncomputable def E : Env := { P := Tryz.prog, T := seatT, G := seatG, hT := seatT_ok, hM := seatM, I := seatI, hI := seatI_mono }
theorem b2 : HasBody E 2 := by intro args w; dsimp only [E]; exact Tryz.call2 args w
theorem b3 : HasBody E 3 := by intro args w; dsimp only [E]; exact Tryz.call3 args w
theorem b4 : HasBody E 4 := by intro args w; dsimp only [E]; exact Tryz.call4 args w
theorem b5 : HasBody E 5 := by intro args w; dsimp only [E]; exact Tryz.call5 args w
theorem b6 : HasBody E 6 := by intro args w; dsimp only [E]; exact Tryz.call6 args w
theorem b7 : HasBody E 7 := by intro args w; dsimp only [E]; exact Tryz.call7 args w
theorem b8 : HasBody E 8 := by intro args w; dsimp only [E]; exact Tryz.call8 args w
theorem b9 : HasBody E 9 := by intro args w; dsimp only [E]; exact Tryz.call9 args w
theorem b10 : HasBody E 10 := by intro args w; dsimp only [E]; exact Tryz.call10 args w
theorem b11 : HasBody E 11 := by intro args w; dsimp only [E]; exact Tryz.call11 args w
theorem b12 : HasBody E 12 := by intro args w; dsimp only [E]; exact Tryz.call12 args w
theorem b13 : HasBody E 13 := by intro args w; dsimp only [E]; exact Tryz.call13 args w
theorem b14 : HasBody E 14 := by intro args w; dsimp only [E]; exact Tryz.call14 args w
theorem b15 : HasBody E 15 := by intro args w; dsimp only [E]; exact Tryz.call15 args w
theorem b16 : HasBody E 16 := by intro args w; dsimp only [E]; exact Tryz.call16 args w
theorem b17 : HasBody E 17 := by intro args w; dsimp only [E]; exact Tryz.call17 args w
theorem b18 : HasBody E 18 := by intro args w; dsimp only [E]; exact Tryz.call18 args w
theorem b19 : HasBody E 19 := by intro args w; dsimp only [E]; exact Tryz.call19 args w
theorem b20 : HasBody E 20 := by intro args w; dsimp only [E]; exact Tryz.call20 args w
theorem b21 : HasBody E 21 := by intro args w; dsimp only [E]; exact Tryz.call21 args w
theorem b22 : HasBody E 22 := by intro args w; dsimp only [E]; exact Tryz.call22 args w
theorem b23 : HasBody E 23 := by intro args w; dsimp only [E]; exact Tryz.call23 args w
theorem b24 : HasBody E 24 := by intro args w; dsimp only [E]; exact Tryz.call24 args w
theorem b25 : HasBody E 25 := by intro args w; dsimp only [E]; exact Tryz.call25 args w
theorem b26 : HasBody E 26 := by intro args w; dsimp only [E]; exact Tryz.call26 args w
theorem b27 : HasBody E 27 := by intro args w; dsimp only [E]; exact Tryz.call27 args w
theorem b28 : HasBody E 28 := by intro args w; dsimp only [E]; exact Tryz.call28 args w
theorem b29 : HasBody E 29 := by intro args w; dsimp only [E]; exact Tryz.call29 args w
theorem b30 : HasBody E 30 := by intro args w; dsimp only [E]; exact Tryz.call30 args w
theorem b31 : HasBody E 31 := by intro args w; dsimp only [E]; exact Tryz.call31 args w
theorem b32 : HasBody E 32 := by intro args w; dsimp only [E]; exact Tryz.call32 args w
theorem b33 : HasBody E 33 := by intro args w; dsimp only [E]; exact Tryz.call33 args w
theorem b34 : HasBody E 34 := by intro args w; dsimp only [E]; exact Tryz.call34 args w
theorem b35 : HasBody E 35 := by intro args w; dsimp only [E]; exact Tryz.call35 args w
theorem b36 : HasBody E 36 := by intro args w; dsimp only [E]; exact Tryz.call36 args w
theorem b37 : HasBody E 37 := by intro args w; dsimp only [E]; exact Tryz.call37 args w
theorem b38 : HasBody E 38 := by intro args w; dsimp only [E]; exact Tryz.call38 args w
theorem b39 : HasBody E 39 := by intro args w; dsimp only [E]; exact Tryz.call39 args w
theorem b40 : HasBody E 40 := by intro args w; dsimp only [E]; exact Tryz.call40 args w
theorem b41 : HasBody E 41 := by intro args w; dsimp only [E]; exact Tryz.call41 args w
theorem b42 : HasBody E 42 := by intro args w; dsimp only [E]; exact Tryz.call42 args w
theorem b43 : HasBody E 43 := by intro args w; dsimp only [E]; exact Tryz.call43 args w
theorem b44 : HasBody E 44 := by intro args w; dsimp only [E]; exact Tryz.call44 args w
theorem b45 : HasBody E 45 := by intro args w; dsimp only [E]; exact Tryz.call45 args w
theorem b46 : HasBody E 46 := by intro args w; dsimp only [E]; exact Tryz.call46 args w
theorem b47 : HasBody E 47 := by intro args w; dsimp only [E]; exact Tryz.call47 args w
theorem b48 : HasBody E 48 := by intro args w; dsimp only [E]; exact Tryz.call48 args w
theorem b49 : HasBody E 49 := by intro args w; dsimp only [E]; exact Tryz.call49 args w
theorem b50 : HasBody E 50 := by intro args w; dsimp only [E]; exact Tryz.call50 args w
theorem b51 : HasBody E 51 := by intro args w; dsimp only [E]; exact Tryz.call51 args w
theorem b52 : HasBody E 52 := by intro args w; dsimp only [E]; exact Tryz.call52 args w
theorem b53 : HasBody E 53 := by intro args w; dsimp only [E]; exact Tryz.call53 args w
theorem b54 : HasBody E 54 := by intro args w; dsimp only [E]; exact Tryz.call54 args w
theorem b55 : HasBody E 55 := by intro args w; dsimp only [E]; exact Tryz.call55 args w
theorem b56 : HasBody E 56 := by intro args w; dsimp only [E]; exact Tryz.call56 args w
theorem b57 : HasBody E 57 := by intro args w; dsimp only [E]; exact Tryz.call57 args w
theorem b58 : HasBody E 58 := by intro args w; dsimp only [E]; exact Tryz.call58 args w
theorem b59 : HasBody E 59 := by intro args w; dsimp only [E]; exact Tryz.call59 args w
theorem b60 : HasBody E 60 := by intro args w; dsimp only [E]; exact Tryz.call60 args w
theorem b61 : HasBody E 61 := by intro args w; dsimp only [E]; exact Tryz.call61 args w
theorem b62 : HasBody E 62 := by intro args w; dsimp only [E]; exact Tryz.call62 args w
theorem b63 : HasBody E 63 := by intro args w; dsimp only [E]; exact Tryz.call63 args w
theorem b64 : HasBody E 64 := by intro args w; dsimp only [E]; exact Tryz.call64 args w
theorem b65 : HasBody E 65 := by intro args w; dsimp only [E]; exact Tryz.call65 args w
theorem b66 : HasBody E 66 := by intro args w; dsimp only [E]; exact Tryz.call66 args w
theorem b67 : HasBody E 67 := by intro args w; dsimp only [E]; exact Tryz.call67 args w
theorem b68 : HasBody E 68 := by intro args w; dsimp only [E]; exact Tryz.call68 args w
theorem b69 : HasBody E 69 := by intro args w; dsimp only [E]; exact Tryz.call69 args w
theorem b70 : HasBody E 70 := by intro args w; dsimp only [E]; exact Tryz.call70 args w
theorem b71 : HasBody E 71 := by intro args w; dsimp only [E]; exact Tryz.call71 args w
theorem b72 : HasBody E 72 := by intro args w; dsimp only [E]; exact Tryz.call72 args w
theorem b73 : HasBody E 73 := by intro args w; dsimp only [E]; exact Tryz.call73 args w
theorem b74 : HasBody E 74 := by intro args w; dsimp only [E]; exact Tryz.call74 args w
theorem b75 : HasBody E 75 := by intro args w; dsimp only [E]; exact Tryz.call75 args w
theorem b76 : HasBody E 76 := by intro args w; dsimp only [E]; exact Tryz.call76 args w
theorem b77 : HasBody E 77 := by intro args w; dsimp only [E]; exact Tryz.call77 args w
theorem b78 : HasBody E 78 := by intro args w; dsimp only [E]; exact Tryz.call78 args w
theorem b79 : HasBody E 79 := by intro args w; dsimp only [E]; exact Tryz.call79 args w
theorem b80 : HasBody E 80 := by intro args w; dsimp only [E]; exact Tryz.call80 args w
theorem b81 : HasBody E 81 := by intro args w; dsimp only [E]; exact Tryz.call81 args w
theorem b82 : HasBody E 82 := by intro args w; dsimp only [E]; exact Tryz.call82 args w
theorem b83 : HasBody E 83 := by intro args w; dsimp only [E]; exact Tryz.call83 args w
theorem b84 : HasBody E 84 := by intro args w; dsimp only [E]; exact Tryz.call84 args w
theorem b85 : HasBody E 85 := by intro args w; dsimp only [E]; exact Tryz.call85 args w
theorem b86 : HasBody E 86 := by intro args w; dsimp only [E]; exact Tryz.call86 args w
theorem b87 : HasBody E 87 := by intro args w; dsimp only [E]; exact Tryz.call87 args w
theorem b88 : HasBody E 88 := by intro args w; dsimp only [E]; exact Tryz.call88 args w
theorem b89 : HasBody E 89 := by intro args w; dsimp only [E]; exact Tryz.call89 args w
theorem b90 : HasBody E 90 := by intro args w; dsimp only [E]; exact Tryz.call90 args w
theorem b91 : HasBody E 91 := by intro args w; dsimp only [E]; exact Tryz.call91 args w
theorem b92 : HasBody E 92 := by intro args w; dsimp only [E]; exact Tryz.call92 args w
theorem b93 : HasBody E 93 := by intro args w; dsimp only [E]; exact Tryz.call93 args w
theorem b94 : HasBody E 94 := by intro args w; dsimp only [E]; exact Tryz.call94 args w
theorem b95 : HasBody E 95 := by intro args w; dsimp only [E]; exact Tryz.call95 args w
theorem b96 : HasBody E 96 := by intro args w; dsimp only [E]; exact Tryz.call96 args w
theorem b97 : HasBody E 97 := by intro args w; dsimp only [E]; exact Tryz.call97 args w
theorem b98 : HasBody E 98 := by intro args w; dsimp only [E]; exact Tryz.call98 args w
theorem b99 : HasBody E 99 := by intro args w; dsimp only [E]; exact Tryz.call99 args w
theorem b100 : HasBody E 100 := by intro args w; dsimp only [E]; exact Tryz.call100 args w
theorem b101 : HasBody E 101 := by intro args w; dsimp only [E]; exact Tryz.call101 args w
theorem b102 : HasBody E 102 := by intro args w; dsimp only [E]; exact Tryz.call102 args w
theorem b103 : HasBody E 103 := by intro args w; dsimp only [E]; exact Tryz.call103 args w
theorem b104 : HasBody E 104 := by intro args w; dsimp only [E]; exact Tryz.call104 args w
theorem b105 : HasBody E 105 := by intro args w; dsimp only [E]; exact Tryz.call105 args w
theorem b106 : HasBody E 106 := by intro args w; dsimp only [E]; exact Tryz.call106 args w
theorem b107 : HasBody E 107 := by intro args w; dsimp only [E]; exact Tryz.call107 args w
theorem b108 : HasBody E 108 := by intro args w; dsimp only [E]; exact Tryz.call108 args w
theorem b109 : HasBody E 109 := by intro args w; dsimp only [E]; exact Tryz.call109 args w
theorem b110 : HasBody E 110 := by intro args w; dsimp only [E]; exact Tryz.call110 args w
theorem b111 : HasBody E 111 := by intro args w; dsimp only [E]; exact Tryz.call111 args w
theorem b112 : HasBody E 112 := by intro args w; dsimp only [E]; exact Tryz.call112 args w
theorem b113 : HasBody E 113 := by intro args w; dsimp only [E]; exact Tryz.call113 args w
theorem b114 : HasBody E 114 := by intro args w; dsimp only [E]; exact Tryz.call114 args w
theorem b115 : HasBody E 115 := by intro args w; dsimp only [E]; exact Tryz.call115 args w
theorem b116 : HasBody E 116 := by intro args w; dsimp only [E]; exact Tryz.call116 args w
theorem b117 : HasBody E 117 := by intro args w; dsimp only [E]; exact Tryz.call117 args w
theorem b118 : HasBody E 118 := by intro args w; dsimp only [E]; exact Tryz.call118 args w
theorem b119 : HasBody E 119 := by intro args w; dsimp only [E]; exact Tryz.call119 args w
theorem b120 : HasBody E 120 := by intro args w; dsimp only [E]; exact Tryz.call120 args w
theorem b121 : HasBody E 121 := by intro args w; dsimp only [E]; exact Tryz.call121 args w
theorem b122 : HasBody E 122 := by intro args w; dsimp only [E]; exact Tryz.call122 args w
theorem b123 : HasBody E 123 := by intro args w; dsimp only [E]; exact Tryz.call123 args w
theorem b124 : HasBody E 124 := by intro args w; dsimp only [E]; exact Tryz.call124 args w
theorem b125 : HasBody E 125 := by intro args w; dsimp only [E]; exact Tryz.call125 args w
theorem b126 : HasBody E 126 := by intro args w; dsimp only [E]; exact Tryz.call126 args w
theorem b127 : HasBody E 127 := by intro args w; dsimp only [E]; exact Tryz.call127 args w
theorem b128 : HasBody E 128 := by intro args w; dsimp only [E]; exact Tryz.call128 args w
theorem b129 : HasBody E 129 := by intro args w; dsimp only [E]; exact Tryz.call129 args w
theorem b130 : HasBody E 130 := by intro args w; dsimp only [E]; exact Tryz.call130 args w
theorem b131 : HasBody E 131 := by intro args w; dsimp only [E]; exact Tryz.call131 args w
theorem b132 : HasBody E 132 := by intro args w; dsimp only [E]; exact Tryz.call132 args w
theorem b133 : HasBody E 133 := by intro args w; dsimp only [E]; exact Tryz.call133 args w
theorem b134 : HasBody E 134 := by intro args w; dsimp only [E]; exact Tryz.call134 args w
theorem b135 : HasBody E 135 := by intro args w; dsimp only [E]; exact Tryz.call135 args w
theorem b136 : HasBody E 136 := by intro args w; dsimp only [E]; exact Tryz.call136 args w
theorem b137 : HasBody E 137 := by intro args w; dsimp only [E]; exact Tryz.call137 args w
theorem b138 : HasBody E 138 := by intro args w; dsimp only [E]; exact Tryz.call138 args w
theorem b139 : HasBody E 139 := by intro args w; dsimp only [E]; exact Tryz.call139 args w
theorem b140 : HasBody E 140 := by intro args w; dsimp only [E]; exact Tryz.call140 args w
theorem b141 : HasBody E 141 := by intro args w; dsimp only [E]; exact Tryz.call141 args w
theorem b144 : HasBody E 144 := by intro args w; dsimp only [E]; exact Tryz.call144 args w
theorem b145 : HasBody E 145 := by intro args w; dsimp only [E]; exact Tryz.call145 args w
theorem b146 : HasBody E 146 := by intro args w; dsimp only [E]; exact Tryz.call146 args w
theorem b147 : HasBody E 147 := by intro args w; dsimp only [E]; exact Tryz.call147 args w
theorem b148 : HasBody E 148 := by intro args w; dsimp only [E]; exact Tryz.call148 args w
theorem b149 : HasBody E 149 := by intro args w; dsimp only [E]; exact Tryz.call149 args w
theorem b150 : HasBody E 150 := by intro args w; dsimp only [E]; exact Tryz.call150 args w
theorem b151 : HasBody E 151 := by intro args w; dsimp only [E]; exact Tryz.call151 args w
theorem b152 : HasBody E 152 := by intro args w; dsimp only [E]; exact Tryz.call152 args w
theorem b153 : HasBody E 153 := by intro args w; dsimp only [E]; exact Tryz.call153 args w
theorem b154 : HasBody E 154 := by intro args w; dsimp only [E]; exact Tryz.call154 args w
theorem b155 : HasBody E 155 := by intro args w; dsimp only [E]; exact Tryz.call155 args w
theorem b156 : HasBody E 156 := by intro args w; dsimp only [E]; exact Tryz.call156 args w
theorem b157 : HasBody E 157 := by intro args w; dsimp only [E]; exact Tryz.call157 args w
theorem b158 : HasBody E 158 := by intro args w; dsimp only [E]; exact Tryz.call158 args w
theorem b159 : HasBody E 159 := by intro args w; dsimp only [E]; exact Tryz.call159 args w
theorem b160 : HasBody E 160 := by intro args w; dsimp only [E]; exact Tryz.call160 args w
theorem b161 : HasBody E 161 := by intro args w; dsimp only [E]; exact Tryz.call161 args w
theorem b162 : HasBody E 162 := by intro args w; dsimp only [E]; exact Tryz.call162 args w
theorem b163 : HasBody E 163 := by intro args w; dsimp only [E]; exact Tryz.call163 args w
theorem b164 : HasBody E 164 := by intro args w; dsimp only [E]; exact Tryz.call164 args w
theorem b165 : HasBody E 165 := by intro args w; dsimp only [E]; exact Tryz.call165 args w
theorem b166 : HasBody E 166 := by intro args w; dsimp only [E]; exact Tryz.call166 args w
theorem b167 : HasBody E 167 := by intro args w; dsimp only [E]; exact Tryz.call167 args w
theorem b168 : HasBody E 168 := by intro args w; dsimp only [E]; exact Tryz.call168 args w
theorem b169 : HasBody E 169 := by intro args w; dsimp only [E]; exact Tryz.call169 args w
theorem b170 : HasBody E 170 := by intro args w; dsimp only [E]; exact Tryz.call170 args w
theorem b171 : HasBody E 171 := by intro args w; dsimp only [E]; exact Tryz.call171 args w
theorem b172 : HasBody E 172 := by intro args w; dsimp only [E]; exact Tryz.call172 args w
theorem b173 : HasBody E 173 := by intro args w; dsimp only [E]; exact Tryz.call173 args w
theorem b174 : HasBody E 174 := by intro args w; dsimp only [E]; exact Tryz.call174 args w
theorem b175 : HasBody E 175 := by intro args w; dsimp only [E]; exact Tryz.call175 args w
theorem b176 : HasBody E 176 := by intro args w; dsimp only [E]; exact Tryz.call176 args w
theorem b177 : HasBody E 177 := by intro args w; dsimp only [E]; exact Tryz.call177 args w
theorem b178 : HasBody E 178 := by intro args w; dsimp only [E]; exact Tryz.call178 args w
theorem b179 : HasBody E 179 := by intro args w; dsimp only [E]; exact Tryz.call179 args w
theorem b180 : HasBody E 180 := by intro args w; dsimp only [E]; exact Tryz.call180 args w
theorem b181 : HasBody E 181 := by intro args w; dsimp only [E]; exact Tryz.call181 args w
theorem b182 : HasBody E 182 := by intro args w; dsimp only [E]; exact Tryz.call182 args w
theorem b183 : HasBody E 183 := by intro args w; dsimp only [E]; exact Tryz.call183 args w
theorem b184 : HasBody E 184 := by intro args w; dsimp only [E]; exact Tryz.call184 args w
theorem b185 : HasBody E 185 := by intro args w; dsimp only [E]; exact Tryz.call185 args w
theorem b186 : HasBody E 186 := by intro args w; dsimp only [E]; exact Tryz.call186 args w
theorem b187 : HasBody E 187 := by intro args w; dsimp only [E]; exact Tryz.call187 args w
theorem b188 : HasBody E 188 := by intro args w; dsimp only [E]; exact Tryz.call188 args w
theorem b189 : HasBody E 189 := by intro args w; dsimp only [E]; exact Tryz.call189 args w
theorem b190 : HasBody E 190 := by intro args w; dsimp only [E]; exact Tryz.call190 args w
theorem b191 : HasBody E 191 := by intro args w; dsimp only [E]; exact Tryz.call191 args w
theorem b193 : HasBody E 193 := by intro args w; dsimp only [E]; exact Tryz.call193 args w
theorem b194 : HasBody E 194 := by intro args w; dsimp only [E]; exact Tryz.call194 args w
theorem b195 : HasBody E 195 := by intro args w; dsimp only [E]; exact Tryz.call195 args w
theorem b196 : HasBody E 196 := by intro args w; dsimp only [E]; exact Tryz.call196 args w
theorem b197 : HasBody E 197 := by intro args w; dsimp only [E]; exact Tryz.call197 args w
theorem b198 : HasBody E 198 := by intro args w; dsimp only [E]; exact Tryz.call198 args w
theorem b199 : HasBody E 199 := by intro args w; dsimp only [E]; exact Tryz.call199 args w
theorem b201 : HasBody E 201 := by intro args w; dsimp only [E]; exact Tryz.call201 args w
theorem b202 : HasBody E 202 := by intro args w; dsimp only [E]; exact Tryz.call202 args w
theorem b204 : HasBody E 204 := by intro args w; dsimp only [E]; exact Tryz.call204 args w
theorem b229 : HasBody E 229 := by intro args w; dsimp only [E]; exact Tryz.call229 args w
end Go.Proofs.YthmhfllamlkjoaaGreatDoor
