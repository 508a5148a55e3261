/- DERIVED: THE SHELF's CONTRACTS AT THIS DUMP, IN PLAIN WORDS (tools/lay-plain.mjs out of 'TryzShelf.lean', which tools/lay-shelf.mjs wrote): THE SAME DECLARATIONS UNDER THE SAME NAMES: 'import', 'namespace', 'open', 'def', 'theorem' AND NOTHING ELSE: no command of the shelf's: FOR A HAND-IN; DERIVED: THE SHELF's CONTRACTS AT THIS DUMP, IN PLAIN WORDS (tools/lay-plain.mjs out of 'TryzIter.lean', which tools/lay-shelf.mjs wrote): THE SAME DECLARATIONS UNDER THE SAME NAMES: 'import', 'namespace', 'open', 'def', 'theorem' AND NOTHING ELSE: no command of the shelf's: FOR A HAND-IN; DERIVED: THE SHEL. Conditions: each part's own, as it says. -/
import Derived.Test.YtkjcalhoffbjlaaGreatDoorGC
import Derived.Shelf.Small.Bits
import Derived.Shelf.Small.Wraps
import Derived.Shelf.Strconv.Itoa0
import Derived.Shelf.Strconv.Itoa1
import Derived.Shelf.LaysM
import Derived.Shelf.Strconv.Itoa2
import Derived.Shelf.Strconv.Itoa3
import Derived.Shelf.Strings.Search1
import Derived.Shelf.Strings.Search2
import Derived.Shelf.Strings.Search3
import Derived.Shelf.Strings.Shaped
import Derived.Shelf.Sort.Plain
import Derived.Shelf.GgClosure.StringsIndexFunc
import Derived.Ground.GgwProg
import Derived.Shelf.GgClosure.StringsIndexFuncTop
import Derived.Shelf.Bits.Mul64
import Derived.Shelf.Strings.FuncGrows
import Derived.Shelf.Slices.Turned
import Derived.Shelf.Slices.Equal
import Derived.Ground.Names2Prog
import Derived.Shelf.Slices.Clone
import Derived.Shelf.Slices.CompactI
import Derived.Shelf.Slices.CompactS
import Derived.Shelf.Slices.SearchI
import Derived.Shelf.Slices.Cells
import Derived.Shelf.Slices.In.SortNone
import Derived.Shelf.Slices.Empties2
import Derived.Ground.SlgnProg
import Derived.Shelf.SlicesE.Clone
import Derived.Ground.SlsfProg
import Derived.Shelf.SlSortCmp.Insertion
import Derived.Shelf.SlSortCmp.SiftDown1
import Derived.Shelf.SlSortCmp.HeapSort1
import Derived.Shelf.SlSortCmp.Insertion1
import Derived.Shelf.SlSortCmp.Median1
import Derived.Shelf.SlSortCmp.Pivot1
import Derived.Shelf.SlSortCmp.ReverseRange1
import Derived.Shelf.SlSortCmp.PartialInsertion1
import Derived.Shelf.SlSortCmp.PartitionEqual1
import Derived.Shelf.SlSortCmp.Partition1
import Derived.Shelf.SlSortCmp.Pdq1
import Derived.Shelf.SlSortCmp.Whole1
import Derived.Test.YtkjcalhoffbjlaaGreatDoorProg
import Derived.Shelf.SlIter.Sorted
import Derived.Ground.GgzProg
import Derived.Shelf.SlIterI.Sorted
set_option linter.unusedVariables false
set_option linter.unusedSimpArgs false
namespace Go.Proofs
open Go.Shelf
def Tryz.lays122_ren : Go.Shelf.Ren := ⟨fun | 122 => 137 | 215 => 218 | n => n, fun | 3 => 3 | 4 => 4 | n => n, fun | n => n⟩
theorem Tryz.lays122 : Go.Proofs.Lays.n122 Tryz.prog Tryz.lays122_ren := {
 mixed := by kernel_rfl
 f122 := Tryz.func137.trans (congrArg some (by kernel_rfl))
 f215 := Tryz.func218.trans (congrArg some (by kernel_rfl))
 t3 := Tryz.underlying3
 a3 := Tryz.isAgg3
 z3 := Tryz.sizeOf3
 v3 := Tryz.zeroValue3
 t4 := Tryz.underlying4
 a4 := Tryz.isAgg4
 z4 := Tryz.sizeOf4
 v4 := Tryz.zeroValue4 }
open Go.RowKit in
theorem Tryz.cmp_Compare_int (x y : Int) (w : World) :
  Calls Tryz.prog 137 #[.int .i64 x, .int .i64 y] w fun e w' => e = .returned (.int .i64 (Lib.compareInt x y)) ∧ w' = w := Any.cmp_Compare_int Tryz.lays122 x y w
def Tryz.laysM171_ren : Go.Shelf.Ren := ⟨fun | 171 => 156 | 243 => 231 | 246 => 295 | 283 => 335 | 284 => 336 | 285 => 337 | 286 => 338 | 129 => 217 | 317 => 357 | 318 => 358 | 319 => 359 | 320 => 360 | 337 => 364 | 338 => 365 | n => n, fun | 3 => 3 | 9 => 9 | 2 => 2 | 4 => 4 | 171 => 309 | 0 => 0 | 53 => 237 | 37 => 285 | 5 => 5 | 173 => 311 | 212 => 325 | 51 => 235 | 20 => 20 | 213 => 326 | 46 => 184 | 232 => 329 | 233 => 330 | n => n, fun | 17 => 2 | 18 => 3 | 19 => 4 | n => n⟩
theorem Tryz.laysM171 : Go.Proofs.LaysM.n171 Tryz.prog Tryz.laysM171_ren := {
 mixed := by kernel_rfl
 f129 := Tryz.func217.trans (congrArg some (by kernel_rfl))
 f171 := Tryz.func156.trans (congrArg some (by kernel_rfl))
 f243 := Tryz.func231.trans (congrArg some (by kernel_rfl))
 f246 := Tryz.func295.trans (congrArg some (by kernel_rfl))
 f283 := Tryz.func335.trans (congrArg some (by kernel_rfl))
 f284 := Tryz.func336.trans (congrArg some (by kernel_rfl))
 f285 := Tryz.func337.trans (congrArg some (by kernel_rfl))
 f286 := Tryz.func338.trans (congrArg some (by kernel_rfl))
 f317 := Tryz.func357.trans (congrArg some (by kernel_rfl))
 f318 := Tryz.func358.trans (congrArg some (by kernel_rfl))
 f319 := Tryz.func359.trans (congrArg some (by kernel_rfl))
 f320 := Tryz.func360.trans (congrArg some (by kernel_rfl))
 f337 := Tryz.func364.trans (congrArg some (by kernel_rfl))
 f338 := Tryz.func365.trans (congrArg some (by kernel_rfl))
 t0 := Tryz.underlying0
 a0 := Tryz.isAgg0
 z0 := Tryz.sizeOf0
 v0 := Tryz.zeroValue0
 t2 := Tryz.underlying2
 a2 := Tryz.isAgg2
 z2 := Tryz.sizeOf2
 v2 := Tryz.zeroValue2
 t3 := Tryz.underlying3
 a3 := Tryz.isAgg3
 z3 := Tryz.sizeOf3
 v3 := Tryz.zeroValue3
 t4 := Tryz.underlying4
 a4 := Tryz.isAgg4
 z4 := Tryz.sizeOf4
 v4 := Tryz.zeroValue4
 t5 := Tryz.underlying5
 a5 := Tryz.isAgg5
 z5 := Tryz.sizeOf5
 v5 := Tryz.zeroValue5
 t9 := Tryz.underlying9
 a9 := Tryz.isAgg9
 z9 := Tryz.sizeOf9
 v9 := Tryz.zeroValue9
 t20 := Tryz.underlying20
 a20 := Tryz.isAgg20
 z20 := Tryz.sizeOf20
 v20 := Tryz.zeroValue20
 t37 := Tryz.underlying285
 a37 := Tryz.isAgg285
 z37 := Tryz.sizeOf285
 v37 := Tryz.zeroValue285
 t46 := Tryz.underlying184
 a46 := Tryz.isAgg184
 z46 := Tryz.sizeOf184
 v46 := Tryz.zeroValue184
 t51 := Tryz.underlying235
 a51 := Tryz.isAgg235
 z51 := Tryz.sizeOf235
 v51 := Tryz.zeroValue235
 t53 := Tryz.underlying237
 a53 := Tryz.isAgg237
 z53 := Tryz.sizeOf237
 v53 := Tryz.zeroValue237
 t171 := Tryz.underlying309
 a171 := Tryz.isAgg309
 z171 := Tryz.sizeOf309
 v171 := Tryz.zeroValue309
 t173 := Tryz.underlying311
 a173 := Tryz.isAgg311
 z173 := Tryz.sizeOf311
 v173 := Tryz.zeroValue311
 t212 := Tryz.underlying325
 a212 := Tryz.isAgg325
 z212 := Tryz.sizeOf325
 v212 := Tryz.zeroValue325
 t213 := Tryz.underlying326
 a213 := Tryz.isAgg326
 z213 := Tryz.sizeOf326
 t232 := Tryz.underlying329
 a232 := Tryz.isAgg329
 z232 := Tryz.sizeOf329
 v232 := Tryz.zeroValue329
 t233 := Tryz.underlying330
 a233 := Tryz.isAgg330
 z233 := Tryz.sizeOf330
 v233 := Tryz.zeroValue330
 g17 := by kernel_rfl
 g18 := by kernel_rfl
 g19 := by kernel_rfl
 i0 := by kernel_rfl
 i2 := by kernel_rfl
 i3 := by kernel_rfl
 i4 := by kernel_rfl
 i5 := by kernel_rfl
 i9 := by kernel_rfl
 i20 := by kernel_rfl
 i37 := by kernel_rfl
 i46 := by kernel_rfl
 i51 := by kernel_rfl
 i53 := by kernel_rfl
 i171 := by kernel_rfl
 i173 := by kernel_rfl
 i212 := by kernel_rfl
 i232 := by kernel_rfl
 i233 := by kernel_rfl
 m17 := by kernel_rfl
 m18 := by kernel_rfl
 m19 := by kernel_rfl }
open Go.RowKit Go.Sort Go.Lib in
theorem Tryz.strconv_Itoa (n : Int) (h0 : -9223372036854775808 ≤ n) (h1 : n ≤ 9223372036854775807) (w : World) (htab : Lib.TabIs Tryz.prog w "internal/strconv.uint64pow10" .u64 Lib.pow10Tab) :
  Calls Tryz.prog 156 #[.int .i64 n] w fun e w' => e = .returned (.string ⟨(Lib.itoa n).toArray⟩) ∧ ∃ k os, w' = grow (w.drewN k) os := Any.strconv_Itoa Tryz.laysM171 n h0 h1 w htab
def Tryz.lays144_ren : Go.Shelf.Ren := ⟨fun | 144 => 224 | 143 => 291 | 219 => 334 | 217 => 353 | 225 => 354 | 224 => 355 | 267 => 356 | 266 => 362 | 314 => 363 | n => n, fun | 9 => 9 | 4 => 4 | 3 => 3 | 5 => 5 | 46 => 184 | 146 => 327 | 51 => 235 | n => n, fun | 1 => 1 | n => n⟩
theorem Tryz.lays144 : Go.Proofs.Lays.n144 Tryz.prog Tryz.lays144_ren := {
 mixed := by kernel_rfl
 f143 := Tryz.func291.trans (congrArg some (by kernel_rfl))
 f144 := Tryz.func224.trans (congrArg some (by kernel_rfl))
 f217 := Tryz.func353.trans (congrArg some (by kernel_rfl))
 f219 := Tryz.func334.trans (congrArg some (by kernel_rfl))
 f224 := Tryz.func355.trans (congrArg some (by kernel_rfl))
 f225 := Tryz.func354.trans (congrArg some (by kernel_rfl))
 f266 := Tryz.func362.trans (congrArg some (by kernel_rfl))
 f267 := Tryz.func356.trans (congrArg some (by kernel_rfl))
 f314 := Tryz.func363.trans (congrArg some (by kernel_rfl))
 t3 := Tryz.underlying3
 a3 := Tryz.isAgg3
 z3 := Tryz.sizeOf3
 v3 := Tryz.zeroValue3
 t4 := Tryz.underlying4
 a4 := Tryz.isAgg4
 z4 := Tryz.sizeOf4
 v4 := Tryz.zeroValue4
 t5 := Tryz.underlying5
 a5 := Tryz.isAgg5
 z5 := Tryz.sizeOf5
 v5 := Tryz.zeroValue5
 t9 := Tryz.underlying9
 a9 := Tryz.isAgg9
 z9 := Tryz.sizeOf9
 v9 := Tryz.zeroValue9
 t46 := Tryz.underlying184
 a46 := Tryz.isAgg184
 z46 := Tryz.sizeOf184
 v46 := Tryz.zeroValue184
 t51 := Tryz.underlying235
 a51 := Tryz.isAgg235
 z51 := Tryz.sizeOf235
 v51 := Tryz.zeroValue235
 t146 := Tryz.underlying327
 a146 := Tryz.isAgg327
 z146 := Tryz.sizeOf327
 v146 := Tryz.zeroValue327
 g1 := by kernel_rfl }
open Go.RowKit Go.Lib in
theorem Tryz.strings_Contains (s sub : ByteArray) (m : Int) (w : World) (hs : s.size < 4294967281) (hm : w.cell? ⟨1, 0, none⟩ = some (.int .i64 m)) :
  Calls Tryz.prog 224 #[.string s, .string sub] w fun e w' => e = .returned (.bool (Lib.contains s.data.toList sub.data.toList)) ∧ w' = w := Any.strings_Contains Tryz.lays144 s sub m w hs hm
def Tryz.lays189_ren : Go.Shelf.Ren := ⟨fun | 189 => 109 | 125 => 136 | 257 => 190 | 128 => 216 | 129 => 217 | 294 => 255 | 295 => 256 | 296 => 257 | 297 => 258 | 298 => 259 | 299 => 260 | 216 => 261 | 300 => 262 | 301 => 263 | 328 => 318 | 329 => 282 | 330 => 283 | 331 => 319 | 332 => 320 | 215 => 218 | 343 => 344 | n => n, fun | 28 => 36 | 3 => 3 | 46 => 184 | 0 => 0 | 51 => 235 | 53 => 237 | 4 => 4 | 183 => 229 | 182 => 228 | 131 => 223 | 5 => 5 | 9 => 9 | 218 => 277 | 222 => 281 | 228 => 307 | 229 => 286 | n => n, fun | n => n⟩
theorem Tryz.lays189 : Go.Proofs.Lays.n189 Tryz.prog Tryz.lays189_ren := {
 mixed := by kernel_rfl
 f125 := Tryz.func136.trans (congrArg some (by kernel_rfl))
 f128 := Tryz.func216.trans (congrArg some (by kernel_rfl))
 f129 := Tryz.func217.trans (congrArg some (by kernel_rfl))
 f189 := Tryz.func109.trans (congrArg some (by kernel_rfl))
 f215 := Tryz.func218.trans (congrArg some (by kernel_rfl))
 f216 := Tryz.func261.trans (congrArg some (by kernel_rfl))
 f257 := Tryz.func190.trans (congrArg some (by kernel_rfl))
 f294 := Tryz.func255.trans (congrArg some (by kernel_rfl))
 f295 := Tryz.func256.trans (congrArg some (by kernel_rfl))
 f296 := Tryz.func257.trans (congrArg some (by kernel_rfl))
 f297 := Tryz.func258.trans (congrArg some (by kernel_rfl))
 f298 := Tryz.func259.trans (congrArg some (by kernel_rfl))
 f299 := Tryz.func260.trans (congrArg some (by kernel_rfl))
 f300 := Tryz.func262.trans (congrArg some (by kernel_rfl))
 f301 := Tryz.func263.trans (congrArg some (by kernel_rfl))
 f328 := Tryz.func318.trans (congrArg some (by kernel_rfl))
 f329 := Tryz.func282.trans (congrArg some (by kernel_rfl))
 f330 := Tryz.func283.trans (congrArg some (by kernel_rfl))
 f331 := Tryz.func319.trans (congrArg some (by kernel_rfl))
 f332 := Tryz.func320.trans (congrArg some (by kernel_rfl))
 f343 := Tryz.func344.trans (congrArg some (by kernel_rfl))
 t0 := Tryz.underlying0
 a0 := Tryz.isAgg0
 z0 := Tryz.sizeOf0
 v0 := Tryz.zeroValue0
 t3 := Tryz.underlying3
 a3 := Tryz.isAgg3
 z3 := Tryz.sizeOf3
 v3 := Tryz.zeroValue3
 t4 := Tryz.underlying4
 a4 := Tryz.isAgg4
 z4 := Tryz.sizeOf4
 v4 := Tryz.zeroValue4
 t5 := Tryz.underlying5
 a5 := Tryz.isAgg5
 z5 := Tryz.sizeOf5
 v5 := Tryz.zeroValue5
 t9 := Tryz.underlying9
 a9 := Tryz.isAgg9
 z9 := Tryz.sizeOf9
 v9 := Tryz.zeroValue9
 t28 := Tryz.underlying36
 a28 := Tryz.isAgg36
 z28 := Tryz.sizeOf36
 v28 := Tryz.zeroValue36
 t46 := Tryz.underlying184
 a46 := Tryz.isAgg184
 z46 := Tryz.sizeOf184
 v46 := Tryz.zeroValue184
 t51 := Tryz.underlying235
 a51 := Tryz.isAgg235
 z51 := Tryz.sizeOf235
 v51 := Tryz.zeroValue235
 t53 := Tryz.underlying237
 a53 := Tryz.isAgg237
 z53 := Tryz.sizeOf237
 v53 := Tryz.zeroValue237
 t131 := Tryz.underlying223
 a131 := Tryz.isAgg223
 z131 := Tryz.sizeOf223
 v131 := Tryz.zeroValue223
 t182 := Tryz.underlying228
 a182 := Tryz.isAgg228
 z182 := Tryz.sizeOf228
 v182 := Tryz.zeroValue228
 t183 := Tryz.underlying229
 a183 := Tryz.isAgg229
 z183 := Tryz.sizeOf229
 v183 := Tryz.zeroValue229
 t218 := Tryz.underlying277
 a218 := Tryz.isAgg277
 z218 := Tryz.sizeOf277
 v218 := Tryz.zeroValue277
 t222 := Tryz.underlying281
 a222 := Tryz.isAgg281
 z222 := Tryz.sizeOf281
 v222 := Tryz.zeroValue281
 t228 := Tryz.underlying307
 a228 := Tryz.isAgg307
 z228 := Tryz.sizeOf307
 v228 := Tryz.zeroValue307
 t229 := Tryz.underlying286
 a229 := Tryz.isAgg286
 z229 := Tryz.sizeOf286
 v229 := Tryz.zeroValue286 }
open Go.Sort Go.RowKit in
theorem Tryz.slices_Sort_int (blk off cap : Nat) (zs : List Int) (w : World) (hH : Holds (Value.int .i64) w blk off zs.toArray) (hblk : blk < w.heap.size) (hsz : zs.length < 4611686018427387904) :
  Calls Tryz.prog 109 #[.slice (some ⟨blk, off, none⟩) zs.length cap] w fun e w' =>
   e = .returned (.tuple #[]) ∧ ∃ n os, w' = grow (putRow (Value.int .i64) (Sort.ahead w n) blk off (zs.mergeSort fun x y => decide (x ≤ y)).toArray) os := Any.slices_Sort_int Tryz.lays189 blk off cap zs w hH hblk hsz
def Tryz.lays190_ren : Go.Shelf.Ren := ⟨fun | 190 => 116 | 125 => 136 | 258 => 197 | 128 => 216 | 129 => 217 | 302 => 269 | 303 => 270 | 304 => 271 | 305 => 272 | 306 => 273 | 307 => 274 | 308 => 275 | 309 => 276 | 310 => 277 | 333 => 329 | 329 => 282 | 330 => 283 | 334 => 330 | 335 => 331 | 336 => 268 | 344 => 352 | n => n, fun | 31 => 25 | 9 => 9 | 3 => 3 | 46 => 184 | 0 => 0 | 51 => 235 | 53 => 237 | 4 => 4 | 183 => 229 | 182 => 228 | 131 => 223 | 5 => 5 | 218 => 277 | 222 => 281 | 228 => 307 | 229 => 286 | n => n, fun | n => n⟩
theorem Tryz.lays190 : Go.Proofs.Lays.n190 Tryz.prog Tryz.lays190_ren := {
 mixed := by kernel_rfl
 f125 := Tryz.func136.trans (congrArg some (by kernel_rfl))
 f128 := Tryz.func216.trans (congrArg some (by kernel_rfl))
 f129 := Tryz.func217.trans (congrArg some (by kernel_rfl))
 f190 := Tryz.func116.trans (congrArg some (by kernel_rfl))
 f258 := Tryz.func197.trans (congrArg some (by kernel_rfl))
 f302 := Tryz.func269.trans (congrArg some (by kernel_rfl))
 f303 := Tryz.func270.trans (congrArg some (by kernel_rfl))
 f304 := Tryz.func271.trans (congrArg some (by kernel_rfl))
 f305 := Tryz.func272.trans (congrArg some (by kernel_rfl))
 f306 := Tryz.func273.trans (congrArg some (by kernel_rfl))
 f307 := Tryz.func274.trans (congrArg some (by kernel_rfl))
 f308 := Tryz.func275.trans (congrArg some (by kernel_rfl))
 f309 := Tryz.func276.trans (congrArg some (by kernel_rfl))
 f310 := Tryz.func277.trans (congrArg some (by kernel_rfl))
 f329 := Tryz.func282.trans (congrArg some (by kernel_rfl))
 f330 := Tryz.func283.trans (congrArg some (by kernel_rfl))
 f333 := Tryz.func329.trans (congrArg some (by kernel_rfl))
 f334 := Tryz.func330.trans (congrArg some (by kernel_rfl))
 f335 := Tryz.func331.trans (congrArg some (by kernel_rfl))
 f336 := Tryz.func268.trans (congrArg some (by kernel_rfl))
 f344 := Tryz.func352.trans (congrArg some (by kernel_rfl))
 t0 := Tryz.underlying0
 a0 := Tryz.isAgg0
 z0 := Tryz.sizeOf0
 v0 := Tryz.zeroValue0
 t3 := Tryz.underlying3
 a3 := Tryz.isAgg3
 z3 := Tryz.sizeOf3
 v3 := Tryz.zeroValue3
 t4 := Tryz.underlying4
 a4 := Tryz.isAgg4
 z4 := Tryz.sizeOf4
 v4 := Tryz.zeroValue4
 t5 := Tryz.underlying5
 a5 := Tryz.isAgg5
 z5 := Tryz.sizeOf5
 v5 := Tryz.zeroValue5
 t9 := Tryz.underlying9
 a9 := Tryz.isAgg9
 z9 := Tryz.sizeOf9
 v9 := Tryz.zeroValue9
 t31 := Tryz.underlying25
 a31 := Tryz.isAgg25
 z31 := Tryz.sizeOf25
 v31 := Tryz.zeroValue25
 t46 := Tryz.underlying184
 a46 := Tryz.isAgg184
 z46 := Tryz.sizeOf184
 v46 := Tryz.zeroValue184
 t51 := Tryz.underlying235
 a51 := Tryz.isAgg235
 z51 := Tryz.sizeOf235
 v51 := Tryz.zeroValue235
 t53 := Tryz.underlying237
 a53 := Tryz.isAgg237
 z53 := Tryz.sizeOf237
 v53 := Tryz.zeroValue237
 t131 := Tryz.underlying223
 a131 := Tryz.isAgg223
 z131 := Tryz.sizeOf223
 v131 := Tryz.zeroValue223
 t182 := Tryz.underlying228
 a182 := Tryz.isAgg228
 z182 := Tryz.sizeOf228
 v182 := Tryz.zeroValue228
 t183 := Tryz.underlying229
 a183 := Tryz.isAgg229
 z183 := Tryz.sizeOf229
 v183 := Tryz.zeroValue229
 t218 := Tryz.underlying277
 a218 := Tryz.isAgg277
 z218 := Tryz.sizeOf277
 v218 := Tryz.zeroValue277
 t222 := Tryz.underlying281
 a222 := Tryz.isAgg281
 z222 := Tryz.sizeOf281
 v222 := Tryz.zeroValue281
 t228 := Tryz.underlying307
 a228 := Tryz.isAgg307
 z228 := Tryz.sizeOf307
 v228 := Tryz.zeroValue307
 t229 := Tryz.underlying286
 a229 := Tryz.isAgg286
 z229 := Tryz.sizeOf286
 v229 := Tryz.zeroValue286 }
open Go.Sort Go.RowKit in
theorem Tryz.slices_Sort_string (blk off cap : Nat) (ss : List (List UInt8)) (w : World) (hH : Holds encStr w blk off ss.toArray) (hblk : blk < w.heap.size) (hsz : ss.length < 4611686018427387904) :
  Calls Tryz.prog 116 #[.slice (some ⟨blk, off, none⟩) ss.length cap] w fun e w' =>
   e = .returned (.tuple #[]) ∧ ∃ n os, w' = grow (putRow encStr (Sort.ahead w n) blk off (ss.mergeSort fun x y => decide (x ≤ y)).toArray) os := Any.slices_Sort_string Tryz.lays190 blk off cap ss w hH hblk hsz
def Tryz.laysGw15_ren : Go.Shelf.Ren := ⟨fun | 15 => 323 | 20 => 346 | n => n, fun | 9 => 9 | 23 => 299 | 3 => 3 | 4 => 4 | 0 => 0 | 21 => 21 | n => n, fun | n => n⟩
theorem Tryz.laysGw15 : Go.Proofs.LaysGw.n15 Tryz.prog Tryz.laysGw15_ren := {
 mixed := by kernel_rfl
 f15 := Tryz.func323.trans (congrArg some (by kernel_rfl))
 f20 := Tryz.func346.trans (congrArg some (by kernel_rfl))
 t0 := Tryz.underlying0
 a0 := Tryz.isAgg0
 z0 := Tryz.sizeOf0
 v0 := Tryz.zeroValue0
 i0 := by kernel_rfl
 t3 := Tryz.underlying3
 a3 := Tryz.isAgg3
 z3 := Tryz.sizeOf3
 v3 := Tryz.zeroValue3
 i3 := by kernel_rfl
 t4 := Tryz.underlying4
 a4 := Tryz.isAgg4
 z4 := Tryz.sizeOf4
 v4 := Tryz.zeroValue4
 i4 := by kernel_rfl
 t9 := Tryz.underlying9
 a9 := Tryz.isAgg9
 z9 := Tryz.sizeOf9
 v9 := Tryz.zeroValue9
 i9 := by kernel_rfl
 t21 := Tryz.underlying21
 a21 := Tryz.isAgg21
 z21 := Tryz.sizeOf21
 v21 := Tryz.zeroValue21
 i21 := by kernel_rfl
 t23 := Tryz.underlying299
 a23 := Tryz.isAgg299
 z23 := Tryz.sizeOf299
 v23 := Tryz.zeroValue299
 i23 := by kernel_rfl }
open Go.RowKit Go.Lib in
theorem Tryz.strings_IndexFunc (g : Nat) (lb : Array Value) (eg : ∀ args w, (callFunc g args).run Tryz.prog w = .ok (.enter g args) w) (p : Nat → Bool) (s : ByteArray) (w : World) (hp : PredAt Tryz.prog g lb encR p w) :
  Calls Tryz.prog 323 #[.string s, .func (.func g) #[] lb] w fun e w' => e = .returned (.int .i64 (Lib.idxFunc p true s)) ∧ Below w.heap.size w w' := Any.strings_IndexFunc Tryz.laysGw15 g lb eg p s w hp
def Tryz.lays264_ren : Go.Shelf.Ren := ⟨fun | 264 => 347 | n => n, fun | 53 => 237 | 46 => 184 | n => n, fun | n => n⟩
theorem Tryz.lays264 : Go.Proofs.Lays.n264 Tryz.prog Tryz.lays264_ren := {
 mixed := by kernel_rfl
 f264 := Tryz.func347.trans (congrArg some (by kernel_rfl))
 t46 := Tryz.underlying184
 a46 := Tryz.isAgg184
 z46 := Tryz.sizeOf184
 v46 := Tryz.zeroValue184
 t53 := Tryz.underlying237
 a53 := Tryz.isAgg237
 z53 := Tryz.sizeOf237
 v53 := Tryz.zeroValue237 }
open Go.RowKit Go.Lib in
theorem Tryz.bits_Mul64 (x y : Nat) (hx : x < 18446744073709551616) (hy : y < 18446744073709551616) (w : World) :
  Calls Tryz.prog 347 #[.int .u64 x, .int .u64 y] w fun e w' => e = .returned (.tuple #[.int .u64 ((x * y / 18446744073709551616 : Nat) : Int), .int .u64 ((x * y % 18446744073709551616 : Nat) : Int)]) ∧ w' = w := Any.bits_Mul64 Tryz.lays264 x y hx hy w
def Tryz.laysNm220_ren : Go.Shelf.Ren := ⟨fun | 20 => 40 | n => n, fun | 22 => 36 | 3 => 3 | 4 => 4 | 0 => 0 | n => n, fun | n => n⟩
theorem Tryz.laysNm220 : Go.Proofs.Lays2.n20 Tryz.prog Tryz.laysNm220_ren := {
 mixed := by kernel_rfl
 f20 := Tryz.func40.trans (congrArg some (by kernel_rfl))
 t0 := Tryz.underlying0
 a0 := Tryz.isAgg0
 z0 := Tryz.sizeOf0
 v0 := Tryz.zeroValue0
 t3 := Tryz.underlying3
 a3 := Tryz.isAgg3
 z3 := Tryz.sizeOf3
 v3 := Tryz.zeroValue3
 t4 := Tryz.underlying4
 a4 := Tryz.isAgg4
 z4 := Tryz.sizeOf4
 v4 := Tryz.zeroValue4
 t22 := Tryz.underlying36
 a22 := Tryz.isAgg36
 z22 := Tryz.sizeOf36
 v22 := Tryz.zeroValue36
 i3 := by kernel_rfl }
open Go.RowKit Go.Lib Go.Sort in
theorem Tryz.slices_Compact_int (blk off cap : Nat) (zs : List Int) (w : World) (hH : Holds (Value.int .i64) w blk off zs.toArray) (hsz : zs.length ≤ 9223372036854775807) (hcap : zs.length ≤ cap) :
  Calls Tryz.prog 40 #[.slice (some ⟨blk, off, none⟩) zs.length cap] w fun e w' => e = .returned (.slice (some ⟨blk, off, none⟩) (Lib.compact zs).length cap) ∧ ∃ q, w' = putRow (Value.int .i64) (Sort.ahead w q) blk off (Lib.compact zs ++ List.replicate (zs.length - (Lib.compact zs).length) 0).toArray := Any.slices_Compact_int Tryz.laysNm220 blk off cap zs w hH hsz hcap
def Tryz.lays194_ren : Go.Shelf.Ren := ⟨fun | 194 => 48 | n => n, fun | 31 => 25 | 9 => 9 | 3 => 3 | 4 => 4 | 0 => 0 | n => n, fun | n => n⟩
theorem Tryz.lays194 : Go.Proofs.Lays.n194 Tryz.prog Tryz.lays194_ren := {
 mixed := by kernel_rfl
 f194 := Tryz.func48.trans (congrArg some (by kernel_rfl))
 t0 := Tryz.underlying0
 a0 := Tryz.isAgg0
 z0 := Tryz.sizeOf0
 v0 := Tryz.zeroValue0
 t3 := Tryz.underlying3
 a3 := Tryz.isAgg3
 z3 := Tryz.sizeOf3
 v3 := Tryz.zeroValue3
 t4 := Tryz.underlying4
 a4 := Tryz.isAgg4
 z4 := Tryz.sizeOf4
 v4 := Tryz.zeroValue4
 t9 := Tryz.underlying9
 a9 := Tryz.isAgg9
 z9 := Tryz.sizeOf9
 v9 := Tryz.zeroValue9
 t31 := Tryz.underlying25
 a31 := Tryz.isAgg25
 z31 := Tryz.sizeOf25
 v31 := Tryz.zeroValue25 }
open Go.RowKit Go.Lib Go.Sort in
theorem Tryz.slices_Compact_string (blk off cap : Nat) (zs : List (List UInt8)) (w : World) (hH : Holds encStr w blk off zs.toArray) (hsz : zs.length ≤ 9223372036854775807) (hcap : zs.length ≤ cap) :
  Calls Tryz.prog 48 #[.slice (some ⟨blk, off, none⟩) zs.length cap] w fun e w' => e = .returned (.slice (some ⟨blk, off, none⟩) (Lib.compact zs).length cap) ∧ ∃ q, w' = putRow encStr (Sort.ahead w q) blk off (Lib.compact zs ++ List.replicate (zs.length - (Lib.compact zs).length) []).toArray := Any.slices_Compact_string Tryz.lays194 blk off cap zs w hH hsz hcap
open Go.RowKit Go.Sort in
theorem Tryz.slices_Sort_string_none (p : Option Addr) (cap : Nat) (w : World) :
  Calls Tryz.prog 116 #[.slice p 0 cap] w fun e w' => e = .returned (.tuple #[]) ∧ w' = w := Any.slices_Sort_string_none Tryz.lays190 p cap w
open Go.RowKit Go.Sort in
theorem Tryz.slices_Sort_int_none (p : Option Addr) (cap : Nat) (w : World) :
  Calls Tryz.prog 109 #[.slice p 0 cap] w fun e w' => e = .returned (.tuple #[]) ∧ w' = w := Any.slices_Sort_int_none Tryz.lays189 p cap w
def Tryz.sorted58_ren : Go.Shelf.Ren := ⟨fun | 6 => 46 | 8 => 115 | 9 => 116 | 11 => 196 | 13 => 136 | 12 => 197 | 23 => 216 | 24 => 217 | 14 => 269 | 15 => 270 | 16 => 271 | 17 => 272 | 18 => 273 | 19 => 274 | 20 => 275 | 21 => 276 | 22 => 277 | 25 => 329 | 26 => 282 | 27 => 283 | 28 => 330 | 29 => 331 | 30 => 268 | 31 => 352 | n => n, fun | 26 => 9 | 28 => 102 | 24 => 25 | 0 => 0 | 3 => 3 | 37 => 184 | 48 => 235 | 50 => 237 | 4 => 4 | 40 => 229 | 39 => 228 | 45 => 223 | 5 => 5 | 9 => 9 | 51 => 277 | 55 => 281 | 57 => 307 | 58 => 286 | 33 => 142 | n => n, fun | n => n⟩
theorem Tryz.sorted58 : Go.Proofs.SlLaysZ.n6 Tryz.prog Tryz.sorted58_ren := {
 mixed := by kernel_rfl
 f6 := ⟨Tryz.f46.name, by decide, Tryz.func46.trans (congrArg some (by kernel_rfl))⟩
 f8 := ⟨Tryz.f115.name, by decide, Tryz.func115.trans (congrArg some (by kernel_rfl))⟩
 f11 := ⟨Tryz.f196.name, by decide, Tryz.func196.trans (congrArg some (by kernel_rfl))⟩
 t0 := Tryz.underlying0
 a0 := Tryz.isAgg0
 z0 := Tryz.sizeOf0
 v0 := Tryz.zeroValue0
 t24 := Tryz.underlying25
 a24 := Tryz.isAgg25
 z24 := Tryz.sizeOf25
 v24 := Tryz.zeroValue25
 t26 := Tryz.underlying9
 a26 := Tryz.isAgg9
 z26 := Tryz.sizeOf9
 v26 := Tryz.zeroValue9
 t28 := Tryz.underlying102
 a28 := Tryz.isAgg102
 z28 := Tryz.sizeOf102
 v28 := Tryz.zeroValue102
 i26 := by kernel_rfl }
def Tryz.sorted58i_ren : Go.Shelf.Ren := ⟨fun | 6 => 41 | 8 => 108 | 9 => 109 | 11 => 189 | 13 => 136 | 12 => 190 | 23 => 216 | 24 => 217 | 14 => 255 | 15 => 256 | 16 => 257 | 17 => 258 | 18 => 259 | 19 => 260 | 20 => 261 | 21 => 262 | 22 => 263 | 25 => 318 | 26 => 282 | 27 => 283 | 28 => 319 | 29 => 320 | 30 => 218 | 31 => 344 | n => n, fun | 26 => 3 | 28 => 96 | 24 => 36 | 0 => 0 | 3 => 3 | 37 => 184 | 48 => 235 | 50 => 237 | 4 => 4 | 40 => 229 | 39 => 228 | 45 => 223 | 5 => 5 | 9 => 9 | 51 => 277 | 55 => 281 | 57 => 307 | 58 => 286 | 33 => 166 | n => n, fun | n => n⟩
theorem Tryz.sorted58i : Go.Proofs.SlLaysZI.n6 Tryz.prog Tryz.sorted58i_ren := {
 mixed := by kernel_rfl
 f6 := ⟨Tryz.f41.name, by decide, Tryz.func41.trans (congrArg some (by kernel_rfl))⟩
 f8 := ⟨Tryz.f108.name, by decide, Tryz.func108.trans (congrArg some (by kernel_rfl))⟩
 f11 := ⟨Tryz.f189.name, by decide, Tryz.func189.trans (congrArg some (by kernel_rfl))⟩
 t0 := Tryz.underlying0
 a0 := Tryz.isAgg0
 z0 := Tryz.sizeOf0
 v0 := Tryz.zeroValue0
 t24 := Tryz.underlying36
 a24 := Tryz.isAgg36
 z24 := Tryz.sizeOf36
 v24 := Tryz.zeroValue36
 t26 := Tryz.underlying3
 a26 := Tryz.isAgg3
 z26 := Tryz.sizeOf3
 v26 := Tryz.zeroValue3
 t28 := Tryz.underlying96
 a28 := Tryz.isAgg96
 z28 := Tryz.sizeOf96
 v28 := Tryz.zeroValue96
 i26 := by kernel_rfl }
end Go.Proofs
