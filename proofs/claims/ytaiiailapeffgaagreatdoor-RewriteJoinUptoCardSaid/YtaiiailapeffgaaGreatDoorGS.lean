/-
 DERIVED: THE SHELF's CONTRACTS AT THIS DUMP, IN PLAIN WORDS (tools/lay-plain.mjs out of 'TryzShelf.lean', which tools/lay-shelf.mjs wrote): THE SAME DECLARATIONS UNDER THE SAME NAMES: 'import', 'namespace', 'open', 'def', 'theorem' AND NOTHING ELSE: no command of the shelf's: FOR A HAND-IN. Each laying: the table of numbers ('.._ren') and one theorem, a field a fact of the dump's own or the kernel's comparison; each contract: ONE APPLICATION.
-/
import Derived.Test.YtaiiailapeffgaaGreatDoorGC
import Derived.Shelf.Strings.Builder1
import Derived.Shelf.Strings.Builder2
import Derived.Shelf.Strings.OnBuilder
import Derived.Shelf.Small.Bits
import Derived.Shelf.Small.Wraps
import Derived.Shelf.Strconv.Itoa0
import Derived.Shelf.Strconv.Itoa1
import Derived.Shelf.LaysM
import Derived.Shelf.Strconv.Itoa2
import Derived.Shelf.Strconv.Itoa3
import Derived.Shelf.Strings.Search1
import Derived.Shelf.Strings.Search2
import Derived.Shelf.Strings.Search3
import Derived.Shelf.Strings.Count
import Derived.Shelf.Strings.Shaped
import Derived.Shelf.GgClosure.StringsIndexFunc
import Derived.Ground.GgwProg
import Derived.Shelf.GgClosure.StringsIndexFuncTop
import Derived.Shelf.Strings.Split
import Derived.Shelf.Strings.Replace
import Derived.Shelf.Strings.SplitShaped
import Derived.Shelf.Bits.Mul64
import Derived.Shelf.Unicode.DecodeSlow
import Derived.Shelf.Unicode.DecodeAny
import Derived.Shelf.Strings.FuncGrows
import Derived.Shelf.Slices.Turned
import Derived.Shelf.Slices.CompactS
import Derived.Ground.SlgmProg
import Derived.Shelf.SortM.Plain
import Derived.Shelf.SortM.SortNone
import Derived.Test.YtaiiailapeffgaaGreatDoorProg
set_option linter.unusedVariables false
set_option linter.unusedSimpArgs false
namespace Go.Proofs
open Go.Shelf
def Tryz.lays156_ren : Go.Shelf.Ren := ⟨fun | 156 => 262 | 165 => 294 | 166 => 295 | 169 => 297 | 240 => 335 | 241 => 336 | 276 => 357 | 277 => 358 | n => n, fun | 31 => 29 | 9 => 9 | 3 => 3 | 4 => 4 | 0 => 0 | 20 => 20 | 72 => 260 | 76 => 264 | 70 => 258 | 37 => 220 | 75 => 263 | 127 => 295 | 164 => 309 | 5 => 5 | 80 => 268 | n => n, fun | n => n⟩
theorem Tryz.lays156 : Go.Proofs.Lays.n156 Tryz.prog Tryz.lays156_ren := {
 mixed := by kernel_rfl
 f156 := Tryz.func262.trans (congrArg some (by kernel_rfl))
 f165 := Tryz.func294.trans (congrArg some (by kernel_rfl))
 f166 := Tryz.func295.trans (congrArg some (by kernel_rfl))
 f169 := Tryz.func297.trans (congrArg some (by kernel_rfl))
 f240 := Tryz.func335.trans (congrArg some (by kernel_rfl))
 f241 := Tryz.func336.trans (congrArg some (by kernel_rfl))
 f276 := Tryz.func357.trans (congrArg some (by kernel_rfl))
 f277 := Tryz.func358.trans (congrArg some (by kernel_rfl))
 t0 := Tryz.underlying0
 a0 := Tryz.isAgg0
 z0 := Tryz.sizeOf0
 v0 := Tryz.zeroValue0
 t3 := Tryz.underlying3
 a3 := Tryz.isAgg3
 z3 := Tryz.sizeOf3
 v3 := Tryz.zeroValue3
 t4 := Tryz.underlying4
 a4 := Tryz.isAgg4
 z4 := Tryz.sizeOf4
 v4 := Tryz.zeroValue4
 t9 := Tryz.underlying9
 a9 := Tryz.isAgg9
 z9 := Tryz.sizeOf9
 v9 := Tryz.zeroValue9
 t20 := Tryz.underlying20
 a20 := Tryz.isAgg20
 z20 := Tryz.sizeOf20
 v20 := Tryz.zeroValue20
 t31 := Tryz.underlying29
 a31 := Tryz.isAgg29
 z31 := Tryz.sizeOf29
 v31 := Tryz.zeroValue29
 t37 := Tryz.underlying220
 a37 := Tryz.isAgg220
 z37 := Tryz.sizeOf220
 v37 := Tryz.zeroValue220
 t70 := Tryz.underlying258
 a70 := Tryz.isAgg258
 z70 := Tryz.sizeOf258
 v70 := Tryz.zeroValue258
 t72 := Tryz.underlying260
 a72 := Tryz.isAgg260
 z72 := Tryz.sizeOf260
 v72 := Tryz.zeroValue260
 t75 := Tryz.underlying263
 a75 := Tryz.isAgg263
 z75 := Tryz.sizeOf263
 v75 := Tryz.zeroValue263
 t76 := Tryz.underlying264
 a76 := Tryz.isAgg264
 z76 := Tryz.sizeOf264
 v76 := Tryz.zeroValue264
 t127 := Tryz.underlying295
 a127 := Tryz.isAgg295
 z127 := Tryz.sizeOf295
 v127 := Tryz.zeroValue295
 t164 := Tryz.underlying309
 a164 := Tryz.isAgg309
 z164 := Tryz.sizeOf309
 v164 := Tryz.zeroValue309 }
theorem Tryz.Builder_Extra_156 : Builder.Extra Tryz.prog Tryz.lays156_ren := {
 sizeBuilder := by kernel_rfl
 liesBuilder := by kernel_rfl
 t5 := Tryz.underlying5
 a5 := Tryz.isAgg5
 z5 := Tryz.sizeOf5
 v5 := Tryz.zeroValue5
 infoByte := by kernel_rfl
 cellsByte := by kernel_rfl
 sizeByte := by kernel_rfl
 neB5 := by decide }
open Go.RowKit in
theorem Tryz.strings_Join_none (a : Option Addr) (c : Nat) (sep : ByteArray) (w : World) :
  Calls Tryz.prog 262 #[.slice a 0 c, .string sep] w fun e w' => e = .returned (.string ⟨#[]⟩) ∧ w' = w := Any.strings_Join_none Tryz.lays156 Tryz.Builder_Extra_156 a c sep w
open Go.RowKit in
theorem Tryz.strings_Join (bk o c : Nat) (xs : List ByteArray) (sep : ByteArray) (w : World) (hcells : ∀ (j : Nat) x, xs[j]? = some x → w.cell? ⟨bk, o + j, none⟩ = some (.string x)) (hbk : bk < w.heap.size) (hN : xs.length ≤ 140737488355328) (hcap : xs.length ≤ c) (hlen : (Lib.join (xs.map (·.data.toList)) sep.data.toList).length ≤ 140737488355328) :
  Calls Tryz.prog 262 #[.slice (some ⟨bk, o, none⟩) xs.length c, .string sep] w fun e w' => e = .returned (.string ⟨(Lib.join (xs.map (·.data.toList)) sep.data.toList).toArray⟩) ∧ Below w.heap.size w w' := Any.strings_Join Tryz.lays156 Tryz.Builder_Extra_156 bk o c xs sep w hcells hbk hN hcap hlen
def Tryz.lays134_ren : Go.Shelf.Ren := ⟨fun | 134 => 359 | 129 => 326 | n => n, fun | 53 => 271 | 3 => 3 | 4 => 4 | 46 => 253 | 5 => 5 | 9 => 9 | n => n, fun | n => n⟩
theorem Tryz.lays134 : Go.Proofs.Lays.n134 Tryz.prog Tryz.lays134_ren := {
 mixed := by kernel_rfl
 f129 := Tryz.func326.trans (congrArg some (by kernel_rfl))
 f134 := Tryz.func359.trans (congrArg some (by kernel_rfl))
 t3 := Tryz.underlying3
 a3 := Tryz.isAgg3
 z3 := Tryz.sizeOf3
 v3 := Tryz.zeroValue3
 t4 := Tryz.underlying4
 a4 := Tryz.isAgg4
 z4 := Tryz.sizeOf4
 v4 := Tryz.zeroValue4
 t5 := Tryz.underlying5
 a5 := Tryz.isAgg5
 z5 := Tryz.sizeOf5
 v5 := Tryz.zeroValue5
 t9 := Tryz.underlying9
 a9 := Tryz.isAgg9
 z9 := Tryz.sizeOf9
 v9 := Tryz.zeroValue9
 t46 := Tryz.underlying253
 a46 := Tryz.isAgg253
 z46 := Tryz.sizeOf253
 v46 := Tryz.zeroValue253
 t53 := Tryz.underlying271
 a53 := Tryz.isAgg271
 z53 := Tryz.sizeOf271
 v53 := Tryz.zeroValue271 }
theorem Tryz.bits_LeadingZeros64 (x : Int) (w : World) (h0 : 0 ≤ x) (h1 : x ≤ 18446744073709551615) :
  Calls Tryz.prog 359 #[.int .u64 x] w fun e w' => e = .returned (.int .i64 (64 - (Lib.bitLen x.toNat : Int))) ∧ w' = w := Any.bits_LeadingZeros64 Tryz.lays134 x w h0 h1
def Tryz.lays121_ren : Go.Shelf.Ren := ⟨fun | 121 => 195 | 214 => 259 | n => n, fun | 4 => 4 | 9 => 9 | n => n, fun | n => n⟩
theorem Tryz.lays121 : Go.Proofs.Lays.n121 Tryz.prog Tryz.lays121_ren := {
 mixed := by kernel_rfl
 f121 := Tryz.func195.trans (congrArg some (by kernel_rfl))
 f214 := Tryz.func259.trans (congrArg some (by kernel_rfl))
 t4 := Tryz.underlying4
 a4 := Tryz.isAgg4
 z4 := Tryz.sizeOf4
 v4 := Tryz.zeroValue4
 t9 := Tryz.underlying9
 a9 := Tryz.isAgg9
 z9 := Tryz.sizeOf9
 v9 := Tryz.zeroValue9 }
open Go.RowKit in
theorem Tryz.strconv_FormatBool (b : Bool) (w : World) :
  Calls Tryz.prog 195 #[.bool b] w fun e w' => e = .returned (.string ⟨(Lib.formatBool b).toArray⟩) ∧ w' = w := Any.strconv_FormatBool Tryz.lays121 b w
def Tryz.laysM171_ren : Go.Shelf.Ren := ⟨fun | 171 => 196 | 243 => 260 | 246 => 292 | 283 => 329 | 284 => 330 | 285 => 331 | 286 => 332 | 129 => 326 | 317 => 353 | 318 => 354 | 319 => 355 | 320 => 356 | 337 => 363 | 338 => 364 | n => n, fun | 3 => 3 | 9 => 9 | 2 => 2 | 4 => 4 | 171 => 289 | 0 => 0 | 53 => 271 | 37 => 220 | 5 => 5 | 173 => 291 | 212 => 307 | 51 => 287 | 20 => 20 | 213 => 308 | 46 => 253 | 232 => 320 | 233 => 321 | n => n, fun | 17 => 2 | 18 => 7 | 19 => 8 | n => n⟩
theorem Tryz.laysM171 : Go.Proofs.LaysM.n171 Tryz.prog Tryz.laysM171_ren := {
 mixed := by kernel_rfl
 f129 := Tryz.func326.trans (congrArg some (by kernel_rfl))
 f171 := Tryz.func196.trans (congrArg some (by kernel_rfl))
 f243 := Tryz.func260.trans (congrArg some (by kernel_rfl))
 f246 := Tryz.func292.trans (congrArg some (by kernel_rfl))
 f283 := Tryz.func329.trans (congrArg some (by kernel_rfl))
 f284 := Tryz.func330.trans (congrArg some (by kernel_rfl))
 f285 := Tryz.func331.trans (congrArg some (by kernel_rfl))
 f286 := Tryz.func332.trans (congrArg some (by kernel_rfl))
 f317 := Tryz.func353.trans (congrArg some (by kernel_rfl))
 f318 := Tryz.func354.trans (congrArg some (by kernel_rfl))
 f319 := Tryz.func355.trans (congrArg some (by kernel_rfl))
 f320 := Tryz.func356.trans (congrArg some (by kernel_rfl))
 f337 := Tryz.func363.trans (congrArg some (by kernel_rfl))
 f338 := Tryz.func364.trans (congrArg some (by kernel_rfl))
 t0 := Tryz.underlying0
 a0 := Tryz.isAgg0
 z0 := Tryz.sizeOf0
 v0 := Tryz.zeroValue0
 t2 := Tryz.underlying2
 a2 := Tryz.isAgg2
 z2 := Tryz.sizeOf2
 v2 := Tryz.zeroValue2
 t3 := Tryz.underlying3
 a3 := Tryz.isAgg3
 z3 := Tryz.sizeOf3
 v3 := Tryz.zeroValue3
 t4 := Tryz.underlying4
 a4 := Tryz.isAgg4
 z4 := Tryz.sizeOf4
 v4 := Tryz.zeroValue4
 t5 := Tryz.underlying5
 a5 := Tryz.isAgg5
 z5 := Tryz.sizeOf5
 v5 := Tryz.zeroValue5
 t9 := Tryz.underlying9
 a9 := Tryz.isAgg9
 z9 := Tryz.sizeOf9
 v9 := Tryz.zeroValue9
 t20 := Tryz.underlying20
 a20 := Tryz.isAgg20
 z20 := Tryz.sizeOf20
 v20 := Tryz.zeroValue20
 t37 := Tryz.underlying220
 a37 := Tryz.isAgg220
 z37 := Tryz.sizeOf220
 v37 := Tryz.zeroValue220
 t46 := Tryz.underlying253
 a46 := Tryz.isAgg253
 z46 := Tryz.sizeOf253
 v46 := Tryz.zeroValue253
 t51 := Tryz.underlying287
 a51 := Tryz.isAgg287
 z51 := Tryz.sizeOf287
 v51 := Tryz.zeroValue287
 t53 := Tryz.underlying271
 a53 := Tryz.isAgg271
 z53 := Tryz.sizeOf271
 v53 := Tryz.zeroValue271
 t171 := Tryz.underlying289
 a171 := Tryz.isAgg289
 z171 := Tryz.sizeOf289
 v171 := Tryz.zeroValue289
 t173 := Tryz.underlying291
 a173 := Tryz.isAgg291
 z173 := Tryz.sizeOf291
 v173 := Tryz.zeroValue291
 t212 := Tryz.underlying307
 a212 := Tryz.isAgg307
 z212 := Tryz.sizeOf307
 v212 := Tryz.zeroValue307
 t213 := Tryz.underlying308
 a213 := Tryz.isAgg308
 z213 := Tryz.sizeOf308
 t232 := Tryz.underlying320
 a232 := Tryz.isAgg320
 z232 := Tryz.sizeOf320
 v232 := Tryz.zeroValue320
 t233 := Tryz.underlying321
 a233 := Tryz.isAgg321
 z233 := Tryz.sizeOf321
 v233 := Tryz.zeroValue321
 g17 := by kernel_rfl
 g18 := by kernel_rfl
 g19 := by kernel_rfl
 i0 := by kernel_rfl
 i2 := by kernel_rfl
 i3 := by kernel_rfl
 i4 := by kernel_rfl
 i5 := by kernel_rfl
 i9 := by kernel_rfl
 i20 := by kernel_rfl
 i37 := by kernel_rfl
 i46 := by kernel_rfl
 i51 := by kernel_rfl
 i53 := by kernel_rfl
 i171 := by kernel_rfl
 i173 := by kernel_rfl
 i212 := by kernel_rfl
 i232 := by kernel_rfl
 i233 := by kernel_rfl
 m17 := by kernel_rfl
 m18 := by kernel_rfl
 m19 := by kernel_rfl }
open Go.RowKit Go.Sort Go.Lib in
theorem Tryz.strconv_Itoa (n : Int) (h0 : -9223372036854775808 ≤ n) (h1 : n ≤ 9223372036854775807) (w : World) (htab : Lib.TabIs Tryz.prog w "internal/strconv.uint64pow10" .u64 Lib.pow10Tab) :
  Calls Tryz.prog 196 #[.int .i64 n] w fun e w' => e = .returned (.string ⟨(Lib.itoa n).toArray⟩) ∧ ∃ k os, w' = grow (w.drewN k) os := Any.strconv_Itoa Tryz.laysM171 n h0 h1 w htab
def Tryz.lays144_ren : Go.Shelf.Ren := ⟨fun | 144 => 257 | 143 => 291 | 219 => 328 | 217 => 349 | 225 => 350 | 224 => 351 | 267 => 352 | 266 => 361 | 314 => 362 | n => n, fun | 9 => 9 | 4 => 4 | 3 => 3 | 5 => 5 | 46 => 253 | 146 => 318 | 51 => 287 | n => n, fun | 1 => 1 | n => n⟩
theorem Tryz.lays144 : Go.Proofs.Lays.n144 Tryz.prog Tryz.lays144_ren := {
 mixed := by kernel_rfl
 f143 := Tryz.func291.trans (congrArg some (by kernel_rfl))
 f144 := Tryz.func257.trans (congrArg some (by kernel_rfl))
 f217 := Tryz.func349.trans (congrArg some (by kernel_rfl))
 f219 := Tryz.func328.trans (congrArg some (by kernel_rfl))
 f224 := Tryz.func351.trans (congrArg some (by kernel_rfl))
 f225 := Tryz.func350.trans (congrArg some (by kernel_rfl))
 f266 := Tryz.func361.trans (congrArg some (by kernel_rfl))
 f267 := Tryz.func352.trans (congrArg some (by kernel_rfl))
 f314 := Tryz.func362.trans (congrArg some (by kernel_rfl))
 t3 := Tryz.underlying3
 a3 := Tryz.isAgg3
 z3 := Tryz.sizeOf3
 v3 := Tryz.zeroValue3
 t4 := Tryz.underlying4
 a4 := Tryz.isAgg4
 z4 := Tryz.sizeOf4
 v4 := Tryz.zeroValue4
 t5 := Tryz.underlying5
 a5 := Tryz.isAgg5
 z5 := Tryz.sizeOf5
 v5 := Tryz.zeroValue5
 t9 := Tryz.underlying9
 a9 := Tryz.isAgg9
 z9 := Tryz.sizeOf9
 v9 := Tryz.zeroValue9
 t46 := Tryz.underlying253
 a46 := Tryz.isAgg253
 z46 := Tryz.sizeOf253
 v46 := Tryz.zeroValue253
 t51 := Tryz.underlying287
 a51 := Tryz.isAgg287
 z51 := Tryz.sizeOf287
 v51 := Tryz.zeroValue287
 t146 := Tryz.underlying318
 a146 := Tryz.isAgg318
 z146 := Tryz.sizeOf318
 v146 := Tryz.zeroValue318
 g1 := by kernel_rfl }
open Go.RowKit Go.Lib in
theorem Tryz.strings_Contains (s sub : ByteArray) (m : Int) (w : World) (hs : s.size < 4294967281) (hm : w.cell? ⟨1, 0, none⟩ = some (.int .i64 m)) :
  Calls Tryz.prog 257 #[.string s, .string sub] w fun e w' => e = .returned (.bool (Lib.contains s.data.toList sub.data.toList)) ∧ w' = w := Any.strings_Contains Tryz.lays144 s sub m w hs hm
def Tryz.laysGw15_ren : Go.Shelf.Ren := ⟨fun | 15 => 235 | 20 => 286 | n => n, fun | 9 => 9 | 23 => 191 | 3 => 3 | 4 => 4 | 0 => 0 | 21 => 21 | n => n, fun | n => n⟩
theorem Tryz.laysGw15 : Go.Proofs.LaysGw.n15 Tryz.prog Tryz.laysGw15_ren := {
 mixed := by kernel_rfl
 f15 := Tryz.func235.trans (congrArg some (by kernel_rfl))
 f20 := Tryz.func286.trans (congrArg some (by kernel_rfl))
 t0 := Tryz.underlying0
 a0 := Tryz.isAgg0
 z0 := Tryz.sizeOf0
 v0 := Tryz.zeroValue0
 i0 := by kernel_rfl
 t3 := Tryz.underlying3
 a3 := Tryz.isAgg3
 z3 := Tryz.sizeOf3
 v3 := Tryz.zeroValue3
 i3 := by kernel_rfl
 t4 := Tryz.underlying4
 a4 := Tryz.isAgg4
 z4 := Tryz.sizeOf4
 v4 := Tryz.zeroValue4
 i4 := by kernel_rfl
 t9 := Tryz.underlying9
 a9 := Tryz.isAgg9
 z9 := Tryz.sizeOf9
 v9 := Tryz.zeroValue9
 i9 := by kernel_rfl
 t21 := Tryz.underlying21
 a21 := Tryz.isAgg21
 z21 := Tryz.sizeOf21
 v21 := Tryz.zeroValue21
 i21 := by kernel_rfl
 t23 := Tryz.underlying191
 a23 := Tryz.isAgg191
 z23 := Tryz.sizeOf191
 v23 := Tryz.zeroValue191
 i23 := by kernel_rfl }
open Go.RowKit Go.Lib in
theorem Tryz.strings_IndexFunc (g : Nat) (lb : Array Value) (eg : ∀ args w, (callFunc g args).run Tryz.prog w = .ok (.enter g args) w) (p : Nat → Bool) (s : ByteArray) (w : World) (hp : PredAt Tryz.prog g lb encR p w) :
  Calls Tryz.prog 235 #[.string s, .func (.func g) #[] lb] w fun e w' => e = .returned (.int .i64 (Lib.idxFunc p true s)) ∧ Below w.heap.size w w' := Any.strings_IndexFunc Tryz.laysGw15 g lb eg p s w hp
def Tryz.lays155_ren : Go.Shelf.Ren := ⟨fun | 155 => 198 | 154 => 261 | 138 => 293 | 165 => 294 | 143 => 291 | 166 => 295 | 197 => 296 | 169 => 297 | 195 => 333 | 218 => 334 | 240 => 335 | 241 => 336 | 219 => 328 | 260 => 337 | 276 => 357 | 277 => 358 | 217 => 349 | 225 => 350 | 224 => 351 | 267 => 352 | 266 => 361 | 314 => 362 | n => n, fun | 9 => 9 | 3 => 3 | 4 => 4 | 72 => 260 | 0 => 0 | 76 => 264 | 105 => 266 | 21 => 21 | 5 => 5 | 70 => 258 | 20 => 20 | 37 => 220 | 75 => 263 | 127 => 295 | 164 => 309 | 46 => 253 | 119 => 312 | 139 => 315 | 138 => 314 | 146 => 318 | 51 => 287 | 80 => 268 | n => n, fun | 1 => 1 | 3 => 3 | 4 => 4 | n => n⟩
theorem Tryz.lays155 : Go.Proofs.Lays.n155 Tryz.prog Tryz.lays155_ren := {
 mixed := by kernel_rfl
 f138 := Tryz.func293.trans (congrArg some (by kernel_rfl))
 f143 := Tryz.func291.trans (congrArg some (by kernel_rfl))
 f154 := Tryz.func261.trans (congrArg some (by kernel_rfl))
 f155 := Tryz.func198.trans (congrArg some (by kernel_rfl))
 f165 := Tryz.func294.trans (congrArg some (by kernel_rfl))
 f166 := Tryz.func295.trans (congrArg some (by kernel_rfl))
 f169 := Tryz.func297.trans (congrArg some (by kernel_rfl))
 f195 := Tryz.func333.trans (congrArg some (by kernel_rfl))
 f197 := Tryz.func296.trans (congrArg some (by kernel_rfl))
 f217 := Tryz.func349.trans (congrArg some (by kernel_rfl))
 f218 := Tryz.func334.trans (congrArg some (by kernel_rfl))
 f219 := Tryz.func328.trans (congrArg some (by kernel_rfl))
 f224 := Tryz.func351.trans (congrArg some (by kernel_rfl))
 f225 := Tryz.func350.trans (congrArg some (by kernel_rfl))
 f240 := Tryz.func335.trans (congrArg some (by kernel_rfl))
 f241 := Tryz.func336.trans (congrArg some (by kernel_rfl))
 f260 := Tryz.func337.trans (congrArg some (by kernel_rfl))
 f266 := Tryz.func361.trans (congrArg some (by kernel_rfl))
 f267 := Tryz.func352.trans (congrArg some (by kernel_rfl))
 f276 := Tryz.func357.trans (congrArg some (by kernel_rfl))
 f277 := Tryz.func358.trans (congrArg some (by kernel_rfl))
 f314 := Tryz.func362.trans (congrArg some (by kernel_rfl))
 t0 := Tryz.underlying0
 a0 := Tryz.isAgg0
 z0 := Tryz.sizeOf0
 v0 := Tryz.zeroValue0
 t3 := Tryz.underlying3
 a3 := Tryz.isAgg3
 z3 := Tryz.sizeOf3
 v3 := Tryz.zeroValue3
 t4 := Tryz.underlying4
 a4 := Tryz.isAgg4
 z4 := Tryz.sizeOf4
 v4 := Tryz.zeroValue4
 t5 := Tryz.underlying5
 a5 := Tryz.isAgg5
 z5 := Tryz.sizeOf5
 v5 := Tryz.zeroValue5
 t9 := Tryz.underlying9
 a9 := Tryz.isAgg9
 z9 := Tryz.sizeOf9
 v9 := Tryz.zeroValue9
 t20 := Tryz.underlying20
 a20 := Tryz.isAgg20
 z20 := Tryz.sizeOf20
 v20 := Tryz.zeroValue20
 t21 := Tryz.underlying21
 a21 := Tryz.isAgg21
 z21 := Tryz.sizeOf21
 v21 := Tryz.zeroValue21
 t37 := Tryz.underlying220
 a37 := Tryz.isAgg220
 z37 := Tryz.sizeOf220
 v37 := Tryz.zeroValue220
 t46 := Tryz.underlying253
 a46 := Tryz.isAgg253
 z46 := Tryz.sizeOf253
 v46 := Tryz.zeroValue253
 t51 := Tryz.underlying287
 a51 := Tryz.isAgg287
 z51 := Tryz.sizeOf287
 v51 := Tryz.zeroValue287
 t70 := Tryz.underlying258
 a70 := Tryz.isAgg258
 z70 := Tryz.sizeOf258
 v70 := Tryz.zeroValue258
 t72 := Tryz.underlying260
 a72 := Tryz.isAgg260
 z72 := Tryz.sizeOf260
 v72 := Tryz.zeroValue260
 t75 := Tryz.underlying263
 a75 := Tryz.isAgg263
 z75 := Tryz.sizeOf263
 v75 := Tryz.zeroValue263
 t76 := Tryz.underlying264
 a76 := Tryz.isAgg264
 z76 := Tryz.sizeOf264
 v76 := Tryz.zeroValue264
 t105 := Tryz.underlying266
 a105 := Tryz.isAgg266
 z105 := Tryz.sizeOf266
 v105 := Tryz.zeroValue266
 t119 := Tryz.underlying312
 a119 := Tryz.isAgg312
 z119 := Tryz.sizeOf312
 t127 := Tryz.underlying295
 a127 := Tryz.isAgg295
 z127 := Tryz.sizeOf295
 v127 := Tryz.zeroValue295
 t138 := Tryz.underlying314
 a138 := Tryz.isAgg314
 z138 := Tryz.sizeOf314
 v138 := Tryz.zeroValue314
 t139 := Tryz.underlying315
 a139 := Tryz.isAgg315
 z139 := Tryz.sizeOf315
 v139 := Tryz.zeroValue315
 t146 := Tryz.underlying318
 a146 := Tryz.isAgg318
 z146 := Tryz.sizeOf318
 v146 := Tryz.zeroValue318
 t164 := Tryz.underlying309
 a164 := Tryz.isAgg309
 z164 := Tryz.sizeOf309
 v164 := Tryz.zeroValue309
 g1 := by kernel_rfl
 g3 := by kernel_rfl
 g4 := by kernel_rfl }
theorem Tryz.Builder_Extra_155 : Builder.Extra Tryz.prog Tryz.lays155_ren := {
 sizeBuilder := by kernel_rfl
 liesBuilder := by kernel_rfl
 t5 := Tryz.underlying5
 a5 := Tryz.isAgg5
 z5 := Tryz.sizeOf5
 v5 := Tryz.zeroValue5
 infoByte := by kernel_rfl
 cellsByte := by kernel_rfl
 sizeByte := by kernel_rfl
 neB5 := by decide }
open Go.RowKit Go.Lib in
theorem Tryz.strings_ReplaceAll (s old new : ByteArray) (m : Int) (w : World) (hs : s.size < 4294967281) (hm : w.cell? ⟨1, 0, none⟩ = some (.int .i64 m)) (h1 : 1 ≤ old.size) (hlen : s.size + Lib.countB s old * new.size ≤ 140737488355328) :
  Calls Tryz.prog 198 #[.string s, .string old, .string new] w fun e w' =>
   e = .returned (.string ⟨(Lib.replaceAll s.data.toList old.data.toList new.data.toList).toArray⟩) ∧ Below w.heap.size w w' := Any.strings_ReplaceAll Tryz.lays155 Tryz.Builder_Extra_155 s old new m w hs hm h1 hlen
def Tryz.lays264_ren : Go.Shelf.Ren := ⟨fun | 264 => 338 | n => n, fun | 53 => 271 | 46 => 253 | n => n, fun | n => n⟩
theorem Tryz.lays264 : Go.Proofs.Lays.n264 Tryz.prog Tryz.lays264_ren := {
 mixed := by kernel_rfl
 f264 := Tryz.func338.trans (congrArg some (by kernel_rfl))
 t46 := Tryz.underlying253
 a46 := Tryz.isAgg253
 z46 := Tryz.sizeOf253
 v46 := Tryz.zeroValue253
 t53 := Tryz.underlying271
 a53 := Tryz.isAgg271
 z53 := Tryz.sizeOf271
 v53 := Tryz.zeroValue271 }
open Go.RowKit Go.Lib in
theorem Tryz.bits_Mul64 (x y : Nat) (hx : x < 18446744073709551616) (hy : y < 18446744073709551616) (w : World) :
  Calls Tryz.prog 338 #[.int .u64 x, .int .u64 y] w fun e w' => e = .returned (.tuple #[.int .u64 ((x * y / 18446744073709551616 : Nat) : Int), .int .u64 ((x * y % 18446744073709551616 : Nat) : Int)]) ∧ w' = w := Any.bits_Mul64 Tryz.lays264 x y hx hy w
def Tryz.laysSlM6_f231_ren : Go.Shelf.Ren := ⟨fun | 6 => 231 | 8 => 285 | 9 => 284 | 19 => 325 | 20 => 326 | 21 => 316 | 22 => 317 | 23 => 318 | 24 => 319 | 25 => 320 | 26 => 321 | 27 => 322 | 28 => 323 | 29 => 324 | 36 => 344 | 31 => 345 | 32 => 346 | 37 => 347 | 38 => 348 | 39 => 315 | 41 => 360 | n => n, fun | 27 => 29 | 29 => 9 | 3 => 3 | 32 => 253 | 26 => 29 | 0 => 0 | 44 => 287 | 46 => 271 | 4 => 4 | 36 => 281 | 35 => 280 | 41 => 243 | 5 => 5 | 9 => 9 | 53 => 301 | 57 => 305 | 63 => 316 | 64 => 155 | n => n, fun | n => n⟩
theorem Tryz.laysSlM6_f231 : Go.Proofs.SlLaysM.n6 Tryz.prog Tryz.laysSlM6_f231_ren := {
 mixed := by kernel_rfl
 f6 := ⟨Tryz.f231.name, by decide, Tryz.func231.trans (congrArg some (by kernel_rfl))⟩
 f8 := Tryz.func285.trans (congrArg some (by kernel_rfl))
 f9 := ⟨Tryz.f284.name, by decide, Tryz.func284.trans (congrArg some (by kernel_rfl))⟩
 f19 := Tryz.func325.trans (congrArg some (by kernel_rfl))
 f20 := Tryz.func326.trans (congrArg some (by kernel_rfl))
 f21 := ⟨Tryz.f316.name, by decide, Tryz.func316.trans (congrArg some (by kernel_rfl))⟩
 f22 := ⟨Tryz.f317.name, by decide, Tryz.func317.trans (congrArg some (by kernel_rfl))⟩
 f23 := ⟨Tryz.f318.name, by decide, Tryz.func318.trans (congrArg some (by kernel_rfl))⟩
 f24 := ⟨Tryz.f319.name, by decide, Tryz.func319.trans (congrArg some (by kernel_rfl))⟩
 f25 := ⟨Tryz.f320.name, by decide, Tryz.func320.trans (congrArg some (by kernel_rfl))⟩
 f26 := ⟨Tryz.f321.name, by decide, Tryz.func321.trans (congrArg some (by kernel_rfl))⟩
 f27 := ⟨Tryz.f322.name, by decide, Tryz.func322.trans (congrArg some (by kernel_rfl))⟩
 f28 := ⟨Tryz.f323.name, by decide, Tryz.func323.trans (congrArg some (by kernel_rfl))⟩
 f29 := ⟨Tryz.f324.name, by decide, Tryz.func324.trans (congrArg some (by kernel_rfl))⟩
 f31 := Tryz.func345.trans (congrArg some (by kernel_rfl))
 f32 := Tryz.func346.trans (congrArg some (by kernel_rfl))
 f36 := ⟨Tryz.f344.name, by decide, Tryz.func344.trans (congrArg some (by kernel_rfl))⟩
 f37 := ⟨Tryz.f347.name, by decide, Tryz.func347.trans (congrArg some (by kernel_rfl))⟩
 f38 := ⟨Tryz.f348.name, by decide, Tryz.func348.trans (congrArg some (by kernel_rfl))⟩
 f39 := ⟨Tryz.f315.name, by decide, Tryz.func315.trans (congrArg some (by kernel_rfl))⟩
 f41 := ⟨Tryz.f360.name, by decide, Tryz.func360.trans (congrArg some (by kernel_rfl))⟩
 t0 := Tryz.underlying0
 a0 := Tryz.isAgg0
 z0 := Tryz.sizeOf0
 v0 := Tryz.zeroValue0
 t3 := Tryz.underlying3
 a3 := Tryz.isAgg3
 z3 := Tryz.sizeOf3
 v3 := Tryz.zeroValue3
 t4 := Tryz.underlying4
 a4 := Tryz.isAgg4
 z4 := Tryz.sizeOf4
 v4 := Tryz.zeroValue4
 t5 := Tryz.underlying5
 a5 := Tryz.isAgg5
 z5 := Tryz.sizeOf5
 v5 := Tryz.zeroValue5
 t9 := Tryz.underlying9
 a9 := Tryz.isAgg9
 z9 := Tryz.sizeOf9
 v9 := Tryz.zeroValue9
 t26 := Tryz.underlying29
 a26 := Tryz.isAgg29
 z26 := Tryz.sizeOf29
 v26 := Tryz.zeroValue29
 t27 := Tryz.underlying29
 a27 := Tryz.isAgg29
 z27 := Tryz.sizeOf29
 v27 := Tryz.zeroValue29
 t29 := Tryz.underlying9
 a29 := Tryz.isAgg9
 z29 := Tryz.sizeOf9
 v29 := Tryz.zeroValue9
 t32 := Tryz.underlying253
 a32 := Tryz.isAgg253
 z32 := Tryz.sizeOf253
 v32 := Tryz.zeroValue253
 t35 := Tryz.underlying280
 a35 := Tryz.isAgg280
 z35 := Tryz.sizeOf280
 v35 := Tryz.zeroValue280
 t36 := Tryz.underlying281
 a36 := Tryz.isAgg281
 z36 := Tryz.sizeOf281
 v36 := Tryz.zeroValue281
 t41 := Tryz.underlying243
 a41 := Tryz.isAgg243
 z41 := Tryz.sizeOf243
 v41 := Tryz.zeroValue243
 t44 := Tryz.underlying287
 a44 := Tryz.isAgg287
 z44 := Tryz.sizeOf287
 v44 := Tryz.zeroValue287
 t46 := Tryz.underlying271
 a46 := Tryz.isAgg271
 z46 := Tryz.sizeOf271
 v46 := Tryz.zeroValue271
 t53 := Tryz.underlying301
 a53 := Tryz.isAgg301
 z53 := Tryz.sizeOf301
 v53 := Tryz.zeroValue301
 t57 := Tryz.underlying305
 a57 := Tryz.isAgg305
 z57 := Tryz.sizeOf305
 v57 := Tryz.zeroValue305
 t63 := Tryz.underlying316
 a63 := Tryz.isAgg316
 z63 := Tryz.sizeOf316
 v63 := Tryz.zeroValue316
 t64 := Tryz.underlying155
 a64 := Tryz.isAgg155
 z64 := Tryz.sizeOf155
 v64 := Tryz.zeroValue155 }
open Go.Sort Go.RowKit in
theorem Tryz.slices_Sort_string (blk off cap : Nat) (ss : List (List UInt8)) (w : World) (hH : Holds encStr w blk off ss.toArray) (hblk : blk < w.heap.size) (hsz : ss.length < 4611686018427387904) :
  Calls Tryz.prog 231 #[.slice (some ⟨blk, off, none⟩) ss.length cap] w fun e w' =>
   e = .returned (.tuple #[]) ∧ ∃ n os, w' = grow (putRow encStr (Sort.ahead w n) blk off (ss.mergeSort fun x y => decide (x ≤ y)).toArray) os := AnyM.slices_Sort_string Tryz.laysSlM6_f231 blk off cap ss w hH hblk hsz
open Go.RowKit Go.Sort in
theorem Tryz.slices_Sort_string_none (p : Option Addr) (cap : Nat) (w : World) :
  Calls Tryz.prog 231 #[.slice p 0 cap] w fun e w' => e = .returned (.tuple #[]) ∧ w' = w := AnyM.slices_Sort_string_none Tryz.laysSlM6_f231 p cap w
end Go.Proofs
