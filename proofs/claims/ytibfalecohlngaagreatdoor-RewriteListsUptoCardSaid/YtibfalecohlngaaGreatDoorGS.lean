/-
 DERIVED: THE SHELF's CONTRACTS AT THIS DUMP, IN PLAIN WORDS (tools/lay-plain.mjs out of 'TryzShelf.lean', which tools/lay-shelf.mjs wrote): THE SAME DECLARATIONS UNDER THE SAME NAMES: 'import', 'namespace', 'open', 'def', 'theorem' AND NOTHING ELSE: no command of the shelf's: FOR A HAND-IN. Each laying: the table of numbers ('.._ren') and one theorem, a field a fact of the dump's own or the kernel's comparison; each contract: ONE APPLICATION.
-/
import Derived.Test.YtibfalecohlngaaGreatDoorGC
import Derived.Shelf.Strings.Builder1
import Derived.Shelf.Strings.Builder2
import Derived.Shelf.Strings.OnBuilder
import Derived.Shelf.Small.Bits
import Derived.Shelf.Small.Wraps
import Derived.Shelf.Strconv.Itoa0
import Derived.Shelf.Strconv.Itoa1
import Derived.Shelf.LaysM
import Derived.Shelf.Strconv.Itoa2
import Derived.Shelf.Strconv.Itoa3
import Derived.Shelf.Strings.Search1
import Derived.Shelf.Strings.Search2
import Derived.Shelf.Strings.Search3
import Derived.Shelf.Strings.Count
import Derived.Shelf.Strings.Shaped
import Derived.Shelf.GgClosure.StringsIndexFunc
import Derived.Ground.GgwProg
import Derived.Shelf.GgClosure.StringsIndexFuncTop
import Derived.Shelf.Strings.Split
import Derived.Shelf.Strings.Replace
import Derived.Shelf.Strings.SplitShaped
import Derived.Shelf.Bits.Mul64
import Derived.Shelf.Unicode.DecodeSlow
import Derived.Shelf.Unicode.DecodeAny
import Derived.Shelf.Strings.FuncGrows
import Derived.Shelf.Slices.Turned
import Derived.Shelf.Slices.CompactS
import Derived.Ground.SlgmProg
import Derived.Shelf.SortM.Plain
import Derived.Shelf.SortM.SortNone
import Derived.Test.YtibfalecohlngaaGreatDoorProg
set_option linter.unusedVariables false
set_option linter.unusedSimpArgs false
namespace Go.Proofs
open Go.Shelf
def Tryz.lays156_ren : Go.Shelf.Ren := ⟨fun | 156 => 253 | 165 => 297 | 166 => 298 | 169 => 300 | 240 => 330 | 241 => 331 | 276 => 361 | 277 => 362 | n => n, fun | 31 => 52 | 9 => 9 | 3 => 3 | 4 => 4 | 0 => 0 | 20 => 20 | 72 => 258 | 76 => 262 | 70 => 256 | 37 => 204 | 75 => 261 | 127 => 290 | 164 => 307 | 5 => 5 | 80 => 266 | n => n, fun | n => n⟩
theorem Tryz.lays156 : Go.Proofs.Lays.n156 Tryz.prog Tryz.lays156_ren := {
 mixed := by kernel_rfl
 f156 := Tryz.func253.trans (congrArg some (by kernel_rfl))
 f165 := Tryz.func297.trans (congrArg some (by kernel_rfl))
 f166 := Tryz.func298.trans (congrArg some (by kernel_rfl))
 f169 := Tryz.func300.trans (congrArg some (by kernel_rfl))
 f240 := Tryz.func330.trans (congrArg some (by kernel_rfl))
 f241 := Tryz.func331.trans (congrArg some (by kernel_rfl))
 f276 := Tryz.func361.trans (congrArg some (by kernel_rfl))
 f277 := Tryz.func362.trans (congrArg some (by kernel_rfl))
 t0 := Tryz.underlying0
 a0 := Tryz.isAgg0
 z0 := Tryz.sizeOf0
 v0 := Tryz.zeroValue0
 t3 := Tryz.underlying3
 a3 := Tryz.isAgg3
 z3 := Tryz.sizeOf3
 v3 := Tryz.zeroValue3
 t4 := Tryz.underlying4
 a4 := Tryz.isAgg4
 z4 := Tryz.sizeOf4
 v4 := Tryz.zeroValue4
 t9 := Tryz.underlying9
 a9 := Tryz.isAgg9
 z9 := Tryz.sizeOf9
 v9 := Tryz.zeroValue9
 t20 := Tryz.underlying20
 a20 := Tryz.isAgg20
 z20 := Tryz.sizeOf20
 v20 := Tryz.zeroValue20
 t31 := Tryz.underlying52
 a31 := Tryz.isAgg52
 z31 := Tryz.sizeOf52
 v31 := Tryz.zeroValue52
 t37 := Tryz.underlying204
 a37 := Tryz.isAgg204
 z37 := Tryz.sizeOf204
 v37 := Tryz.zeroValue204
 t70 := Tryz.underlying256
 a70 := Tryz.isAgg256
 z70 := Tryz.sizeOf256
 v70 := Tryz.zeroValue256
 t72 := Tryz.underlying258
 a72 := Tryz.isAgg258
 z72 := Tryz.sizeOf258
 v72 := Tryz.zeroValue258
 t75 := Tryz.underlying261
 a75 := Tryz.isAgg261
 z75 := Tryz.sizeOf261
 v75 := Tryz.zeroValue261
 t76 := Tryz.underlying262
 a76 := Tryz.isAgg262
 z76 := Tryz.sizeOf262
 v76 := Tryz.zeroValue262
 t127 := Tryz.underlying290
 a127 := Tryz.isAgg290
 z127 := Tryz.sizeOf290
 v127 := Tryz.zeroValue290
 t164 := Tryz.underlying307
 a164 := Tryz.isAgg307
 z164 := Tryz.sizeOf307
 v164 := Tryz.zeroValue307 }
theorem Tryz.Builder_Extra_156 : Builder.Extra Tryz.prog Tryz.lays156_ren := {
 sizeBuilder := by kernel_rfl
 liesBuilder := by kernel_rfl
 t5 := Tryz.underlying5
 a5 := Tryz.isAgg5
 z5 := Tryz.sizeOf5
 v5 := Tryz.zeroValue5
 infoByte := by kernel_rfl
 cellsByte := by kernel_rfl
 sizeByte := by kernel_rfl
 neB5 := by decide }
open Go.RowKit in
theorem Tryz.strings_Join_none (a : Option Addr) (c : Nat) (sep : ByteArray) (w : World) :
  Calls Tryz.prog 253 #[.slice a 0 c, .string sep] w fun e w' => e = .returned (.string ⟨#[]⟩) ∧ w' = w := Any.strings_Join_none Tryz.lays156 Tryz.Builder_Extra_156 a c sep w
open Go.RowKit in
theorem Tryz.strings_Join (bk o c : Nat) (xs : List ByteArray) (sep : ByteArray) (w : World) (hcells : ∀ (j : Nat) x, xs[j]? = some x → w.cell? ⟨bk, o + j, none⟩ = some (.string x)) (hbk : bk < w.heap.size) (hN : xs.length ≤ 140737488355328) (hcap : xs.length ≤ c) (hlen : (Lib.join (xs.map (·.data.toList)) sep.data.toList).length ≤ 140737488355328) :
  Calls Tryz.prog 253 #[.slice (some ⟨bk, o, none⟩) xs.length c, .string sep] w fun e w' => e = .returned (.string ⟨(Lib.join (xs.map (·.data.toList)) sep.data.toList).toArray⟩) ∧ Below w.heap.size w w' := Any.strings_Join Tryz.lays156 Tryz.Builder_Extra_156 bk o c xs sep w hcells hbk hN hcap hlen
def Tryz.lays134_ren : Go.Shelf.Ren := ⟨fun | 134 => 363 | 129 => 352 | n => n, fun | 53 => 267 | 3 => 3 | 4 => 4 | 46 => 280 | 5 => 5 | 9 => 9 | n => n, fun | n => n⟩
theorem Tryz.lays134 : Go.Proofs.Lays.n134 Tryz.prog Tryz.lays134_ren := {
 mixed := by kernel_rfl
 f129 := Tryz.func352.trans (congrArg some (by kernel_rfl))
 f134 := Tryz.func363.trans (congrArg some (by kernel_rfl))
 t3 := Tryz.underlying3
 a3 := Tryz.isAgg3
 z3 := Tryz.sizeOf3
 v3 := Tryz.zeroValue3
 t4 := Tryz.underlying4
 a4 := Tryz.isAgg4
 z4 := Tryz.sizeOf4
 v4 := Tryz.zeroValue4
 t5 := Tryz.underlying5
 a5 := Tryz.isAgg5
 z5 := Tryz.sizeOf5
 v5 := Tryz.zeroValue5
 t9 := Tryz.underlying9
 a9 := Tryz.isAgg9
 z9 := Tryz.sizeOf9
 v9 := Tryz.zeroValue9
 t46 := Tryz.underlying280
 a46 := Tryz.isAgg280
 z46 := Tryz.sizeOf280
 v46 := Tryz.zeroValue280
 t53 := Tryz.underlying267
 a53 := Tryz.isAgg267
 z53 := Tryz.sizeOf267
 v53 := Tryz.zeroValue267 }
theorem Tryz.bits_LeadingZeros64 (x : Int) (w : World) (h0 : 0 ≤ x) (h1 : x ≤ 18446744073709551615) :
  Calls Tryz.prog 363 #[.int .u64 x] w fun e w' => e = .returned (.int .i64 (64 - (Lib.bitLen x.toNat : Int))) ∧ w' = w := Any.bits_LeadingZeros64 Tryz.lays134 x w h0 h1
def Tryz.lays121_ren : Go.Shelf.Ren := ⟨fun | 121 => 195 | 214 => 250 | n => n, fun | 4 => 4 | 9 => 9 | n => n, fun | n => n⟩
theorem Tryz.lays121 : Go.Proofs.Lays.n121 Tryz.prog Tryz.lays121_ren := {
 mixed := by kernel_rfl
 f121 := Tryz.func195.trans (congrArg some (by kernel_rfl))
 f214 := Tryz.func250.trans (congrArg some (by kernel_rfl))
 t4 := Tryz.underlying4
 a4 := Tryz.isAgg4
 z4 := Tryz.sizeOf4
 v4 := Tryz.zeroValue4
 t9 := Tryz.underlying9
 a9 := Tryz.isAgg9
 z9 := Tryz.sizeOf9
 v9 := Tryz.zeroValue9 }
open Go.RowKit in
theorem Tryz.strconv_FormatBool (b : Bool) (w : World) :
  Calls Tryz.prog 195 #[.bool b] w fun e w' => e = .returned (.string ⟨(Lib.formatBool b).toArray⟩) ∧ w' = w := Any.strconv_FormatBool Tryz.lays121 b w
def Tryz.laysM171_ren : Go.Shelf.Ren := ⟨fun | 171 => 196 | 243 => 251 | 246 => 295 | 283 => 324 | 284 => 325 | 285 => 326 | 286 => 327 | 129 => 352 | 317 => 357 | 318 => 358 | 319 => 359 | 320 => 360 | 337 => 371 | 338 => 372 | n => n, fun | 3 => 3 | 9 => 9 | 2 => 2 | 4 => 4 | 171 => 283 | 0 => 0 | 53 => 267 | 37 => 204 | 5 => 5 | 173 => 286 | 212 => 305 | 51 => 304 | 20 => 20 | 213 => 306 | 46 => 280 | 232 => 324 | 233 => 325 | n => n, fun | 17 => 2 | 18 => 7 | 19 => 8 | n => n⟩
theorem Tryz.laysM171 : Go.Proofs.LaysM.n171 Tryz.prog Tryz.laysM171_ren := {
 mixed := by kernel_rfl
 f129 := Tryz.func352.trans (congrArg some (by kernel_rfl))
 f171 := Tryz.func196.trans (congrArg some (by kernel_rfl))
 f243 := Tryz.func251.trans (congrArg some (by kernel_rfl))
 f246 := Tryz.func295.trans (congrArg some (by kernel_rfl))
 f283 := Tryz.func324.trans (congrArg some (by kernel_rfl))
 f284 := Tryz.func325.trans (congrArg some (by kernel_rfl))
 f285 := Tryz.func326.trans (congrArg some (by kernel_rfl))
 f286 := Tryz.func327.trans (congrArg some (by kernel_rfl))
 f317 := Tryz.func357.trans (congrArg some (by kernel_rfl))
 f318 := Tryz.func358.trans (congrArg some (by kernel_rfl))
 f319 := Tryz.func359.trans (congrArg some (by kernel_rfl))
 f320 := Tryz.func360.trans (congrArg some (by kernel_rfl))
 f337 := Tryz.func371.trans (congrArg some (by kernel_rfl))
 f338 := Tryz.func372.trans (congrArg some (by kernel_rfl))
 t0 := Tryz.underlying0
 a0 := Tryz.isAgg0
 z0 := Tryz.sizeOf0
 v0 := Tryz.zeroValue0
 t2 := Tryz.underlying2
 a2 := Tryz.isAgg2
 z2 := Tryz.sizeOf2
 v2 := Tryz.zeroValue2
 t3 := Tryz.underlying3
 a3 := Tryz.isAgg3
 z3 := Tryz.sizeOf3
 v3 := Tryz.zeroValue3
 t4 := Tryz.underlying4
 a4 := Tryz.isAgg4
 z4 := Tryz.sizeOf4
 v4 := Tryz.zeroValue4
 t5 := Tryz.underlying5
 a5 := Tryz.isAgg5
 z5 := Tryz.sizeOf5
 v5 := Tryz.zeroValue5
 t9 := Tryz.underlying9
 a9 := Tryz.isAgg9
 z9 := Tryz.sizeOf9
 v9 := Tryz.zeroValue9
 t20 := Tryz.underlying20
 a20 := Tryz.isAgg20
 z20 := Tryz.sizeOf20
 v20 := Tryz.zeroValue20
 t37 := Tryz.underlying204
 a37 := Tryz.isAgg204
 z37 := Tryz.sizeOf204
 v37 := Tryz.zeroValue204
 t46 := Tryz.underlying280
 a46 := Tryz.isAgg280
 z46 := Tryz.sizeOf280
 v46 := Tryz.zeroValue280
 t51 := Tryz.underlying304
 a51 := Tryz.isAgg304
 z51 := Tryz.sizeOf304
 v51 := Tryz.zeroValue304
 t53 := Tryz.underlying267
 a53 := Tryz.isAgg267
 z53 := Tryz.sizeOf267
 v53 := Tryz.zeroValue267
 t171 := Tryz.underlying283
 a171 := Tryz.isAgg283
 z171 := Tryz.sizeOf283
 v171 := Tryz.zeroValue283
 t173 := Tryz.underlying286
 a173 := Tryz.isAgg286
 z173 := Tryz.sizeOf286
 v173 := Tryz.zeroValue286
 t212 := Tryz.underlying305
 a212 := Tryz.isAgg305
 z212 := Tryz.sizeOf305
 v212 := Tryz.zeroValue305
 t213 := Tryz.underlying306
 a213 := Tryz.isAgg306
 z213 := Tryz.sizeOf306
 t232 := Tryz.underlying324
 a232 := Tryz.isAgg324
 z232 := Tryz.sizeOf324
 v232 := Tryz.zeroValue324
 t233 := Tryz.underlying325
 a233 := Tryz.isAgg325
 z233 := Tryz.sizeOf325
 v233 := Tryz.zeroValue325
 g17 := by kernel_rfl
 g18 := by kernel_rfl
 g19 := by kernel_rfl
 i0 := by kernel_rfl
 i2 := by kernel_rfl
 i3 := by kernel_rfl
 i4 := by kernel_rfl
 i5 := by kernel_rfl
 i9 := by kernel_rfl
 i20 := by kernel_rfl
 i37 := by kernel_rfl
 i46 := by kernel_rfl
 i51 := by kernel_rfl
 i53 := by kernel_rfl
 i171 := by kernel_rfl
 i173 := by kernel_rfl
 i212 := by kernel_rfl
 i232 := by kernel_rfl
 i233 := by kernel_rfl
 m17 := by kernel_rfl
 m18 := by kernel_rfl
 m19 := by kernel_rfl }
open Go.RowKit Go.Sort Go.Lib in
theorem Tryz.strconv_Itoa (n : Int) (h0 : -9223372036854775808 ≤ n) (h1 : n ≤ 9223372036854775807) (w : World) (htab : Lib.TabIs Tryz.prog w "internal/strconv.uint64pow10" .u64 Lib.pow10Tab) :
  Calls Tryz.prog 196 #[.int .i64 n] w fun e w' => e = .returned (.string ⟨(Lib.itoa n).toArray⟩) ∧ ∃ k os, w' = grow (w.drewN k) os := Any.strconv_Itoa Tryz.laysM171 n h0 h1 w htab
def Tryz.lays144_ren : Go.Shelf.Ren := ⟨fun | 144 => 248 | 143 => 294 | 219 => 323 | 217 => 353 | 225 => 354 | 224 => 355 | 267 => 356 | 266 => 369 | 314 => 370 | n => n, fun | 9 => 9 | 4 => 4 | 3 => 3 | 5 => 5 | 46 => 280 | 146 => 320 | 51 => 304 | n => n, fun | 1 => 1 | n => n⟩
theorem Tryz.lays144 : Go.Proofs.Lays.n144 Tryz.prog Tryz.lays144_ren := {
 mixed := by kernel_rfl
 f143 := Tryz.func294.trans (congrArg some (by kernel_rfl))
 f144 := Tryz.func248.trans (congrArg some (by kernel_rfl))
 f217 := Tryz.func353.trans (congrArg some (by kernel_rfl))
 f219 := Tryz.func323.trans (congrArg some (by kernel_rfl))
 f224 := Tryz.func355.trans (congrArg some (by kernel_rfl))
 f225 := Tryz.func354.trans (congrArg some (by kernel_rfl))
 f266 := Tryz.func369.trans (congrArg some (by kernel_rfl))
 f267 := Tryz.func356.trans (congrArg some (by kernel_rfl))
 f314 := Tryz.func370.trans (congrArg some (by kernel_rfl))
 t3 := Tryz.underlying3
 a3 := Tryz.isAgg3
 z3 := Tryz.sizeOf3
 v3 := Tryz.zeroValue3
 t4 := Tryz.underlying4
 a4 := Tryz.isAgg4
 z4 := Tryz.sizeOf4
 v4 := Tryz.zeroValue4
 t5 := Tryz.underlying5
 a5 := Tryz.isAgg5
 z5 := Tryz.sizeOf5
 v5 := Tryz.zeroValue5
 t9 := Tryz.underlying9
 a9 := Tryz.isAgg9
 z9 := Tryz.sizeOf9
 v9 := Tryz.zeroValue9
 t46 := Tryz.underlying280
 a46 := Tryz.isAgg280
 z46 := Tryz.sizeOf280
 v46 := Tryz.zeroValue280
 t51 := Tryz.underlying304
 a51 := Tryz.isAgg304
 z51 := Tryz.sizeOf304
 v51 := Tryz.zeroValue304
 t146 := Tryz.underlying320
 a146 := Tryz.isAgg320
 z146 := Tryz.sizeOf320
 v146 := Tryz.zeroValue320
 g1 := by kernel_rfl }
open Go.RowKit Go.Lib in
theorem Tryz.strings_Contains (s sub : ByteArray) (m : Int) (w : World) (hs : s.size < 4294967281) (hm : w.cell? ⟨1, 0, none⟩ = some (.int .i64 m)) :
  Calls Tryz.prog 248 #[.string s, .string sub] w fun e w' => e = .returned (.bool (Lib.contains s.data.toList sub.data.toList)) ∧ w' = w := Any.strings_Contains Tryz.lays144 s sub m w hs hm
def Tryz.laysGw15_ren : Go.Shelf.Ren := ⟨fun | 15 => 244 | 20 => 293 | n => n, fun | 9 => 9 | 23 => 219 | 3 => 3 | 4 => 4 | 0 => 0 | 21 => 21 | n => n, fun | n => n⟩
theorem Tryz.laysGw15 : Go.Proofs.LaysGw.n15 Tryz.prog Tryz.laysGw15_ren := {
 mixed := by kernel_rfl
 f15 := Tryz.func244.trans (congrArg some (by kernel_rfl))
 f20 := Tryz.func293.trans (congrArg some (by kernel_rfl))
 t0 := Tryz.underlying0
 a0 := Tryz.isAgg0
 z0 := Tryz.sizeOf0
 v0 := Tryz.zeroValue0
 i0 := by kernel_rfl
 t3 := Tryz.underlying3
 a3 := Tryz.isAgg3
 z3 := Tryz.sizeOf3
 v3 := Tryz.zeroValue3
 i3 := by kernel_rfl
 t4 := Tryz.underlying4
 a4 := Tryz.isAgg4
 z4 := Tryz.sizeOf4
 v4 := Tryz.zeroValue4
 i4 := by kernel_rfl
 t9 := Tryz.underlying9
 a9 := Tryz.isAgg9
 z9 := Tryz.sizeOf9
 v9 := Tryz.zeroValue9
 i9 := by kernel_rfl
 t21 := Tryz.underlying21
 a21 := Tryz.isAgg21
 z21 := Tryz.sizeOf21
 v21 := Tryz.zeroValue21
 i21 := by kernel_rfl
 t23 := Tryz.underlying219
 a23 := Tryz.isAgg219
 z23 := Tryz.sizeOf219
 v23 := Tryz.zeroValue219
 i23 := by kernel_rfl }
open Go.RowKit Go.Lib in
theorem Tryz.strings_IndexFunc (g : Nat) (lb : Array Value) (eg : ∀ args w, (callFunc g args).run Tryz.prog w = .ok (.enter g args) w) (p : Nat → Bool) (s : ByteArray) (w : World) (hp : PredAt Tryz.prog g lb encR p w) :
  Calls Tryz.prog 244 #[.string s, .func (.func g) #[] lb] w fun e w' => e = .returned (.int .i64 (Lib.idxFunc p true s)) ∧ Below w.heap.size w w' := Any.strings_IndexFunc Tryz.laysGw15 g lb eg p s w hp
def Tryz.lays155_ren : Go.Shelf.Ren := ⟨fun | 155 => 198 | 154 => 252 | 138 => 296 | 165 => 297 | 143 => 294 | 166 => 298 | 197 => 299 | 169 => 300 | 195 => 328 | 218 => 329 | 240 => 330 | 241 => 331 | 219 => 323 | 260 => 332 | 276 => 361 | 277 => 362 | 217 => 353 | 225 => 354 | 224 => 355 | 267 => 356 | 266 => 369 | 314 => 370 | n => n, fun | 9 => 9 | 3 => 3 | 4 => 4 | 72 => 258 | 0 => 0 | 76 => 262 | 105 => 264 | 21 => 21 | 5 => 5 | 70 => 256 | 20 => 20 | 37 => 204 | 75 => 261 | 127 => 290 | 164 => 307 | 46 => 280 | 119 => 310 | 139 => 313 | 138 => 312 | 146 => 320 | 51 => 304 | 80 => 266 | n => n, fun | 1 => 1 | 3 => 3 | 4 => 4 | n => n⟩
theorem Tryz.lays155 : Go.Proofs.Lays.n155 Tryz.prog Tryz.lays155_ren := {
 mixed := by kernel_rfl
 f138 := Tryz.func296.trans (congrArg some (by kernel_rfl))
 f143 := Tryz.func294.trans (congrArg some (by kernel_rfl))
 f154 := Tryz.func252.trans (congrArg some (by kernel_rfl))
 f155 := Tryz.func198.trans (congrArg some (by kernel_rfl))
 f165 := Tryz.func297.trans (congrArg some (by kernel_rfl))
 f166 := Tryz.func298.trans (congrArg some (by kernel_rfl))
 f169 := Tryz.func300.trans (congrArg some (by kernel_rfl))
 f195 := Tryz.func328.trans (congrArg some (by kernel_rfl))
 f197 := Tryz.func299.trans (congrArg some (by kernel_rfl))
 f217 := Tryz.func353.trans (congrArg some (by kernel_rfl))
 f218 := Tryz.func329.trans (congrArg some (by kernel_rfl))
 f219 := Tryz.func323.trans (congrArg some (by kernel_rfl))
 f224 := Tryz.func355.trans (congrArg some (by kernel_rfl))
 f225 := Tryz.func354.trans (congrArg some (by kernel_rfl))
 f240 := Tryz.func330.trans (congrArg some (by kernel_rfl))
 f241 := Tryz.func331.trans (congrArg some (by kernel_rfl))
 f260 := Tryz.func332.trans (congrArg some (by kernel_rfl))
 f266 := Tryz.func369.trans (congrArg some (by kernel_rfl))
 f267 := Tryz.func356.trans (congrArg some (by kernel_rfl))
 f276 := Tryz.func361.trans (congrArg some (by kernel_rfl))
 f277 := Tryz.func362.trans (congrArg some (by kernel_rfl))
 f314 := Tryz.func370.trans (congrArg some (by kernel_rfl))
 t0 := Tryz.underlying0
 a0 := Tryz.isAgg0
 z0 := Tryz.sizeOf0
 v0 := Tryz.zeroValue0
 t3 := Tryz.underlying3
 a3 := Tryz.isAgg3
 z3 := Tryz.sizeOf3
 v3 := Tryz.zeroValue3
 t4 := Tryz.underlying4
 a4 := Tryz.isAgg4
 z4 := Tryz.sizeOf4
 v4 := Tryz.zeroValue4
 t5 := Tryz.underlying5
 a5 := Tryz.isAgg5
 z5 := Tryz.sizeOf5
 v5 := Tryz.zeroValue5
 t9 := Tryz.underlying9
 a9 := Tryz.isAgg9
 z9 := Tryz.sizeOf9
 v9 := Tryz.zeroValue9
 t20 := Tryz.underlying20
 a20 := Tryz.isAgg20
 z20 := Tryz.sizeOf20
 v20 := Tryz.zeroValue20
 t21 := Tryz.underlying21
 a21 := Tryz.isAgg21
 z21 := Tryz.sizeOf21
 v21 := Tryz.zeroValue21
 t37 := Tryz.underlying204
 a37 := Tryz.isAgg204
 z37 := Tryz.sizeOf204
 v37 := Tryz.zeroValue204
 t46 := Tryz.underlying280
 a46 := Tryz.isAgg280
 z46 := Tryz.sizeOf280
 v46 := Tryz.zeroValue280
 t51 := Tryz.underlying304
 a51 := Tryz.isAgg304
 z51 := Tryz.sizeOf304
 v51 := Tryz.zeroValue304
 t70 := Tryz.underlying256
 a70 := Tryz.isAgg256
 z70 := Tryz.sizeOf256
 v70 := Tryz.zeroValue256
 t72 := Tryz.underlying258
 a72 := Tryz.isAgg258
 z72 := Tryz.sizeOf258
 v72 := Tryz.zeroValue258
 t75 := Tryz.underlying261
 a75 := Tryz.isAgg261
 z75 := Tryz.sizeOf261
 v75 := Tryz.zeroValue261
 t76 := Tryz.underlying262
 a76 := Tryz.isAgg262
 z76 := Tryz.sizeOf262
 v76 := Tryz.zeroValue262
 t105 := Tryz.underlying264
 a105 := Tryz.isAgg264
 z105 := Tryz.sizeOf264
 v105 := Tryz.zeroValue264
 t119 := Tryz.underlying310
 a119 := Tryz.isAgg310
 z119 := Tryz.sizeOf310
 t127 := Tryz.underlying290
 a127 := Tryz.isAgg290
 z127 := Tryz.sizeOf290
 v127 := Tryz.zeroValue290
 t138 := Tryz.underlying312
 a138 := Tryz.isAgg312
 z138 := Tryz.sizeOf312
 v138 := Tryz.zeroValue312
 t139 := Tryz.underlying313
 a139 := Tryz.isAgg313
 z139 := Tryz.sizeOf313
 v139 := Tryz.zeroValue313
 t146 := Tryz.underlying320
 a146 := Tryz.isAgg320
 z146 := Tryz.sizeOf320
 v146 := Tryz.zeroValue320
 t164 := Tryz.underlying307
 a164 := Tryz.isAgg307
 z164 := Tryz.sizeOf307
 v164 := Tryz.zeroValue307
 g1 := by kernel_rfl
 g3 := by kernel_rfl
 g4 := by kernel_rfl }
theorem Tryz.Builder_Extra_155 : Builder.Extra Tryz.prog Tryz.lays155_ren := {
 sizeBuilder := by kernel_rfl
 liesBuilder := by kernel_rfl
 t5 := Tryz.underlying5
 a5 := Tryz.isAgg5
 z5 := Tryz.sizeOf5
 v5 := Tryz.zeroValue5
 infoByte := by kernel_rfl
 cellsByte := by kernel_rfl
 sizeByte := by kernel_rfl
 neB5 := by decide }
open Go.RowKit Go.Lib in
theorem Tryz.strings_ReplaceAll (s old new : ByteArray) (m : Int) (w : World) (hs : s.size < 4294967281) (hm : w.cell? ⟨1, 0, none⟩ = some (.int .i64 m)) (h1 : 1 ≤ old.size) (hlen : s.size + Lib.countB s old * new.size ≤ 140737488355328) :
  Calls Tryz.prog 198 #[.string s, .string old, .string new] w fun e w' =>
   e = .returned (.string ⟨(Lib.replaceAll s.data.toList old.data.toList new.data.toList).toArray⟩) ∧ Below w.heap.size w w' := Any.strings_ReplaceAll Tryz.lays155 Tryz.Builder_Extra_155 s old new m w hs hm h1 hlen
def Tryz.lays264_ren : Go.Shelf.Ren := ⟨fun | 264 => 333 | n => n, fun | 53 => 267 | 46 => 280 | n => n, fun | n => n⟩
theorem Tryz.lays264 : Go.Proofs.Lays.n264 Tryz.prog Tryz.lays264_ren := {
 mixed := by kernel_rfl
 f264 := Tryz.func333.trans (congrArg some (by kernel_rfl))
 t46 := Tryz.underlying280
 a46 := Tryz.isAgg280
 z46 := Tryz.sizeOf280
 v46 := Tryz.zeroValue280
 t53 := Tryz.underlying267
 a53 := Tryz.isAgg267
 z53 := Tryz.sizeOf267
 v53 := Tryz.zeroValue267 }
open Go.RowKit Go.Lib in
theorem Tryz.bits_Mul64 (x y : Nat) (hx : x < 18446744073709551616) (hy : y < 18446744073709551616) (w : World) :
  Calls Tryz.prog 333 #[.int .u64 x, .int .u64 y] w fun e w' => e = .returned (.tuple #[.int .u64 ((x * y / 18446744073709551616 : Nat) : Int), .int .u64 ((x * y % 18446744073709551616 : Nat) : Int)]) ∧ w' = w := Any.bits_Mul64 Tryz.lays264 x y hx hy w
def Tryz.laysSlM6_f272_ren : Go.Shelf.Ren := ⟨fun | 6 => 272 | 8 => 318 | 9 => 317 | 19 => 351 | 20 => 352 | 21 => 342 | 22 => 343 | 23 => 344 | 24 => 345 | 25 => 346 | 26 => 347 | 27 => 348 | 28 => 349 | 29 => 350 | 36 => 364 | 31 => 365 | 32 => 366 | 37 => 367 | 38 => 368 | 39 => 341 | 41 => 373 | n => n, fun | 27 => 52 | 29 => 9 | 3 => 3 | 32 => 280 | 26 => 52 | 0 => 0 | 44 => 304 | 46 => 267 | 4 => 4 | 36 => 298 | 35 => 297 | 41 => 169 | 5 => 5 | 9 => 9 | 53 => 314 | 57 => 318 | 63 => 322 | 64 => 110 | n => n, fun | n => n⟩
theorem Tryz.laysSlM6_f272 : Go.Proofs.SlLaysM.n6 Tryz.prog Tryz.laysSlM6_f272_ren := {
 mixed := by kernel_rfl
 f6 := ⟨Tryz.f272.name, by decide, Tryz.func272.trans (congrArg some (by kernel_rfl))⟩
 f8 := Tryz.func318.trans (congrArg some (by kernel_rfl))
 f9 := ⟨Tryz.f317.name, by decide, Tryz.func317.trans (congrArg some (by kernel_rfl))⟩
 f19 := Tryz.func351.trans (congrArg some (by kernel_rfl))
 f20 := Tryz.func352.trans (congrArg some (by kernel_rfl))
 f21 := ⟨Tryz.f342.name, by decide, Tryz.func342.trans (congrArg some (by kernel_rfl))⟩
 f22 := ⟨Tryz.f343.name, by decide, Tryz.func343.trans (congrArg some (by kernel_rfl))⟩
 f23 := ⟨Tryz.f344.name, by decide, Tryz.func344.trans (congrArg some (by kernel_rfl))⟩
 f24 := ⟨Tryz.f345.name, by decide, Tryz.func345.trans (congrArg some (by kernel_rfl))⟩
 f25 := ⟨Tryz.f346.name, by decide, Tryz.func346.trans (congrArg some (by kernel_rfl))⟩
 f26 := ⟨Tryz.f347.name, by decide, Tryz.func347.trans (congrArg some (by kernel_rfl))⟩
 f27 := ⟨Tryz.f348.name, by decide, Tryz.func348.trans (congrArg some (by kernel_rfl))⟩
 f28 := ⟨Tryz.f349.name, by decide, Tryz.func349.trans (congrArg some (by kernel_rfl))⟩
 f29 := ⟨Tryz.f350.name, by decide, Tryz.func350.trans (congrArg some (by kernel_rfl))⟩
 f31 := Tryz.func365.trans (congrArg some (by kernel_rfl))
 f32 := Tryz.func366.trans (congrArg some (by kernel_rfl))
 f36 := ⟨Tryz.f364.name, by decide, Tryz.func364.trans (congrArg some (by kernel_rfl))⟩
 f37 := ⟨Tryz.f367.name, by decide, Tryz.func367.trans (congrArg some (by kernel_rfl))⟩
 f38 := ⟨Tryz.f368.name, by decide, Tryz.func368.trans (congrArg some (by kernel_rfl))⟩
 f39 := ⟨Tryz.f341.name, by decide, Tryz.func341.trans (congrArg some (by kernel_rfl))⟩
 f41 := ⟨Tryz.f373.name, by decide, Tryz.func373.trans (congrArg some (by kernel_rfl))⟩
 t0 := Tryz.underlying0
 a0 := Tryz.isAgg0
 z0 := Tryz.sizeOf0
 v0 := Tryz.zeroValue0
 t3 := Tryz.underlying3
 a3 := Tryz.isAgg3
 z3 := Tryz.sizeOf3
 v3 := Tryz.zeroValue3
 t4 := Tryz.underlying4
 a4 := Tryz.isAgg4
 z4 := Tryz.sizeOf4
 v4 := Tryz.zeroValue4
 t5 := Tryz.underlying5
 a5 := Tryz.isAgg5
 z5 := Tryz.sizeOf5
 v5 := Tryz.zeroValue5
 t9 := Tryz.underlying9
 a9 := Tryz.isAgg9
 z9 := Tryz.sizeOf9
 v9 := Tryz.zeroValue9
 t26 := Tryz.underlying52
 a26 := Tryz.isAgg52
 z26 := Tryz.sizeOf52
 v26 := Tryz.zeroValue52
 t27 := Tryz.underlying52
 a27 := Tryz.isAgg52
 z27 := Tryz.sizeOf52
 v27 := Tryz.zeroValue52
 t29 := Tryz.underlying9
 a29 := Tryz.isAgg9
 z29 := Tryz.sizeOf9
 v29 := Tryz.zeroValue9
 t32 := Tryz.underlying280
 a32 := Tryz.isAgg280
 z32 := Tryz.sizeOf280
 v32 := Tryz.zeroValue280
 t35 := Tryz.underlying297
 a35 := Tryz.isAgg297
 z35 := Tryz.sizeOf297
 v35 := Tryz.zeroValue297
 t36 := Tryz.underlying298
 a36 := Tryz.isAgg298
 z36 := Tryz.sizeOf298
 v36 := Tryz.zeroValue298
 t41 := Tryz.underlying169
 a41 := Tryz.isAgg169
 z41 := Tryz.sizeOf169
 v41 := Tryz.zeroValue169
 t44 := Tryz.underlying304
 a44 := Tryz.isAgg304
 z44 := Tryz.sizeOf304
 v44 := Tryz.zeroValue304
 t46 := Tryz.underlying267
 a46 := Tryz.isAgg267
 z46 := Tryz.sizeOf267
 v46 := Tryz.zeroValue267
 t53 := Tryz.underlying314
 a53 := Tryz.isAgg314
 z53 := Tryz.sizeOf314
 v53 := Tryz.zeroValue314
 t57 := Tryz.underlying318
 a57 := Tryz.isAgg318
 z57 := Tryz.sizeOf318
 v57 := Tryz.zeroValue318
 t63 := Tryz.underlying322
 a63 := Tryz.isAgg322
 z63 := Tryz.sizeOf322
 v63 := Tryz.zeroValue322
 t64 := Tryz.underlying110
 a64 := Tryz.isAgg110
 z64 := Tryz.sizeOf110
 v64 := Tryz.zeroValue110 }
open Go.Sort Go.RowKit in
theorem Tryz.slices_Sort_string (blk off cap : Nat) (ss : List (List UInt8)) (w : World) (hH : Holds encStr w blk off ss.toArray) (hblk : blk < w.heap.size) (hsz : ss.length < 4611686018427387904) :
  Calls Tryz.prog 272 #[.slice (some ⟨blk, off, none⟩) ss.length cap] w fun e w' =>
   e = .returned (.tuple #[]) ∧ ∃ n os, w' = grow (putRow encStr (Sort.ahead w n) blk off (ss.mergeSort fun x y => decide (x ≤ y)).toArray) os := AnyM.slices_Sort_string Tryz.laysSlM6_f272 blk off cap ss w hH hblk hsz
open Go.RowKit Go.Sort in
theorem Tryz.slices_Sort_string_none (p : Option Addr) (cap : Nat) (w : World) :
  Calls Tryz.prog 272 #[.slice p 0 cap] w fun e w' => e = .returned (.tuple #[]) ∧ w' = w := AnyM.slices_Sort_string_none Tryz.laysSlM6_f272 p cap w
end Go.Proofs
