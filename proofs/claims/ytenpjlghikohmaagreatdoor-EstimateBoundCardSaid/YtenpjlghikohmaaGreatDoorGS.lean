/- DERIVED: THE SHELF's CONTRACTS AT THIS DUMP, IN PLAIN WORDS (tools/lay-plain.mjs out of 'TryzShelf.lean', which tools/lay-shelf.mjs wrote): THE SAME DECLARATIONS UNDER THE SAME NAMES: 'import', 'namespace', 'open', 'def', 'theorem' AND NOTHING ELSE: no command of the shelf's: FOR A HAND-IN; DERIVED: THE SHELF's CONTRACTS AT THIS DUMP, IN PLAIN WORDS (tools/lay-plain.mjs out of 'TryzIter.lean', which tools/lay-shelf.mjs wrote): THE SAME DECLARATIONS UNDER THE SAME NAMES: 'import', 'namespace', 'open', 'def', 'theorem' AND NOTHING ELSE: no command of the shelf's: FOR A HAND-IN; DERIVED: THE SHEL. Conditions: each part's own, as it says. -/
import Derived.Test.YtenpjlghikohmaaGreatDoorGC
import Derived.Shelf.Small.Bits
import Derived.Shelf.Small.Wraps
import Derived.Shelf.Strconv.Itoa0
import Derived.Shelf.Strconv.Itoa1
import Derived.Shelf.LaysM
import Derived.Shelf.Strconv.Itoa2
import Derived.Shelf.Strconv.Itoa3
import Derived.Shelf.Strings.Search1
import Derived.Shelf.Strings.Search2
import Derived.Shelf.Strings.Search3
import Derived.Shelf.Strings.Shaped
import Derived.Shelf.GgClosure.StringsIndexFunc
import Derived.Ground.GgwProg
import Derived.Shelf.GgClosure.StringsIndexFuncTop
import Derived.Shelf.Bits.Mul64
import Derived.Shelf.Strings.FuncGrows
import Derived.Shelf.Slices.Turned
import Derived.Ground.Names2Prog
import Derived.Shelf.Slices.CompactI
import Derived.Shelf.Slices.CompactS
import Derived.Ground.SlgmProg
import Derived.Shelf.SortM.Plain
import Derived.Shelf.SortM.SortNone
import Derived.Test.YtenpjlghikohmaaGreatDoorProg
import Derived.Shelf.SlIter.Sorted
import Derived.Ground.GgzProg
import Derived.Shelf.SlIterI.Sorted
import Derived.Shelf.SlSortCmp.Whole1
import Derived.Ground.SlsfProg
set_option linter.unusedVariables false
set_option linter.unusedSimpArgs false
namespace Go.Proofs
open Go.Shelf
def Tryz.lays125_ren : Go.Shelf.Ren := ⟨fun | 125 => 155 | 128 => 248 | 129 => 249 | n => n, fun | 46 => 218 | 3 => 3 | 51 => 275 | 53 => 277 | 4 => 4 | 5 => 5 | 9 => 9 | n => n, fun | n => n⟩
theorem Tryz.lays125 : Go.Proofs.Lays.n125 Tryz.prog Tryz.lays125_ren := {
 mixed := by kernel_rfl
 f125 := Tryz.func155.trans (congrArg some (by kernel_rfl))
 f128 := Tryz.func248.trans (congrArg some (by kernel_rfl))
 f129 := Tryz.func249.trans (congrArg some (by kernel_rfl))
 t3 := Tryz.underlying3
 a3 := Tryz.isAgg3
 z3 := Tryz.sizeOf3
 v3 := Tryz.zeroValue3
 t4 := Tryz.underlying4
 a4 := Tryz.isAgg4
 z4 := Tryz.sizeOf4
 v4 := Tryz.zeroValue4
 t5 := Tryz.underlying5
 a5 := Tryz.isAgg5
 z5 := Tryz.sizeOf5
 v5 := Tryz.zeroValue5
 t9 := Tryz.underlying9
 a9 := Tryz.isAgg9
 z9 := Tryz.sizeOf9
 v9 := Tryz.zeroValue9
 t46 := Tryz.underlying218
 a46 := Tryz.isAgg218
 z46 := Tryz.sizeOf218
 v46 := Tryz.zeroValue218
 t51 := Tryz.underlying275
 a51 := Tryz.isAgg275
 z51 := Tryz.sizeOf275
 v51 := Tryz.zeroValue275
 t53 := Tryz.underlying277
 a53 := Tryz.isAgg277
 z53 := Tryz.sizeOf277
 v53 := Tryz.zeroValue277 }
theorem Tryz.bits_Len (x : Int) (w : World) (h0 : 0 ≤ x) (h1 : x ≤ 18446744073709551615) :
  Calls Tryz.prog 155 #[.int .u64 x] w fun e w' => e = .returned (.int .i64 (Lib.bitLen x.toNat)) ∧ w' = w := Any.bits_Len Tryz.lays125 x w h0 h1
def Tryz.lays122_ren : Go.Shelf.Ren := ⟨fun | 122 => 52 | 215 => 137 | n => n, fun | 3 => 3 | 4 => 4 | n => n, fun | n => n⟩
theorem Tryz.lays122 : Go.Proofs.Lays.n122 Tryz.prog Tryz.lays122_ren := {
 mixed := by kernel_rfl
 f122 := Tryz.func52.trans (congrArg some (by kernel_rfl))
 f215 := Tryz.func137.trans (congrArg some (by kernel_rfl))
 t3 := Tryz.underlying3
 a3 := Tryz.isAgg3
 z3 := Tryz.sizeOf3
 v3 := Tryz.zeroValue3
 t4 := Tryz.underlying4
 a4 := Tryz.isAgg4
 z4 := Tryz.sizeOf4
 v4 := Tryz.zeroValue4 }
open Go.RowKit in
theorem Tryz.cmp_Compare_int (x y : Int) (w : World) :
  Calls Tryz.prog 52 #[.int .i64 x, .int .i64 y] w fun e w' => e = .returned (.int .i64 (Lib.compareInt x y)) ∧ w' = w := Any.cmp_Compare_int Tryz.lays122 x y w
def Tryz.laysGw15_ren : Go.Shelf.Ren := ⟨fun | 15 => 368 | 20 => 392 | n => n, fun | 9 => 9 | 23 => 347 | 3 => 3 | 4 => 4 | 0 => 0 | 21 => 21 | n => n, fun | n => n⟩
theorem Tryz.laysGw15 : Go.Proofs.LaysGw.n15 Tryz.prog Tryz.laysGw15_ren := {
 mixed := by kernel_rfl
 f15 := Tryz.func368.trans (congrArg some (by kernel_rfl))
 f20 := Tryz.func392.trans (congrArg some (by kernel_rfl))
 t0 := Tryz.underlying0
 a0 := Tryz.isAgg0
 z0 := Tryz.sizeOf0
 v0 := Tryz.zeroValue0
 i0 := by kernel_rfl
 t3 := Tryz.underlying3
 a3 := Tryz.isAgg3
 z3 := Tryz.sizeOf3
 v3 := Tryz.zeroValue3
 i3 := by kernel_rfl
 t4 := Tryz.underlying4
 a4 := Tryz.isAgg4
 z4 := Tryz.sizeOf4
 v4 := Tryz.zeroValue4
 i4 := by kernel_rfl
 t9 := Tryz.underlying9
 a9 := Tryz.isAgg9
 z9 := Tryz.sizeOf9
 v9 := Tryz.zeroValue9
 i9 := by kernel_rfl
 t21 := Tryz.underlying21
 a21 := Tryz.isAgg21
 z21 := Tryz.sizeOf21
 v21 := Tryz.zeroValue21
 i21 := by kernel_rfl
 t23 := Tryz.underlying347
 a23 := Tryz.isAgg347
 z23 := Tryz.sizeOf347
 v23 := Tryz.zeroValue347
 i23 := by kernel_rfl }
open Go.RowKit Go.Lib in
theorem Tryz.strings_IndexFunc (g : Nat) (lb : Array Value) (eg : ∀ args w, (callFunc g args).run Tryz.prog w = .ok (.enter g args) w) (p : Nat → Bool) (s : ByteArray) (w : World) (hp : PredAt Tryz.prog g lb encR p w) :
  Calls Tryz.prog 368 #[.string s, .func (.func g) #[] lb] w fun e w' => e = .returned (.int .i64 (Lib.idxFunc p true s)) ∧ Below w.heap.size w w' := Any.strings_IndexFunc Tryz.laysGw15 g lb eg p s w hp
def Tryz.lays264_ren : Go.Shelf.Ren := ⟨fun | 264 => 393 | n => n, fun | 53 => 277 | 46 => 218 | n => n, fun | n => n⟩
theorem Tryz.lays264 : Go.Proofs.Lays.n264 Tryz.prog Tryz.lays264_ren := {
 mixed := by kernel_rfl
 f264 := Tryz.func393.trans (congrArg some (by kernel_rfl))
 t46 := Tryz.underlying218
 a46 := Tryz.isAgg218
 z46 := Tryz.sizeOf218
 v46 := Tryz.zeroValue218
 t53 := Tryz.underlying277
 a53 := Tryz.isAgg277
 z53 := Tryz.sizeOf277
 v53 := Tryz.zeroValue277 }
open Go.RowKit Go.Lib in
theorem Tryz.bits_Mul64 (x y : Nat) (hx : x < 18446744073709551616) (hy : y < 18446744073709551616) (w : World) :
  Calls Tryz.prog 393 #[.int .u64 x, .int .u64 y] w fun e w' => e = .returned (.tuple #[.int .u64 ((x * y / 18446744073709551616 : Nat) : Int), .int .u64 ((x * y % 18446744073709551616 : Nat) : Int)]) ∧ w' = w := Any.bits_Mul64 Tryz.lays264 x y hx hy w
def Tryz.laysNm220_ren : Go.Shelf.Ren := ⟨fun | 20 => 138 | n => n, fun | 22 => 46 | 3 => 3 | 4 => 4 | 0 => 0 | n => n, fun | n => n⟩
theorem Tryz.laysNm220 : Go.Proofs.Lays2.n20 Tryz.prog Tryz.laysNm220_ren := {
 mixed := by kernel_rfl
 f20 := Tryz.func138.trans (congrArg some (by kernel_rfl))
 t0 := Tryz.underlying0
 a0 := Tryz.isAgg0
 z0 := Tryz.sizeOf0
 v0 := Tryz.zeroValue0
 t3 := Tryz.underlying3
 a3 := Tryz.isAgg3
 z3 := Tryz.sizeOf3
 v3 := Tryz.zeroValue3
 t4 := Tryz.underlying4
 a4 := Tryz.isAgg4
 z4 := Tryz.sizeOf4
 v4 := Tryz.zeroValue4
 t22 := Tryz.underlying46
 a22 := Tryz.isAgg46
 z22 := Tryz.sizeOf46
 v22 := Tryz.zeroValue46
 i3 := by kernel_rfl }
open Go.RowKit Go.Lib Go.Sort in
theorem Tryz.slices_Compact_int (blk off cap : Nat) (zs : List Int) (w : World) (hH : Holds (Value.int .i64) w blk off zs.toArray) (hsz : zs.length ≤ 9223372036854775807) (hcap : zs.length ≤ cap) :
  Calls Tryz.prog 138 #[.slice (some ⟨blk, off, none⟩) zs.length cap] w fun e w' => e = .returned (.slice (some ⟨blk, off, none⟩) (Lib.compact zs).length cap) ∧ ∃ q, w' = putRow (Value.int .i64) (Sort.ahead w q) blk off (Lib.compact zs ++ List.replicate (zs.length - (Lib.compact zs).length) 0).toArray := Any.slices_Compact_int Tryz.laysNm220 blk off cap zs w hH hsz hcap
def Tryz.lays194_ren : Go.Shelf.Ren := ⟨fun | 194 => 84 | n => n, fun | 31 => 25 | 9 => 9 | 3 => 3 | 4 => 4 | 0 => 0 | n => n, fun | n => n⟩
theorem Tryz.lays194 : Go.Proofs.Lays.n194 Tryz.prog Tryz.lays194_ren := {
 mixed := by kernel_rfl
 f194 := Tryz.func84.trans (congrArg some (by kernel_rfl))
 t0 := Tryz.underlying0
 a0 := Tryz.isAgg0
 z0 := Tryz.sizeOf0
 v0 := Tryz.zeroValue0
 t3 := Tryz.underlying3
 a3 := Tryz.isAgg3
 z3 := Tryz.sizeOf3
 v3 := Tryz.zeroValue3
 t4 := Tryz.underlying4
 a4 := Tryz.isAgg4
 z4 := Tryz.sizeOf4
 v4 := Tryz.zeroValue4
 t9 := Tryz.underlying9
 a9 := Tryz.isAgg9
 z9 := Tryz.sizeOf9
 v9 := Tryz.zeroValue9
 t31 := Tryz.underlying25
 a31 := Tryz.isAgg25
 z31 := Tryz.sizeOf25
 v31 := Tryz.zeroValue25 }
open Go.RowKit Go.Lib Go.Sort in
theorem Tryz.slices_Compact_string (blk off cap : Nat) (zs : List (List UInt8)) (w : World) (hH : Holds encStr w blk off zs.toArray) (hsz : zs.length ≤ 9223372036854775807) (hcap : zs.length ≤ cap) :
  Calls Tryz.prog 84 #[.slice (some ⟨blk, off, none⟩) zs.length cap] w fun e w' => e = .returned (.slice (some ⟨blk, off, none⟩) (Lib.compact zs).length cap) ∧ ∃ q, w' = putRow encStr (Sort.ahead w q) blk off (Lib.compact zs ++ List.replicate (zs.length - (Lib.compact zs).length) []).toArray := Any.slices_Compact_string Tryz.lays194 blk off cap zs w hH hsz hcap
open Go.RowKit Go.Lib Go.Sort in
theorem Tryz.slices_Compact_string_empty (a : Option Addr) (cap : Nat) (w : World) :
  Calls Tryz.prog 84 #[.slice a 0 cap] w fun e w' => e = .returned (.slice a 0 cap) ∧ w' = w := Any.slices_Compact_string_empty Tryz.lays194 a cap w
def Tryz.laysSlM5_f227_ren : Go.Shelf.Ren := ⟨fun | 5 => 227 | 8 => 155 | 7 => 305 | 19 => 248 | 20 => 249 | 10 => 357 | 11 => 358 | 12 => 359 | 13 => 360 | 14 => 361 | 15 => 362 | 16 => 363 | 17 => 364 | 18 => 365 | 30 => 388 | 31 => 316 | 32 => 317 | 33 => 389 | 34 => 390 | 35 => 137 | 40 => 406 | n => n, fun | 23 => 46 | 25 => 3 | 3 => 3 | 32 => 218 | 22 => 46 | 0 => 0 | 44 => 275 | 46 => 277 | 4 => 4 | 36 => 269 | 35 => 268 | 41 => 246 | 5 => 5 | 9 => 9 | 53 => 319 | 57 => 323 | 63 => 353 | 64 => 327 | n => n, fun | n => n⟩
theorem Tryz.laysSlM5_f227 : Go.Proofs.SlLaysM.n5 Tryz.prog Tryz.laysSlM5_f227_ren := {
 mixed := by kernel_rfl
 f5 := ⟨Tryz.f227.name, by decide, Tryz.func227.trans (congrArg some (by kernel_rfl))⟩
 f7 := ⟨Tryz.f305.name, by decide, Tryz.func305.trans (congrArg some (by kernel_rfl))⟩
 f8 := Tryz.func155.trans (congrArg some (by kernel_rfl))
 f10 := ⟨Tryz.f357.name, by decide, Tryz.func357.trans (congrArg some (by kernel_rfl))⟩
 f11 := ⟨Tryz.f358.name, by decide, Tryz.func358.trans (congrArg some (by kernel_rfl))⟩
 f12 := ⟨Tryz.f359.name, by decide, Tryz.func359.trans (congrArg some (by kernel_rfl))⟩
 f13 := ⟨Tryz.f360.name, by decide, Tryz.func360.trans (congrArg some (by kernel_rfl))⟩
 f14 := ⟨Tryz.f361.name, by decide, Tryz.func361.trans (congrArg some (by kernel_rfl))⟩
 f15 := ⟨Tryz.f362.name, by decide, Tryz.func362.trans (congrArg some (by kernel_rfl))⟩
 f16 := ⟨Tryz.f363.name, by decide, Tryz.func363.trans (congrArg some (by kernel_rfl))⟩
 f17 := ⟨Tryz.f364.name, by decide, Tryz.func364.trans (congrArg some (by kernel_rfl))⟩
 f18 := ⟨Tryz.f365.name, by decide, Tryz.func365.trans (congrArg some (by kernel_rfl))⟩
 f19 := Tryz.func248.trans (congrArg some (by kernel_rfl))
 f20 := Tryz.func249.trans (congrArg some (by kernel_rfl))
 f30 := ⟨Tryz.f388.name, by decide, Tryz.func388.trans (congrArg some (by kernel_rfl))⟩
 f31 := Tryz.func316.trans (congrArg some (by kernel_rfl))
 f32 := Tryz.func317.trans (congrArg some (by kernel_rfl))
 f33 := ⟨Tryz.f389.name, by decide, Tryz.func389.trans (congrArg some (by kernel_rfl))⟩
 f34 := ⟨Tryz.f390.name, by decide, Tryz.func390.trans (congrArg some (by kernel_rfl))⟩
 f35 := ⟨Tryz.f137.name, by decide, Tryz.func137.trans (congrArg some (by kernel_rfl))⟩
 f40 := ⟨Tryz.f406.name, by decide, Tryz.func406.trans (congrArg some (by kernel_rfl))⟩
 t0 := Tryz.underlying0
 a0 := Tryz.isAgg0
 z0 := Tryz.sizeOf0
 v0 := Tryz.zeroValue0
 t3 := Tryz.underlying3
 a3 := Tryz.isAgg3
 z3 := Tryz.sizeOf3
 v3 := Tryz.zeroValue3
 t4 := Tryz.underlying4
 a4 := Tryz.isAgg4
 z4 := Tryz.sizeOf4
 v4 := Tryz.zeroValue4
 t5 := Tryz.underlying5
 a5 := Tryz.isAgg5
 z5 := Tryz.sizeOf5
 v5 := Tryz.zeroValue5
 t9 := Tryz.underlying9
 a9 := Tryz.isAgg9
 z9 := Tryz.sizeOf9
 v9 := Tryz.zeroValue9
 t22 := Tryz.underlying46
 a22 := Tryz.isAgg46
 z22 := Tryz.sizeOf46
 v22 := Tryz.zeroValue46
 t23 := Tryz.underlying46
 a23 := Tryz.isAgg46
 z23 := Tryz.sizeOf46
 v23 := Tryz.zeroValue46
 t25 := Tryz.underlying3
 a25 := Tryz.isAgg3
 z25 := Tryz.sizeOf3
 v25 := Tryz.zeroValue3
 t32 := Tryz.underlying218
 a32 := Tryz.isAgg218
 z32 := Tryz.sizeOf218
 v32 := Tryz.zeroValue218
 t35 := Tryz.underlying268
 a35 := Tryz.isAgg268
 z35 := Tryz.sizeOf268
 v35 := Tryz.zeroValue268
 t36 := Tryz.underlying269
 a36 := Tryz.isAgg269
 z36 := Tryz.sizeOf269
 v36 := Tryz.zeroValue269
 t41 := Tryz.underlying246
 a41 := Tryz.isAgg246
 z41 := Tryz.sizeOf246
 v41 := Tryz.zeroValue246
 t44 := Tryz.underlying275
 a44 := Tryz.isAgg275
 z44 := Tryz.sizeOf275
 v44 := Tryz.zeroValue275
 t46 := Tryz.underlying277
 a46 := Tryz.isAgg277
 z46 := Tryz.sizeOf277
 v46 := Tryz.zeroValue277
 t53 := Tryz.underlying319
 a53 := Tryz.isAgg319
 z53 := Tryz.sizeOf319
 v53 := Tryz.zeroValue319
 t57 := Tryz.underlying323
 a57 := Tryz.isAgg323
 z57 := Tryz.sizeOf323
 v57 := Tryz.zeroValue323
 t63 := Tryz.underlying353
 a63 := Tryz.isAgg353
 z63 := Tryz.sizeOf353
 v63 := Tryz.zeroValue353
 t64 := Tryz.underlying327
 a64 := Tryz.isAgg327
 z64 := Tryz.sizeOf327
 v64 := Tryz.zeroValue327 }
open Go.Sort Go.RowKit in
theorem Tryz.slices_Sort_int (blk off cap : Nat) (zs : List Int) (w : World) (hH : Holds (Value.int .i64) w blk off zs.toArray) (hblk : blk < w.heap.size) (hsz : zs.length < 4611686018427387904) :
  Calls Tryz.prog 227 #[.slice (some ⟨blk, off, none⟩) zs.length cap] w fun e w' =>
   e = .returned (.tuple #[]) ∧ ∃ n os, w' = grow (putRow (Value.int .i64) (Sort.ahead w n) blk off (zs.mergeSort fun x y => decide (x ≤ y)).toArray) os := AnyM.slices_Sort_int Tryz.laysSlM5_f227 blk off cap zs w hH hblk hsz
def Tryz.laysSlM6_f123_ren : Go.Shelf.Ren := ⟨fun | 6 => 123 | 8 => 155 | 9 => 217 | 19 => 248 | 20 => 249 | 21 => 286 | 22 => 287 | 23 => 288 | 24 => 289 | 25 => 290 | 26 => 291 | 27 => 292 | 28 => 293 | 29 => 294 | 36 => 351 | 31 => 316 | 32 => 317 | 37 => 352 | 38 => 353 | 39 => 311 | 41 => 386 | n => n, fun | 27 => 25 | 29 => 9 | 3 => 3 | 32 => 218 | 26 => 25 | 0 => 0 | 44 => 275 | 46 => 277 | 4 => 4 | 36 => 269 | 35 => 268 | 41 => 246 | 5 => 5 | 9 => 9 | 53 => 319 | 57 => 323 | 63 => 353 | 64 => 327 | n => n, fun | n => n⟩
theorem Tryz.laysSlM6_f123 : Go.Proofs.SlLaysM.n6 Tryz.prog Tryz.laysSlM6_f123_ren := {
 mixed := by kernel_rfl
 f6 := ⟨Tryz.f123.name, by decide, Tryz.func123.trans (congrArg some (by kernel_rfl))⟩
 f8 := Tryz.func155.trans (congrArg some (by kernel_rfl))
 f9 := ⟨Tryz.f217.name, by decide, Tryz.func217.trans (congrArg some (by kernel_rfl))⟩
 f19 := Tryz.func248.trans (congrArg some (by kernel_rfl))
 f20 := Tryz.func249.trans (congrArg some (by kernel_rfl))
 f21 := ⟨Tryz.f286.name, by decide, Tryz.func286.trans (congrArg some (by kernel_rfl))⟩
 f22 := ⟨Tryz.f287.name, by decide, Tryz.func287.trans (congrArg some (by kernel_rfl))⟩
 f23 := ⟨Tryz.f288.name, by decide, Tryz.func288.trans (congrArg some (by kernel_rfl))⟩
 f24 := ⟨Tryz.f289.name, by decide, Tryz.func289.trans (congrArg some (by kernel_rfl))⟩
 f25 := ⟨Tryz.f290.name, by decide, Tryz.func290.trans (congrArg some (by kernel_rfl))⟩
 f26 := ⟨Tryz.f291.name, by decide, Tryz.func291.trans (congrArg some (by kernel_rfl))⟩
 f27 := ⟨Tryz.f292.name, by decide, Tryz.func292.trans (congrArg some (by kernel_rfl))⟩
 f28 := ⟨Tryz.f293.name, by decide, Tryz.func293.trans (congrArg some (by kernel_rfl))⟩
 f29 := ⟨Tryz.f294.name, by decide, Tryz.func294.trans (congrArg some (by kernel_rfl))⟩
 f31 := Tryz.func316.trans (congrArg some (by kernel_rfl))
 f32 := Tryz.func317.trans (congrArg some (by kernel_rfl))
 f36 := ⟨Tryz.f351.name, by decide, Tryz.func351.trans (congrArg some (by kernel_rfl))⟩
 f37 := ⟨Tryz.f352.name, by decide, Tryz.func352.trans (congrArg some (by kernel_rfl))⟩
 f38 := ⟨Tryz.f353.name, by decide, Tryz.func353.trans (congrArg some (by kernel_rfl))⟩
 f39 := ⟨Tryz.f311.name, by decide, Tryz.func311.trans (congrArg some (by kernel_rfl))⟩
 f41 := ⟨Tryz.f386.name, by decide, Tryz.func386.trans (congrArg some (by kernel_rfl))⟩
 t0 := Tryz.underlying0
 a0 := Tryz.isAgg0
 z0 := Tryz.sizeOf0
 v0 := Tryz.zeroValue0
 t3 := Tryz.underlying3
 a3 := Tryz.isAgg3
 z3 := Tryz.sizeOf3
 v3 := Tryz.zeroValue3
 t4 := Tryz.underlying4
 a4 := Tryz.isAgg4
 z4 := Tryz.sizeOf4
 v4 := Tryz.zeroValue4
 t5 := Tryz.underlying5
 a5 := Tryz.isAgg5
 z5 := Tryz.sizeOf5
 v5 := Tryz.zeroValue5
 t9 := Tryz.underlying9
 a9 := Tryz.isAgg9
 z9 := Tryz.sizeOf9
 v9 := Tryz.zeroValue9
 t26 := Tryz.underlying25
 a26 := Tryz.isAgg25
 z26 := Tryz.sizeOf25
 v26 := Tryz.zeroValue25
 t27 := Tryz.underlying25
 a27 := Tryz.isAgg25
 z27 := Tryz.sizeOf25
 v27 := Tryz.zeroValue25
 t29 := Tryz.underlying9
 a29 := Tryz.isAgg9
 z29 := Tryz.sizeOf9
 v29 := Tryz.zeroValue9
 t32 := Tryz.underlying218
 a32 := Tryz.isAgg218
 z32 := Tryz.sizeOf218
 v32 := Tryz.zeroValue218
 t35 := Tryz.underlying268
 a35 := Tryz.isAgg268
 z35 := Tryz.sizeOf268
 v35 := Tryz.zeroValue268
 t36 := Tryz.underlying269
 a36 := Tryz.isAgg269
 z36 := Tryz.sizeOf269
 v36 := Tryz.zeroValue269
 t41 := Tryz.underlying246
 a41 := Tryz.isAgg246
 z41 := Tryz.sizeOf246
 v41 := Tryz.zeroValue246
 t44 := Tryz.underlying275
 a44 := Tryz.isAgg275
 z44 := Tryz.sizeOf275
 v44 := Tryz.zeroValue275
 t46 := Tryz.underlying277
 a46 := Tryz.isAgg277
 z46 := Tryz.sizeOf277
 v46 := Tryz.zeroValue277
 t53 := Tryz.underlying319
 a53 := Tryz.isAgg319
 z53 := Tryz.sizeOf319
 v53 := Tryz.zeroValue319
 t57 := Tryz.underlying323
 a57 := Tryz.isAgg323
 z57 := Tryz.sizeOf323
 v57 := Tryz.zeroValue323
 t63 := Tryz.underlying353
 a63 := Tryz.isAgg353
 z63 := Tryz.sizeOf353
 v63 := Tryz.zeroValue353
 t64 := Tryz.underlying327
 a64 := Tryz.isAgg327
 z64 := Tryz.sizeOf327
 v64 := Tryz.zeroValue327 }
open Go.Sort Go.RowKit in
theorem Tryz.slices_Sort_string (blk off cap : Nat) (ss : List (List UInt8)) (w : World) (hH : Holds encStr w blk off ss.toArray) (hblk : blk < w.heap.size) (hsz : ss.length < 4611686018427387904) :
  Calls Tryz.prog 123 #[.slice (some ⟨blk, off, none⟩) ss.length cap] w fun e w' =>
   e = .returned (.tuple #[]) ∧ ∃ n os, w' = grow (putRow encStr (Sort.ahead w n) blk off (ss.mergeSort fun x y => decide (x ≤ y)).toArray) os := AnyM.slices_Sort_string Tryz.laysSlM6_f123 blk off cap ss w hH hblk hsz
open Go.RowKit Go.Sort in
theorem Tryz.slices_Sort_string_none (p : Option Addr) (cap : Nat) (w : World) :
  Calls Tryz.prog 123 #[.slice p 0 cap] w fun e w' => e = .returned (.tuple #[]) ∧ w' = w := AnyM.slices_Sort_string_none Tryz.laysSlM6_f123 p cap w
open Go.RowKit Go.Sort in
theorem Tryz.slices_Sort_int_none (p : Option Addr) (cap : Nat) (w : World) :
  Calls Tryz.prog 227 #[.slice p 0 cap] w fun e w' => e = .returned (.tuple #[]) ∧ w' = w := AnyM.slices_Sort_int_none Tryz.laysSlM5_f227 p cap w
def Tryz.sorted58_ren : Go.Shelf.Ren := ⟨fun | 6 => 82 | 8 => 169 | 9 => 123 | 11 => 254 | 13 => 155 | 12 => 217 | 23 => 248 | 24 => 249 | 14 => 286 | 15 => 287 | 16 => 288 | 17 => 289 | 18 => 290 | 19 => 291 | 20 => 292 | 21 => 293 | 22 => 294 | 25 => 351 | 26 => 316 | 27 => 317 | 28 => 352 | 29 => 353 | 30 => 311 | 31 => 386 | n => n, fun | 26 => 9 | 28 => 153 | 24 => 25 | 0 => 0 | 3 => 3 | 37 => 218 | 48 => 275 | 50 => 277 | 4 => 4 | 40 => 269 | 39 => 268 | 45 => 246 | 5 => 5 | 9 => 9 | 51 => 319 | 55 => 323 | 57 => 353 | 58 => 327 | 33 => 162 | n => n, fun | n => n⟩
theorem Tryz.sorted58 : Go.Proofs.SlLaysZ.n6 Tryz.prog Tryz.sorted58_ren := {
 mixed := by kernel_rfl
 f6 := ⟨Tryz.f82.name, by decide, Tryz.func82.trans (congrArg some (by kernel_rfl))⟩
 f8 := ⟨Tryz.f169.name, by decide, Tryz.func169.trans (congrArg some (by kernel_rfl))⟩
 f11 := ⟨Tryz.f254.name, by decide, Tryz.func254.trans (congrArg some (by kernel_rfl))⟩
 t0 := Tryz.underlying0
 a0 := Tryz.isAgg0
 z0 := Tryz.sizeOf0
 v0 := Tryz.zeroValue0
 t24 := Tryz.underlying25
 a24 := Tryz.isAgg25
 z24 := Tryz.sizeOf25
 v24 := Tryz.zeroValue25
 t26 := Tryz.underlying9
 a26 := Tryz.isAgg9
 z26 := Tryz.sizeOf9
 v26 := Tryz.zeroValue9
 t28 := Tryz.underlying153
 a28 := Tryz.isAgg153
 z28 := Tryz.sizeOf153
 v28 := Tryz.zeroValue153
 i26 := by kernel_rfl }
def Tryz.sorted58i_ren : Go.Shelf.Ren := ⟨fun | 6 => 139 | 8 => 226 | 9 => 227 | 11 => 304 | 13 => 155 | 12 => 305 | 23 => 248 | 24 => 249 | 14 => 357 | 15 => 358 | 16 => 359 | 17 => 360 | 18 => 361 | 19 => 362 | 20 => 363 | 21 => 364 | 22 => 365 | 25 => 388 | 26 => 316 | 27 => 317 | 28 => 389 | 29 => 390 | 30 => 137 | 31 => 406 | n => n, fun | 26 => 3 | 28 => 203 | 24 => 46 | 0 => 0 | 3 => 3 | 37 => 218 | 48 => 275 | 50 => 277 | 4 => 4 | 40 => 269 | 39 => 268 | 45 => 246 | 5 => 5 | 9 => 9 | 51 => 319 | 55 => 323 | 57 => 353 | 58 => 327 | 33 => 196 | n => n, fun | n => n⟩
theorem Tryz.sorted58i : Go.Proofs.SlLaysZI.n6 Tryz.prog Tryz.sorted58i_ren := {
 mixed := by kernel_rfl
 f6 := ⟨Tryz.f139.name, by decide, Tryz.func139.trans (congrArg some (by kernel_rfl))⟩
 f8 := ⟨Tryz.f226.name, by decide, Tryz.func226.trans (congrArg some (by kernel_rfl))⟩
 f11 := ⟨Tryz.f304.name, by decide, Tryz.func304.trans (congrArg some (by kernel_rfl))⟩
 t0 := Tryz.underlying0
 a0 := Tryz.isAgg0
 z0 := Tryz.sizeOf0
 v0 := Tryz.zeroValue0
 t24 := Tryz.underlying46
 a24 := Tryz.isAgg46
 z24 := Tryz.sizeOf46
 v24 := Tryz.zeroValue46
 t26 := Tryz.underlying3
 a26 := Tryz.isAgg3
 z26 := Tryz.sizeOf3
 v26 := Tryz.zeroValue3
 t28 := Tryz.underlying203
 a28 := Tryz.isAgg203
 z28 := Tryz.sizeOf203
 v28 := Tryz.zeroValue203
 i26 := by kernel_rfl }
def Tryz.sortInt_ren : Go.Shelf.Ren := ⟨fun | 6 => 125 | 15 => 155 | 14 => 218 | 28 => 248 | 29 => 249 | 20 => 295 | 21 => 296 | 22 => 297 | 23 => 298 | 24 => 299 | 25 => 300 | 26 => 301 | 27 => 302 | 46 => 354 | 47 => 316 | 48 => 317 | 49 => 355 | 50 => 356 | 57 => 387 | n => n, fun | 22 => 46 | 24 => 3 | 25 => 122 | 3 => 3 | 39 => 218 | 0 => 0 | 53 => 275 | 55 => 277 | 4 => 4 | 46 => 269 | 45 => 268 | 50 => 246 | 5 => 5 | 9 => 9 | 66 => 319 | 70 => 323 | 76 => 353 | 77 => 327 | n => n, fun | n => n⟩
theorem Tryz.sortInt : Go.Proofs.SlLaysF.n6 Tryz.prog Tryz.sortInt_ren := {
 mixed := by kernel_rfl
 f6 := ⟨Tryz.f125.name, by decide, Tryz.func125.trans (congrArg some (by kernel_rfl))⟩
 f14 := ⟨Tryz.f218.name, by decide, Tryz.func218.trans (congrArg some (by kernel_rfl))⟩
 f15 := Tryz.func155.trans (congrArg some (by kernel_rfl))
 f20 := ⟨Tryz.f295.name, by decide, Tryz.func295.trans (congrArg some (by kernel_rfl))⟩
 f21 := ⟨Tryz.f296.name, by decide, Tryz.func296.trans (congrArg some (by kernel_rfl))⟩
 f22 := ⟨Tryz.f297.name, by decide, Tryz.func297.trans (congrArg some (by kernel_rfl))⟩
 f23 := ⟨Tryz.f298.name, by decide, Tryz.func298.trans (congrArg some (by kernel_rfl))⟩
 f24 := ⟨Tryz.f299.name, by decide, Tryz.func299.trans (congrArg some (by kernel_rfl))⟩
 f25 := ⟨Tryz.f300.name, by decide, Tryz.func300.trans (congrArg some (by kernel_rfl))⟩
 f26 := ⟨Tryz.f301.name, by decide, Tryz.func301.trans (congrArg some (by kernel_rfl))⟩
 f27 := ⟨Tryz.f302.name, by decide, Tryz.func302.trans (congrArg some (by kernel_rfl))⟩
 f28 := Tryz.func248.trans (congrArg some (by kernel_rfl))
 f29 := Tryz.func249.trans (congrArg some (by kernel_rfl))
 f46 := ⟨Tryz.f354.name, by decide, Tryz.func354.trans (congrArg some (by kernel_rfl))⟩
 f47 := Tryz.func316.trans (congrArg some (by kernel_rfl))
 f48 := Tryz.func317.trans (congrArg some (by kernel_rfl))
 f49 := ⟨Tryz.f355.name, by decide, Tryz.func355.trans (congrArg some (by kernel_rfl))⟩
 f50 := ⟨Tryz.f356.name, by decide, Tryz.func356.trans (congrArg some (by kernel_rfl))⟩
 f57 := ⟨Tryz.f387.name, by decide, Tryz.func387.trans (congrArg some (by kernel_rfl))⟩
 t0 := Tryz.underlying0
 a0 := Tryz.isAgg0
 z0 := Tryz.sizeOf0
 v0 := Tryz.zeroValue0
 t3 := Tryz.underlying3
 a3 := Tryz.isAgg3
 z3 := Tryz.sizeOf3
 v3 := Tryz.zeroValue3
 t4 := Tryz.underlying4
 a4 := Tryz.isAgg4
 z4 := Tryz.sizeOf4
 v4 := Tryz.zeroValue4
 t5 := Tryz.underlying5
 a5 := Tryz.isAgg5
 z5 := Tryz.sizeOf5
 v5 := Tryz.zeroValue5
 t9 := Tryz.underlying9
 a9 := Tryz.isAgg9
 z9 := Tryz.sizeOf9
 v9 := Tryz.zeroValue9
 t22 := Tryz.underlying46
 a22 := Tryz.isAgg46
 z22 := Tryz.sizeOf46
 v22 := Tryz.zeroValue46
 a24 := Tryz.isAgg3
 z24 := Tryz.sizeOf3
 t25 := Tryz.underlying122
 a25 := Tryz.isAgg122
 z25 := Tryz.sizeOf122
 v25 := Tryz.zeroValue122
 t39 := Tryz.underlying218
 a39 := Tryz.isAgg218
 z39 := Tryz.sizeOf218
 v39 := Tryz.zeroValue218
 t45 := Tryz.underlying268
 a45 := Tryz.isAgg268
 z45 := Tryz.sizeOf268
 v45 := Tryz.zeroValue268
 t46 := Tryz.underlying269
 a46 := Tryz.isAgg269
 z46 := Tryz.sizeOf269
 v46 := Tryz.zeroValue269
 t50 := Tryz.underlying246
 a50 := Tryz.isAgg246
 z50 := Tryz.sizeOf246
 v50 := Tryz.zeroValue246
 t53 := Tryz.underlying275
 a53 := Tryz.isAgg275
 z53 := Tryz.sizeOf275
 v53 := Tryz.zeroValue275
 t55 := Tryz.underlying277
 a55 := Tryz.isAgg277
 z55 := Tryz.sizeOf277
 v55 := Tryz.zeroValue277
 t66 := Tryz.underlying319
 a66 := Tryz.isAgg319
 z66 := Tryz.sizeOf319
 v66 := Tryz.zeroValue319
 t70 := Tryz.underlying323
 a70 := Tryz.isAgg323
 z70 := Tryz.sizeOf323
 v70 := Tryz.zeroValue323
 t76 := Tryz.underlying353
 a76 := Tryz.isAgg353
 z76 := Tryz.sizeOf353
 v76 := Tryz.zeroValue353
 t77 := Tryz.underlying327
 a77 := Tryz.isAgg327
 z77 := Tryz.sizeOf327
 v77 := Tryz.zeroValue327 }
def Tryz.sortRow_ren : Go.Shelf.Ren := ⟨fun | 6 => 63 | 15 => 155 | 14 => 154 | 28 => 248 | 29 => 249 | 20 => 240 | 21 => 241 | 22 => 242 | 23 => 243 | 24 => 244 | 25 => 245 | 26 => 246 | 27 => 247 | 46 => 315 | 47 => 316 | 48 => 317 | 49 => 318 | 50 => 319 | 57 => 375 | n => n, fun | 22 => 40 | 24 => 46 | 25 => 138 | 3 => 3 | 39 => 218 | 0 => 0 | 53 => 275 | 55 => 277 | 4 => 4 | 46 => 269 | 45 => 268 | 50 => 246 | 5 => 5 | 9 => 9 | 66 => 319 | 70 => 323 | 76 => 353 | 77 => 327 | n => n, fun | n => n⟩
theorem Tryz.sortRow : Go.Proofs.SlLaysF.n6 Tryz.prog Tryz.sortRow_ren := {
 mixed := by kernel_rfl
 f6 := ⟨Tryz.f63.name, by decide, Tryz.func63.trans (congrArg some (by kernel_rfl))⟩
 f14 := ⟨Tryz.f154.name, by decide, Tryz.func154.trans (congrArg some (by kernel_rfl))⟩
 f15 := Tryz.func155.trans (congrArg some (by kernel_rfl))
 f20 := ⟨Tryz.f240.name, by decide, Tryz.func240.trans (congrArg some (by kernel_rfl))⟩
 f21 := ⟨Tryz.f241.name, by decide, Tryz.func241.trans (congrArg some (by kernel_rfl))⟩
 f22 := ⟨Tryz.f242.name, by decide, Tryz.func242.trans (congrArg some (by kernel_rfl))⟩
 f23 := ⟨Tryz.f243.name, by decide, Tryz.func243.trans (congrArg some (by kernel_rfl))⟩
 f24 := ⟨Tryz.f244.name, by decide, Tryz.func244.trans (congrArg some (by kernel_rfl))⟩
 f25 := ⟨Tryz.f245.name, by decide, Tryz.func245.trans (congrArg some (by kernel_rfl))⟩
 f26 := ⟨Tryz.f246.name, by decide, Tryz.func246.trans (congrArg some (by kernel_rfl))⟩
 f27 := ⟨Tryz.f247.name, by decide, Tryz.func247.trans (congrArg some (by kernel_rfl))⟩
 f28 := Tryz.func248.trans (congrArg some (by kernel_rfl))
 f29 := Tryz.func249.trans (congrArg some (by kernel_rfl))
 f46 := ⟨Tryz.f315.name, by decide, Tryz.func315.trans (congrArg some (by kernel_rfl))⟩
 f47 := Tryz.func316.trans (congrArg some (by kernel_rfl))
 f48 := Tryz.func317.trans (congrArg some (by kernel_rfl))
 f49 := ⟨Tryz.f318.name, by decide, Tryz.func318.trans (congrArg some (by kernel_rfl))⟩
 f50 := ⟨Tryz.f319.name, by decide, Tryz.func319.trans (congrArg some (by kernel_rfl))⟩
 f57 := ⟨Tryz.f375.name, by decide, Tryz.func375.trans (congrArg some (by kernel_rfl))⟩
 t0 := Tryz.underlying0
 a0 := Tryz.isAgg0
 z0 := Tryz.sizeOf0
 v0 := Tryz.zeroValue0
 t3 := Tryz.underlying3
 a3 := Tryz.isAgg3
 z3 := Tryz.sizeOf3
 v3 := Tryz.zeroValue3
 t4 := Tryz.underlying4
 a4 := Tryz.isAgg4
 z4 := Tryz.sizeOf4
 v4 := Tryz.zeroValue4
 t5 := Tryz.underlying5
 a5 := Tryz.isAgg5
 z5 := Tryz.sizeOf5
 v5 := Tryz.zeroValue5
 t9 := Tryz.underlying9
 a9 := Tryz.isAgg9
 z9 := Tryz.sizeOf9
 v9 := Tryz.zeroValue9
 t22 := Tryz.underlying40
 a22 := Tryz.isAgg40
 z22 := Tryz.sizeOf40
 v22 := Tryz.zeroValue40
 a24 := Tryz.isAgg46
 z24 := Tryz.sizeOf46
 t25 := Tryz.underlying138
 a25 := Tryz.isAgg138
 z25 := Tryz.sizeOf138
 v25 := Tryz.zeroValue138
 t39 := Tryz.underlying218
 a39 := Tryz.isAgg218
 z39 := Tryz.sizeOf218
 v39 := Tryz.zeroValue218
 t45 := Tryz.underlying268
 a45 := Tryz.isAgg268
 z45 := Tryz.sizeOf268
 v45 := Tryz.zeroValue268
 t46 := Tryz.underlying269
 a46 := Tryz.isAgg269
 z46 := Tryz.sizeOf269
 v46 := Tryz.zeroValue269
 t50 := Tryz.underlying246
 a50 := Tryz.isAgg246
 z50 := Tryz.sizeOf246
 v50 := Tryz.zeroValue246
 t53 := Tryz.underlying275
 a53 := Tryz.isAgg275
 z53 := Tryz.sizeOf275
 v53 := Tryz.zeroValue275
 t55 := Tryz.underlying277
 a55 := Tryz.isAgg277
 z55 := Tryz.sizeOf277
 v55 := Tryz.zeroValue277
 t66 := Tryz.underlying319
 a66 := Tryz.isAgg319
 z66 := Tryz.sizeOf319
 v66 := Tryz.zeroValue319
 t70 := Tryz.underlying323
 a70 := Tryz.isAgg323
 z70 := Tryz.sizeOf323
 v70 := Tryz.zeroValue323
 t76 := Tryz.underlying353
 a76 := Tryz.isAgg353
 z76 := Tryz.sizeOf353
 v76 := Tryz.zeroValue353
 t77 := Tryz.underlying327
 a77 := Tryz.isAgg327
 z77 := Tryz.sizeOf327
 v77 := Tryz.zeroValue327 }
end Go.Proofs
