/- DERIVED: THE SHELF's CONTRACTS AT THIS DUMP, IN PLAIN WORDS (tools/lay-plain.mjs out of 'TryzIter.lean', which tools/lay-shelf.mjs wrote): THE SAME DECLARATIONS UNDER THE SAME NAMES: 'import', 'namespace', 'open', 'def', 'theorem' AND NOTHING ELSE: no command of the shelf's: FOR A HAND-IN; DERIVED: THE SHELF's CONTRACTS AT THIS DUMP, IN PLAIN WORDS (tools/lay-plain.mjs out of 'TryzIterU.lean', which tools/lay-shelf.mjs wrote): THE SAME DECLARATIONS UNDER THE SAME NAMES: 'import', 'namespace', 'open', 'def', 'theorem' AND NOTHING ELSE: no command of the shelf's: FOR A HAND-IN; Natural numbers a. Conditions: each part's own, as it says. -/
import Derived.Shelf.SlIter.Sorted
import Derived.Ground.GgzProg
import Derived.Test.YtibfalecohlngaaGreatDoorProg
import Derived.Shelf.SlIter.Nil
import Derived.Shelf.SortM.Plain
import Derived.Shelf.SortM.SortNone
import Derived.Ground.SlgmProg
import Derived.Test.YtibfalecohlngaaGreatDoorGC
import Derived.Test.YtibfalecohlngaaGreatDoorGS
import Derived.Sort.OwnSorted
import Derived.Shelf.AbstractIn
import Derived.RangeFuncBound
import Derived.OwnWalkIn
import Derived.TacticsInMore
import Derived.LoopNIn
import Derived.LoopIn
import Derived.WalkKit
import Derived.Test.YtibfalecohlngaaGreatDoorMA
import Derived.Lib.SlicesCompact
import Derived.Test.YtibfalecohlngaaGreatDoorMF
set_option linter.unusedVariables false
set_option linter.unusedSimpArgs false
namespace Go.Proofs
open Go.Shelf
def Tryz.keysU_ren : Go.Shelf.Ren := ⟨fun | 7 => 241 | 10 => 291 | n => n, fun | 23 => 231 | 26 => 9 | 3 => 4 | 28 => 214 | 0 => 0 | 27 => 213 | 33 => 109 | 4 => 4 | n => n, fun | n => n⟩
theorem Tryz.keysU : Go.Proofs.SlLaysZ.n7 Tryz.prog Tryz.keysU_ren := {
 mixed := by kernel_rfl
 f7 := ⟨Tryz.f241.name, by decide, func241.trans (congrArg some (by kernel_rfl))⟩
 f10 := ⟨Tryz.f291.name, by decide, func291.trans (congrArg some (by kernel_rfl))⟩
 t0 := underlying0
 a0 := Tryz.isAgg0
 z0 := Tryz.sizeOf0
 v0 := Tryz.zeroValue0
 t4 := underlying4
 a4 := Tryz.isAgg4
 z4 := Tryz.sizeOf4
 v4 := Tryz.zeroValue4
 t23 := underlying231
 a23 := Tryz.isAgg231
 z23 := Tryz.sizeOf231
 v23 := Tryz.zeroValue231
 t26 := underlying9
 a26 := Tryz.isAgg9
 z26 := Tryz.sizeOf9
 v26 := Tryz.zeroValue9
 t27 := underlying213
 a27 := Tryz.isAgg213
 z27 := Tryz.sizeOf213
 v27 := Tryz.zeroValue213
 t28 := underlying214
 a28 := Tryz.isAgg214
 z28 := Tryz.sizeOf214
 v28 := Tryz.zeroValue214
 t33 := underlying109
 a33 := Tryz.isAgg109
 z33 := Tryz.sizeOf109
 v33 := Tryz.zeroValue109 }
def Tryz.sortedU_ren : Go.Shelf.Ren := ⟨fun | 6 => 223 | 8 => 271 | 9 => 272 | 11 => 316 | 13 => 318 | 12 => 317 | 23 => 351 | 24 => 352 | 14 => 342 | 15 => 343 | 16 => 344 | 17 => 345 | 18 => 346 | 19 => 347 | 20 => 348 | 21 => 349 | 22 => 350 | 25 => 364 | 26 => 365 | 27 => 366 | 28 => 367 | 29 => 368 | 30 => 341 | 31 => 373 | n => n, fun | 26 => 9 | 28 => 214 | 24 => 52 | 0 => 0 | 3 => 3 | 37 => 280 | 48 => 304 | 50 => 267 | 4 => 4 | 40 => 298 | 39 => 297 | 45 => 169 | 5 => 5 | 9 => 9 | 51 => 314 | 55 => 318 | 57 => 322 | 58 => 110 | 33 => 109 | n => n, fun | n => n⟩
theorem Tryz.sortedU : Go.Proofs.SlLaysZ.n6 Tryz.prog Tryz.sortedU_ren := {
 mixed := by kernel_rfl
 f6 := ⟨Tryz.f223.name, by decide, func223.trans (congrArg some (by kernel_rfl))⟩
 f8 := ⟨Tryz.f271.name, by decide, func271.trans (congrArg some (by kernel_rfl))⟩
 f11 := ⟨Tryz.f316.name, by decide, func316.trans (congrArg some (by kernel_rfl))⟩
 t0 := underlying0
 a0 := Tryz.isAgg0
 z0 := Tryz.sizeOf0
 v0 := Tryz.zeroValue0
 t24 := underlying52
 a24 := Tryz.isAgg52
 z24 := Tryz.sizeOf52
 v24 := Tryz.zeroValue52
 t26 := underlying9
 a26 := Tryz.isAgg9
 z26 := Tryz.sizeOf9
 v26 := Tryz.zeroValue9
 t28 := underlying214
 a28 := Tryz.isAgg214
 z28 := Tryz.sizeOf214
 v28 := Tryz.zeroValue214
 i26 := by kernel_rfl }
def Tryz.sortU_ren : Go.Shelf.Ren := ⟨fun | 6 => 272 | 8 => 318 | 9 => 317 | 19 => 351 | 20 => 352 | 21 => 342 | 22 => 343 | 23 => 344 | 24 => 345 | 25 => 346 | 26 => 347 | 27 => 348 | 28 => 349 | 29 => 350 | 36 => 364 | 31 => 365 | 32 => 366 | 37 => 367 | 38 => 368 | 39 => 341 | 41 => 373 | n => n, fun | 27 => 52 | 29 => 9 | 3 => 3 | 32 => 280 | 26 => 52 | 0 => 0 | 44 => 304 | 46 => 267 | 4 => 4 | 36 => 298 | 35 => 297 | 41 => 169 | 5 => 5 | 9 => 9 | 53 => 314 | 57 => 318 | 63 => 322 | 64 => 110 | n => n, fun | n => n⟩
theorem Tryz.sortU : Go.Proofs.SlLaysM.n6 Tryz.prog Tryz.sortU_ren := {
 mixed := by kernel_rfl
 f6 := ⟨Tryz.f272.name, by decide, func272.trans (congrArg some (by kernel_rfl))⟩
 f8 := func318.trans (congrArg some (by kernel_rfl))
 f9 := ⟨Tryz.f317.name, by decide, func317.trans (congrArg some (by kernel_rfl))⟩
 f19 := func351.trans (congrArg some (by kernel_rfl))
 f20 := func352.trans (congrArg some (by kernel_rfl))
 f21 := ⟨Tryz.f342.name, by decide, func342.trans (congrArg some (by kernel_rfl))⟩
 f22 := ⟨Tryz.f343.name, by decide, func343.trans (congrArg some (by kernel_rfl))⟩
 f23 := ⟨Tryz.f344.name, by decide, func344.trans (congrArg some (by kernel_rfl))⟩
 f24 := ⟨Tryz.f345.name, by decide, func345.trans (congrArg some (by kernel_rfl))⟩
 f25 := ⟨Tryz.f346.name, by decide, func346.trans (congrArg some (by kernel_rfl))⟩
 f26 := ⟨Tryz.f347.name, by decide, func347.trans (congrArg some (by kernel_rfl))⟩
 f27 := ⟨Tryz.f348.name, by decide, func348.trans (congrArg some (by kernel_rfl))⟩
 f28 := ⟨Tryz.f349.name, by decide, func349.trans (congrArg some (by kernel_rfl))⟩
 f29 := ⟨Tryz.f350.name, by decide, func350.trans (congrArg some (by kernel_rfl))⟩
 f31 := func365.trans (congrArg some (by kernel_rfl))
 f32 := func366.trans (congrArg some (by kernel_rfl))
 f36 := ⟨Tryz.f364.name, by decide, func364.trans (congrArg some (by kernel_rfl))⟩
 f37 := ⟨Tryz.f367.name, by decide, func367.trans (congrArg some (by kernel_rfl))⟩
 f38 := ⟨Tryz.f368.name, by decide, func368.trans (congrArg some (by kernel_rfl))⟩
 f39 := ⟨Tryz.f341.name, by decide, func341.trans (congrArg some (by kernel_rfl))⟩
 f41 := ⟨Tryz.f373.name, by decide, func373.trans (congrArg some (by kernel_rfl))⟩
 t0 := underlying0
 a0 := Tryz.isAgg0
 z0 := Tryz.sizeOf0
 v0 := Tryz.zeroValue0
 t3 := underlying3
 a3 := Tryz.isAgg3
 z3 := Tryz.sizeOf3
 v3 := Tryz.zeroValue3
 t4 := underlying4
 a4 := Tryz.isAgg4
 z4 := Tryz.sizeOf4
 v4 := Tryz.zeroValue4
 t5 := underlying5
 a5 := Tryz.isAgg5
 z5 := Tryz.sizeOf5
 v5 := Tryz.zeroValue5
 t9 := underlying9
 a9 := Tryz.isAgg9
 z9 := Tryz.sizeOf9
 v9 := Tryz.zeroValue9
 t26 := underlying52
 a26 := Tryz.isAgg52
 z26 := Tryz.sizeOf52
 v26 := Tryz.zeroValue52
 t27 := underlying52
 a27 := Tryz.isAgg52
 z27 := Tryz.sizeOf52
 v27 := Tryz.zeroValue52
 t29 := underlying9
 a29 := Tryz.isAgg9
 z29 := Tryz.sizeOf9
 v29 := Tryz.zeroValue9
 t32 := underlying280
 a32 := Tryz.isAgg280
 z32 := Tryz.sizeOf280
 v32 := Tryz.zeroValue280
 t35 := underlying297
 a35 := Tryz.isAgg297
 z35 := Tryz.sizeOf297
 v35 := Tryz.zeroValue297
 t36 := underlying298
 a36 := Tryz.isAgg298
 z36 := Tryz.sizeOf298
 v36 := Tryz.zeroValue298
 t41 := underlying169
 a41 := Tryz.isAgg169
 z41 := Tryz.sizeOf169
 v41 := Tryz.zeroValue169
 t44 := underlying304
 a44 := Tryz.isAgg304
 z44 := Tryz.sizeOf304
 v44 := Tryz.zeroValue304
 t46 := underlying267
 a46 := Tryz.isAgg267
 z46 := Tryz.sizeOf267
 v46 := Tryz.zeroValue267
 t53 := underlying314
 a53 := Tryz.isAgg314
 z53 := Tryz.sizeOf314
 v53 := Tryz.zeroValue314
 t57 := underlying318
 a57 := Tryz.isAgg318
 z57 := Tryz.sizeOf318
 v57 := Tryz.zeroValue318
 t63 := underlying322
 a63 := Tryz.isAgg322
 z63 := Tryz.sizeOf322
 v63 := Tryz.zeroValue322
 t64 := underlying110
 a64 := Tryz.isAgg110
 z64 := Tryz.sizeOf110
 v64 := Tryz.zeroValue110 }
end Go.Proofs
namespace Go.Proofs.YtibfalecohlngaaGreatDoor
set_option maxRecDepth 4000
def vl : List Int → Nat
 | [] => 0
 | x :: r => x.toNat + 1000000000 * vl r
def minO : Option Nat → Nat → Nat
 | none, x => x
 | some y, x => if x < y then x else y
def stepT (g : Nat → Nat) (set : Nat) (o : Option Nat) (i : Nat) : Option Nat := bif set.testBit i then o else some (minO o (g i))
def tbG (f : Nat → Nat → Nat) (n : Nat) : Nat → Nat → Nat
 | 0, _ => 1
 | k + 1, set => ((List.range n).foldl (stepT (fun i => f set i * tbG f n k (set + 2 ^ i)) set) none).getD 1
def tb (f : Nat → Nat → Nat) (n set : Nat) : Nat := tbG f n (2 ^ n - set) set
open Go Go.Abs Go.Val Go.Proofs.Tryz
end Go.Proofs.YtibfalecohlngaaGreatDoor
namespace Go.Proofs.YtibfalecohlngaaGreatDoor
set_option maxRecDepth 4000
open Go Go.RowKit Go.Maps Go.Sort Go.Shelf Go.Proofs Go.Proofs.Tryz
attribute [local go_sem] Oper.semAt_some
end Go.Proofs.YtibfalecohlngaaGreatDoor
namespace Go.Proofs.YtibfalecohlngaaGreatDoor
set_option maxRecDepth 4000
open Go Go.Abs Go.Val Go.RowKit Go.Sort Go.Proofs Go.Proofs.Tryz
abbrev bu5 (l : List ByteArray) : aa5 := .var 52 (.w (.d (.sl (l.map .str))))
def bu6 (l : List ByteArray) : List (List UInt8) := l.map fun s => s.data.toList
def bu7 (l : List (List UInt8)) : List D := l.map fun b => .str ⟨b.toArray⟩
theorem ab2.lend {F : Nat → Prop} {σ : Sg} {ob : List aa5} {w : World} (h : ab2 E ⟨fun _ => False, 0, []⟩ F σ ob w) : ab2 E ⟨ba8 w ob σ, 0, []⟩ F σ ob w :=
 ⟨h.flt, h.glob, h.len, fun o x p hx hp => (h.obs o x p hx hp).own fun hl hh => hh.2 ⟨o, x, p, hx, hl, hp, rfl⟩, h.inj, fun i p hi => absurd hi (Nat.not_lt_zero _)⟩
theorem aa7.of_below {w w' : World} {O : Nat → Prop} (h : Below w.heap.size w w') (hO : ∀ k, O k → k < w.heap.size) : aa7 O w w' := ⟨h.os, h.tape, h.output, h.size, fun k hk => h.block k (hO k hk), hO⟩
theorem bu8 (l : List (List UInt8)) : (∀ x ∈ bu7 l, x.cells.length = 1) ∧ ∀ x ∈ bu7 l, ∀ c ∈ x.cells, c.one = true := by
 constructor
 ·intro x hx;obtain ⟨u, -, rfl⟩ := fk8.1 hx;rfl
 ·intro x hx c hc;obtain ⟨u, -, rfl⟩ := fk8.1 hx;rw [show (D.str ⟨u.toArray⟩).cells = [D.str ⟨u.toArray⟩] from rfl, fl4] at hc;subst hc;rfl
theorem bu9 {w : World} {F : Nat → Prop} {l : List (List UInt8)} (hl : ∀ b ∈ l, b.length ≤ maxLen) : ∀ (i : Nat) (x : D) (j : Nat) (cd : D), (bu7 l)[i]? = some x → x.cells[j]? = some cd → ∃ v, (l.map encStr)[i * 1 + j]? = some v ∧ Rd w F cd v := by
 intro i x j cd hx hc;rw [bu7, fh1, fh2] at hx;obtain ⟨b, hb, rfl⟩ := hx;rw [show (D.str ⟨b.toArray⟩).cells = [D.str ⟨b.toArray⟩] from rfl] at hc
 cases j with
 | zero =>
  simp at hc;subst hc;refine ⟨_, by rw [Nat.mul_one, fj7, fh1, hb]; rfl, Rd.imm _ ?_⟩;have := hl b (fg9 hb);simpa [Go.Abs.okV, ByteArray.size] using this
 | succ j => simp at hc
def sortU (l : List (List UInt8)) : List (List UInt8) := l.mergeSort fun x y => decide (x ≤ y)
end Go.Proofs.YtibfalecohlngaaGreatDoor
namespace Go.Proofs.YtibfalecohlngaaGreatDoor
set_option maxRecDepth 4000
open Go Go.Abs Go.Val Go.RowKit Go.Proofs.Tryz
def ltP (a b : ByteArray) : Bool := Op.bytesLess a.toList b.toList
theorem bv0 : ∀ a b c : List UInt8, Op.bytesLess a b = true → Op.bytesLess b c = true → Op.bytesLess a c = true
 | _, [], _, h, _ => by rename_i a _ _; cases a <;> simp [Op.bytesLess] at h
 | _, _ :: _, [], _, h => by simp [Op.bytesLess] at h
 | [], _ :: _, _ :: _, _, _ => rfl
 | x :: a, y :: b, z :: c, h1, h2 => by
  simp only [Op.bytesLess, fi1, fg6, decide_eq_true_eq, beq_iff_eq] at h1 h2 ⊢;rcases h1 with p | ⟨p, p'⟩
  ·have p0 : x.toNat < y.toNat := p;rcases h2 with q | ⟨q, -⟩
   ·have q0 : y.toNat < z.toNat := q;exact .inl (show x.toNat < z.toNat by omega)
   ·subst q; exact .inl p
  ·subst p;rcases h2 with q | ⟨q, q'⟩
   ·exact .inl q
   ·exact .inr ⟨q, bv0 a b c p' q'⟩
theorem bv1 {a b : ByteArray} (h : a.toList = b.toList) : a = b := by
 rw [ByteArray.toList_eq, ByteArray.toList_eq] at h;exact ByteArray.ext (Array.toList_inj.1 h)
theorem bv2 (a b : ByteArray) : (a.toList == b.toList) = decide (a = b) := by
 rw [fm3, beq_iff_eq, decide_eq_true_eq];exact ⟨bv1, fun h => by rw [h]⟩
theorem bv3 {a b c : ByteArray} (h1 : ltP a b = true) (h2 : ltP b c = true) : ltP a c = true := bv0 _ _ _ h1 h2
theorem bv4 (a : ByteArray) : ltP a a = false := by
 unfold ltP;rcases dr1 a.toList a.toList with ⟨-, -, h⟩ | ⟨-, -, h⟩ | ⟨h, -, -⟩
 ·exact absurd rfl h
 ·exact absurd rfl h
 ·exact h
theorem bv5 (a b : ByteArray) : ltP a b = true ∨ a = b ∨ ltP b a = true := by
 unfold ltP;rcases dr1 a.toList b.toList with ⟨h, -, -⟩ | ⟨-, h, -⟩ | ⟨-, -, h⟩
 ·exact .inl h
 ·exact .inr (.inr h)
 ·exact .inr (.inl (bv1 h))
theorem bv6 {a b : ByteArray} (h : ltP a b = true) : a ≠ b := fun e => by rw [e, bv4] at h; cases h
theorem bv7 {a b : ByteArray} (h : ltP a b = true) : ltP b a = false := by
 cases h2 : ltP b a with
 | false => rfl
 | true => rw [← bv4 a]; exact (bv3 h h2).symm
abbrev bv8 (l : List ByteArray) : Prop := l.Pairwise fun a b => ltP a b = true
def bv9 (s : ByteArray) : List ByteArray → List ByteArray
 | [] => [s]
 | x :: r => bif ltP x s then x :: bv9 s r else bif x.toList == s.toList then x :: r else s :: x :: r
theorem bw0 {s y : ByteArray} : ∀ {l : List ByteArray}, y ∈ bv9 s l ↔ y = s ∨ y ∈ l
 | [] => by simp [bv9]
 | x :: r => by
  have ih := bw0 (s := s) (y := y) (l := r);unfold bv9
  cases h1 : ltP x s with
  | true => rw [cond_true, fh7, ih, fh7]; exact or_left_comm
  | false =>
   rw [cond_false]
   cases h2 : x.toList == s.toList with
   | true =>
    obtain rfl := bv1 (by simpa using h2 : x.toList = s.toList);rw [cond_true, fh7];exact ⟨.inr, fun h => h.elim .inl id⟩
   | false => rw [cond_false, fh7]
theorem bw1 {s : ByteArray} : ∀ {l : List ByteArray}, bv8 l → bv8 (bv9 s l)
 | [], _ => List.pairwise_singleton _ _
 | x :: r, h => by
  rw [bv8, fq5] at h;unfold bv9
  cases h1 : ltP x s with
  | true =>
   rw [cond_true, bv8, fq5];refine ⟨fun y hy => ?_, bw1 h.2⟩;rcases bw0.1 hy with rfl | hy
   ·exact h1
   ·exact h.1 y hy
  | false =>
   rw [cond_false]
   cases h2 : x.toList == s.toList with
   | true => rw [cond_true]; exact fq5.2 h
   | false =>
    have h3 : ltP s x = true := by
     rcases bv5 x s with h | h | h
     ·rw [h] at h1; cases h1
     ·rw [h, beq_self_eq_true] at h2; cases h2
     ·exact h
    rw [cond_false, bv8, fq5];refine ⟨fun y hy => ?_, fq5.2 h⟩;rcases fh7.1 hy with rfl | hy
    ·exact h3
    ·exact bv3 h3 (h.1 y hy)
theorem bw2 : ∀ {a b : List ByteArray}, bv8 a → bv8 b → (∀ x, x ∈ a ↔ x ∈ b) → a = b
 | [], [], _, _, _ => rfl
 | [], y :: q, _, _, h => absurd ((h y).2 (by simp)) (by simp)
 | x :: r, [], _, _, h => absurd ((h x).1 (by simp)) (by simp)
 | x :: r, y :: q, ha, hb, h => by
  rw [bv8, fq5] at ha hb
  have e : x = y := by
   rcases fh7.1 ((h x).1 (by simp)) with e | hx
   ·exact e
   ·rcases fh7.1 ((h y).2 (by simp)) with e | hy
    ·exact e.symm
    ·have h1 := hb.1 x hx;have h2 := ha.1 y hy;rw [bv7 h1] at h2
     cases h2
  subst e;refine congrArg (x :: ·) (bw2 ha.2 hb.2 fun z => ?_);constructor
  ·intro hz;rcases fh7.1 ((h z).1 (by simp [hz])) with e | h'
   ·exact absurd e.symm (bv6 (ha.1 z hz))
   ·exact h'
  ·intro hz;rcases fh7.1 ((h z).2 (by simp [hz])) with e | h'
   ·exact absurd e.symm (bv6 (hb.1 z hz))
   ·exact h'
def bw3 (acc l : List ByteArray) : List ByteArray := l.foldl (fun a s => bv9 s a) acc
theorem bw4 {y : ByteArray} : ∀ {l acc : List ByteArray}, y ∈ bw3 acc l ↔ y ∈ acc ∨ y ∈ l
 | [], acc => by simp [bw3]
 | s :: r, acc => by
  have ih := bw4 (y := y) (l := r) (acc := bv9 s acc);show y ∈ bw3 (bv9 s acc) r ↔ _;rw [ih, bw0, fh7];constructor
  ·rintro ((h | h) | h)
   ·exact .inr (.inl h)
   ·exact .inl h
   ·exact .inr (.inr h)
  ·rintro (h | h | h)
   ·exact .inl (.inr h)
   ·exact .inl (.inl h)
   ·exact .inr h
theorem bw5 : ∀ {l acc : List ByteArray}, bv8 acc → bv8 (bw3 acc l)
 | [], _, h => h
 | s :: r, acc, h => bw5 (l := r) (bw1 (s := s) h)
mutual
def usX : Ex → List ByteArray
 | .mk op _ nm _ ks => (bif op == 2 then [nm] else []) ++ bw6 ks
def bw6 : List Ex → List ByteArray
 | [] => []
 | x :: r => usX x ++ bw6 r
end
def bw7 (e : Ex) : List ByteArray := bw3 [] (usX e)
theorem bw8 (e : Ex) : bv8 (bw7 e) := bw5 List.Pairwise.nil
theorem bw9 {e : Ex} {s : ByteArray} : s ∈ bw7 e ↔ s ∈ usX e := by unfold bw7; rw [bw4]; simp
theorem bx0 : ∀ l : List Ex, bw6 l = l.flatMap usX
 | [] => rfl
 | x :: r => by rw [bw6, List.flatMap_cons, bx0 r]
theorem bx1 (e : Ex) : (usX e).length ≤ nd e := by
 refine dg9 (P := fun e => (usX e).length ≤ nd e) (fun op v nm ds ks ih => ?_) e;rw [usX, dk6];show _ ≤ ndL ks + 1
 have key : ∀ l : List Ex, (∀ x ∈ l, (usX x).length ≤ nd x) → (bw6 l).length ≤ ndL l := by
  intro l
  induction l with
  | nil => intro _; exact fh5 _
  | cons a r ihr =>
   intro h;have h1 := h a (by simp);have h2 := ihr fun x hx => h x (by simp [hx])
   simp only [bw6, fi3, ndL]; omega
 have hk := key ks ih;rw [fi3]
 cases op == 2 with
 | true => rw [cond_true]; simp; omega
 | false => rw [cond_false]; simp; omega
theorem bx2 (s : ByteArray) : ∀ l : List ByteArray, (bv9 s l).length ≤ l.length + 1
 | [] => by simp [bv9]
 | x :: r => by
  have := bx2 s r;unfold bv9
  cases ltP x s with
  | true => rw [cond_true]; simp; omega
  | false =>
   rw [cond_false]
   cases x.toList == s.toList with
   | true => rw [cond_true]; simp
   | false => rw [cond_false]; simp
theorem bx3 : ∀ (l acc : List ByteArray), (bw3 acc l).length ≤ acc.length + l.length
 | [], acc => by simp [bw3]
 | s :: r, acc => by
  have h1 := bx3 r (bv9 s acc);have h2 := bx2 s acc;show (bw3 (bv9 s acc) r).length ≤ _;simp only [fh9]; omega
theorem bx4 (e : Ex) : (bw7 e).length ≤ nd e := by
 have h1 := bx3 (usX e) [];have h2 := bx1 e;unfold bw7;simp only [fl8] at h1;omega
def bx5 (ks : List ByteArray) (s : ByteArray) : List ByteArray := bif ks.any (fun x => x.toList == s.toList) then ks else ks ++ [s]
theorem bx6 {ks : List ByteArray} {s : ByteArray} : (ks.any fun x => x.toList == s.toList) = true ↔ s ∈ ks := by
 rw [List.any_eq_true];constructor
 ·rintro ⟨x, hx, h⟩;obtain rfl := bv1 (by simpa using h : x.toList = s.toList);exact hx
 ·intro h;exact ⟨s, h, by simp⟩
theorem bx7 {ks : List ByteArray} {s : ByteArray} : (ks.any fun x => x.toList == s.toList) = false ↔ s ∉ ks := by rw [← fp0, bx6]
theorem bx8 {ks : List ByteArray} {s y : ByteArray} : y ∈ bx5 ks s ↔ y = s ∨ y ∈ ks := by
 unfold bx5
 cases h : ks.any fun x => x.toList == s.toList with
 | true =>
  have h := bx6.1 h;rw [cond_true];exact ⟨.inr, fun h' => h'.elim (fun e => e ▸ h) id⟩
 | false =>
  rw [cond_false, fj3, fl4];exact or_comm
theorem bx9 {ks : List ByteArray} {s : ByteArray} (hn : ks.Nodup) : (bx5 ks s).Nodup := by
 unfold bx5
 cases h : ks.any fun x => x.toList == s.toList with
 | true => rw [cond_true]; exact hn
 | false =>
  have h := bx7.1 h;rw [cond_false];refine List.nodup_append.2 ⟨hn, List.nodup_cons.2 ⟨by simp, List.nodup_nil⟩, fun a ha b hb => ?_⟩;rw [fl4] at hb;subst hb;rintro rfl;exact h ha
theorem by0 (ks : List ByteArray) (s : ByteArray) : (bx5 ks s).length ≤ ks.length + 1 := by
 unfold bx5
 cases ks.any fun x => x.toList == s.toList with
 | true => rw [cond_true]; omega
 | false => rw [cond_false]; simp
def by1 (ks l : List ByteArray) : List ByteArray := l.foldl bx5 ks
theorem by2 {y : ByteArray} : ∀ {l ks : List ByteArray}, y ∈ by1 ks l ↔ y ∈ ks ∨ y ∈ l
 | [], ks => by simp [by1]
 | s :: r, ks => by
  show y ∈ by1 (bx5 ks s) r ↔ _;rw [by2, bx8, fh7];constructor
  ·rintro ((h | h) | h)
   ·exact .inr (.inl h)
   ·exact .inl h
   ·exact .inr (.inr h)
  ·rintro (h | h | h)
   ·exact .inl (.inr h)
   ·exact .inl (.inl h)
   ·exact .inr h
theorem by3 : ∀ {l ks : List ByteArray}, ks.Nodup → (by1 ks l).Nodup
 | [], _, h => h
 | s :: r, ks, h => by3 (l := r) (bx9 (s := s) h)
theorem by4 : ∀ (l ks : List ByteArray), (by1 ks l).length ≤ ks.length + l.length
 | [], ks => by simp [by1]
 | s :: r, ks => by
  have h1 := by4 r (bx5 ks s);have h2 := by0 ks s;show (by1 (bx5 ks s) r).length ≤ _;simp only [fh9]; omega
theorem by5 {ks a b : List ByteArray} : by1 ks (a ++ b) = by1 (by1 ks a) b := by unfold by1; rw [List.foldl_append]
end Go.Proofs.YtibfalecohlngaaGreatDoor
namespace Go.Proofs.YtibfalecohlngaaGreatDoor
set_option maxRecDepth 4000
open Go Go.Abs Go.Val Go.RowKit Go.Maps Go.Sort Go.Shelf Go.Proofs Go.Proofs.Tryz
theorem by6 (m : Nat) : AnyZ.SortsIn Tryz.prog Tryz.sortedU_ren Fence.wide m :=
 ⟨fun blk off cap ss W hH hblk hsz => callsIn_wide.2 (AnyM.slices_Sort_string Tryz.sortU blk off cap ss W hH hblk hsz), fun p cap W => callsIn_wide.2 (AnyM.slices_Sort_string_none Tryz.sortU p cap W)⟩
set_option maxHeartbeats 1000000 in
theorem by7 {H : Type} (w : World) (Bm b nn : Nat) (D0 : DataW H) (R : Value → Option (DataW H × List MemPlace)) (hBm : Bm < w.heap.size) (hm : w.cell? ⟨Bm, 0, none⟩ = some (.map (some b))) (hown : w.ownsMap Tryz.prog 9 R b nn D0) (hmax : Maps.size D0 ≤ maxLen) (hbytes : Maps.size D0 * 16 ≤ 140737488355328) :
  Calls Tryz.prog 223 #[.func (.func 291) #[] #[.pointer (some ⟨Bm, 0, none⟩)]] w fun e w' => ∃ (v : Value) (ss : List (List UInt8)), e = .returned v ∧ ss.Perm (strKeys D0) ∧
   w'.ownsRow w.heap.size 9 1 v ss.length ((ss.mergeSort (fun x y => decide (x ≤ y))).map encStr) ∧ (v = .slice none 0 0 ↔ ss = []) ∧ Below w.heap.size w w' := by
 have hseq : SeqGives Fence.wide 2 Tryz.prog 291 #[.pointer (some ⟨Bm, 0, none⟩)] encStr (fun ss => ss.Perm (strKeys D0)) (Maps.size D0) w :=
  AnyZ.keys_gives (ρ := Tryz.keysU_ren) { Tryz.keysU with } Fence.wide _ trivial rfl (by omega) Bm b nn D0 _ hBm hm hown
 exact callsIn_wide.1 (AnyZ.sorted_in Tryz.sortedU Fence.wide 5 trivial trivial trivial trivial rfl (by omega) (by6 _) (enters_of func272 (by kernel_rfl) rfl) 291 _ trivial (enters_of func291 (by kernel_rfl) rfl) _ _ hmax hbytes _ hseq)
def mpU (ks : List ByteArray) : List (Value × D) := ks.map fun s => (.string s, .bool true)
theorem by8 (s : ByteArray) : ∀ ks : List ByteArray, bl1 (.string s) (mpU ks) = ks.findIdx? fun x => x.toList == s.toList
 | [] => rfl
 | x :: r => by
  have ih := by8 s r
  have e : vEq (.string s) (.string x) = (x.toList == s.toList) := by
   show (s == x) = _;rw [bv2, fm3, decide_eq_true_eq];rw [MapKept.bytes_beq];exact ⟨fun h => h.symm, fun h => h.symm⟩
  show (bif vEq (.string s) (.string x) then some 0 else (bl1 (.string s) (mpU r)).map (· + 1)) = _;rw [e, ih, List.findIdx?_cons]
  cases x.toList == s.toList <;> rfl
theorem by9 (s : ByteArray) (ks : List ByteArray) : bl2 (.string s) (.bool true) (mpU ks) = mpU (bx5 ks s) := by
 unfold bl2 bx5;rw [by8]
 cases h : ks.findIdx? fun x => x.toList == s.toList with
 | none =>
  rw [List.findIdx?_eq_none_iff] at h
  have : (ks.any fun x => x.toList == s.toList) = false := by
   rw [← fp0, List.any_eq_true];rintro ⟨x, hx, he⟩;rw [h x hx] at he; cases he
  rw [this, cond_false];simp [mpU]
 | some i =>
  obtain ⟨hi, he, -⟩ := List.findIdx?_eq_some_iff_getElem.1 h;have : (ks.any fun x => x.toList == s.toList) = true := List.any_eq_true.2 ⟨_, fm8 hi, he⟩;rw [this, cond_true];have hx : ks[i] = s := bv1 (by simpa using he);show (mpU ks).set i (.string s, .bool true) = mpU ks;apply fn0;intro j;rw [fk3];split
  ·rename_i hj
   subst hj;have hl : i < (mpU ks).length := by simp [mpU, hi]
   rw [if_pos hl];simp [mpU, fg5 hi, hx]
  ·rfl
theorem le_lt {x y : List UInt8} (h : x ≤ y) (hn : x ≠ y) : Op.bytesLess x y = true := by
 rcases dr1 x y with ⟨h1, -, -⟩ | ⟨-, h2, -⟩ | ⟨-, -, h3⟩
 ·exact h1
 ·rw [bytesLess_eq, decide_eq_true_eq] at h2;exact absurd h2 (List.not_lt.2 h)
 ·exact absurd h3 hn
def toB (l : List (List UInt8)) : List ByteArray := l.map fun b => ⟨b.toArray⟩
theorem bz0 {ks : List ByteArray} {ss : List (List UInt8)} (hp : ss.Perm (bu6 ks)) (hn : ks.Nodup) : toB (ss.mergeSort fun x y => decide (x ≤ y)) = bw3 [] ks := by
 have hsl : (ss.mergeSort fun x y => decide (x ≤ y)).Pairwise fun x y => x ≤ y := by
  have := List.pairwise_mergeSort (le := fun x y : List UInt8 => decide (x ≤ y)) (fun a b c h1 h2 => by simp only [decide_eq_true_eq] at *; exact List.le_trans h1 h2) (fun a b => by simp only [fi1, decide_eq_true_eq]; exact List.le_total a b) ss;exact this.imp fun h => by simpa using h
 have hbn : (bu6 ks).Nodup := by
  unfold bu6;refine List.pairwise_map.2 (hn.imp fun {a b} h e => h ?_);exact ByteArray.ext (Array.toList_inj.1 e)
 have hpm : (ss.mergeSort fun x y => decide (x ≤ y)).Perm (bu6 ks) := (List.mergeSort_perm _ _).trans hp;have hnd : (ss.mergeSort fun x y => decide (x ≤ y)).Nodup := hpm.nodup_iff.2 hbn;generalize (ss.mergeSort fun x y => decide (x ≤ y)) = T at *;refine bw2 ?_ (bw5 List.Pairwise.nil) fun x => ?_
 ·unfold toB;refine List.pairwise_map.2 ((hsl.and hnd).imp fun {a b} h => ?_);unfold ltP;rw [ByteArray.toList_eq, ByteArray.toList_eq];exact le_lt h.1 h.2
 ·rw [bw4];unfold toB;rw [fk8];constructor
  ·rintro ⟨b, hb, rfl⟩;obtain ⟨s, hs, rfl⟩ := fk8.1 (hpm.mem_iff.1 hb);exact .inr hs
  ·rintro (h | h)
   ·cases h
   ·exact ⟨x.data.toList, hpm.mem_iff.2 (fk8.2 ⟨x, h, rfl⟩), rfl⟩
theorem bz1 (mt : TypeId) (ks : List ByteArray) (hs : ∀ s ∈ ks, s.size ≤ maxLen) (hn : ks.Nodup) (hsz : ks.length ≤ 1000000000) :
  EvS E 223 [.clo 291 [.ptr 0 0]] [.var mt (.w (.mp 1)), .map .string (mpU ks)] (.d (.sl ((bw3 [] ks).map .str))) [.var mt (.w (.mp 1)), .map .string (mpU ks)] := by
 intro w F σ vs hi hl hr
 match vs, hl with
 | [v0], _ =>
  obtain ⟨us, rfl, ul, ur⟩ := hr 0 _ _ rfl rfl
  match us, ul with
  | [u0], _ =>
   obtain ⟨b, c, n, e1, rfl⟩ := ur 0 _ _ rfl rfl;obtain ⟨cs, g1, g2, g3, g4, g5, g6⟩ := hi.obs 0 _ _ rfl e1
   match cs, g2 with
   | [sv], _ =>
    obtain ⟨b1, c1, n1, f1, rfl⟩ := g4 0 (.mp 1) sv rfl rfl;obtain ⟨es, k1, k2, k3, k4, k5, k6⟩ := hi.obs 1 _ _ rfl f1;have hml : (mpU ks).length = ks.length := by simp [mpU]
    have hus : Tryz.prog.underlying 9 = some .string := by kernel_rfl
    have hbl : b < w.heap.size := (fq7.1 g1).1
    have hkey : ∀ (i : Nat) e, es[i]? = some e → ∃ s, ks[i]? = some s ∧ e.key = .string s ∧ e.born = i := by
     intro i e he;have hil : i < ks.length := by have := (fq7.1 he).1; omega
     obtain ⟨⟨q1, q2⟩, -⟩ := k3 i e (.string ks[i], .bool true) he (by simp [mpU, fg5 hil]);exact ⟨ks[i], fg5 hil, q1, q2⟩
    let R : Value → Option (DataW Unit × List MemPlace) := fun _ => some (.lit (.bool true), [])
    have hrd : ∀ (i : Nat) e s, es[i]? = some e → ks[i]? = some s → WideElems.rd Tryz.prog 9 R e = some (.string s.data.toList, .lit (.bool true)) := by
     intro i e s he hk;obtain ⟨s', h1, h2, -⟩ := hkey i e he;rw [hk] at h1
     cases h1
     unfold WideElems.rd;rw [h2, WideMaps.keyOf_string_mk hus (hs s (fg9 hk))];rfl
    have hrg : es.toList.map (WideElems.rg Tryz.prog 9 R) = ks.map fun s => (Lit.string s.data.toList, (DataW.lit (.bool true) : DataW Unit)) := by
     apply fn0;intro j;rw [fh1, fh1];rcases fg7 j ks.length with hj | hj
     ·obtain ⟨e, he⟩ : ∃ e, es[j]? = some e := ⟨es[j]'(by omega), by simp⟩;have hk := fg5 hj;rw [fo1, he, hk];simp only [fj5];unfold WideElems.rg;rw [hrd j e _ he hk];rfl
     ·rw [fj9 (l := es.toList) (by rw [fo6]; omega), fj9 hj];rfl
    have hfit : WideElems.Fit Tryz.prog 9 R es es.size := by
     refine ⟨by rw [k2, hml]; unfold maxLen; omega, ⟨?_, ?_, ?_⟩, ?_⟩
     ·intro x hx;obtain ⟨i, hi'⟩ := fi4 hx;rw [fo1] at hi';obtain ⟨-, -, -, hb⟩ := hkey i x hi';have := (fq7.1 hi').1;omega
     ·have : es.toList.map (·.born) = List.range es.size := by
       apply fn0;intro j;rw [fh1, fo1];rcases fg7 j es.size with hj | hj
       ·obtain ⟨e, he⟩ : ∃ e, es[j]? = some e := ⟨es[j]'hj, by simp⟩;obtain ⟨-, -, -, hb⟩ := hkey j e he;rw [he, fm9 hj, ← hb]; rfl
       ·rw [fp1 hj, fj9 (by simpa using hj)]; rfl
      rw [this];exact List.nodup_range
     ·have : es.toList.map (·.key) = ks.map Value.string := by
       apply fn0;intro j;rw [fh1, fo1, fh1];rcases fg7 j es.size with hj | hj
       ·obtain ⟨e, he⟩ : ∃ e, es[j]? = some e := ⟨es[j]'hj, by simp⟩;obtain ⟨s, h1, h2, -⟩ := hkey j e he;rw [he, h1]; exact congrArg some h2
       ·rw [fp1 hj, fj9 (by omega)]; rfl
      rw [this];exact List.pairwise_map.2 (hn.imp fun {a b} h e => h (by cases e; rfl))
     ·intro x hx;obtain ⟨i, hi'⟩ := fi4 hx;rw [fo1] at hi';obtain ⟨s, h1, -, -⟩ := hkey i x hi';exact ⟨_, hrd i x s hi' h1⟩
    obtain ⟨D0, hD0⟩ : ∃ D0 : DataW Unit, D0 = .map ((es.toList.map (WideElems.rg Tryz.prog 9 R)).foldr DataW.insert []) := ⟨_, rfl⟩;have hperm := WideShapes.sorted_perm (es.toList.map (WideElems.rg Tryz.prog 9 R))
    have hDs : Maps.size D0 = ks.length := by
     rw [hD0];show (List.foldr DataW.insert [] _).length = _;rw [hperm.length_eq, hrg, fj8]
    have hDk : (strKeys D0).Perm (bu6 ks) := by
     rw [hD0];refine (hperm.map _).trans ?_;rw [hrg, List.map_map];exact List.Perm.refl _
    have hown : w.ownsMap Tryz.prog 9 R b1 es.size D0 := ⟨es, es.size, k1, hfit, fh5 _, hD0⟩;have hmx : maxLen = 9223372036854775807 := rfl;refine (by7 w b b1 es.size D0 R hbl ?_ hown (by rw [hDs]; omega) (by rw [hDs]; omega)).mono ?_
    ·simp only [World.cell?, g1];simp
    ·rintro e w' ⟨v, ss, rfl, hp, hrow, hnil, hb⟩;have hsi := bz0 (hp.trans hDk) hn;have hsl : ss.length = ks.length := by rw [(hp.trans hDk).length_eq]; simp [bu6]
     have hin : ∀ z ∈ ss.mergeSort (fun x y => decide (x ≤ y)), z.length ≤ maxLen := by
      intro z hz;have hz' : z ∈ bu6 ks := (hp.trans hDk).mem_iff.1 ((List.mergeSort_perm _ _).mem_iff.1 hz);obtain ⟨s, h1, rfl⟩ := fk8.1 hz';rw [fo6];exact hs s h1
     have hD : (bw3 [] ks).map D.str = bu7 (ss.mergeSort fun x y => decide (x ≤ y)) := by
      rw [← hsi];simp [toB, bu7]
     have hml2 : (ss.mergeSort fun x y => decide (x ≤ y)).length = ss.length := List.length_mergeSort _;rw [hD];generalize ss.mergeSort (fun x y => decide (x ≤ y)) = T at *
     by_cases h0 : ss = []
     ·have hT : T = [] := fp7 (by rw [hml2, h0]; rfl);subst hT;obtain rfl := hnil.2 h0;exact ⟨_, F, σ, rfl, aa7.of_below hb fun k hk => hk.1, fun _ h => h, fun _ h => .inl h, fun i p _ hp => hp, (ab2.lend hi).ext (Ext.of_below hb hi.flt), Rd.slnil⟩
     ·have hv : v ≠ .slice none 0 0 := fun h => h0 (hnil.1 h)
      have hblk : ∀ k, v.ownBlock = some k → w.heap.size ≤ k := fun k hk => (hrow.lt k hk).1
      obtain ⟨zc1, zc2⟩ := bu8 T
      obtain ⟨g, cp, rfl, hob⟩ := aq3 (F := F) (σ := σ) (B := fun _ => False) (xs := bu7 T) (ownsRow_base_a hrow (Nat.zero_le _)) (fun k hk hh => hh) hv (by simp [bu7, hml2]) zc1 zc2 (bu9 hin)
       (fun k hk hf => by have := hblk k hk; have := hi.flt k hf; omega)
      have hge := hblk g rfl;obtain ⟨vs', q1, q2, q3, q4, q5, q6, q7, q8, -, q10⟩ := hob;have hgl : g < w'.heap.size := (fq7.1 q1).1;have hE : Ext w F w' (fun k => F k ∨ k = g) := ⟨hb, fun _ h => .inl h, fun k hk => by rcases hk with h | rfl; exact .inl h; exact .inr hge, fun k hk => by rcases hk with h | rfl; exact fq1 (hi.flt k h) hb.size; exact hgl⟩;refine ⟨_, fun k => F k ∨ k = g, σ, rfl, aa7.of_below hb fun k hk => hk.1, fun _ h => .inl h, fun k hk => ?_, fun i p _ hp => hp, (ab2.lend hi).ext hE, ?_⟩
      ·rcases hk with h | rfl
       ·exact .inl h
       ·exact .inr fun hh => by have := hh.1; omega
      ·have hex : ∀ i j, ∃ u, ∀ x cd, (bu7 T)[i]? = some x → x.cells[j]? = some cd → vs'[i * 1 + j]? = some u ∧ Rd w' F cd u := by
        intro i j
        cases hx : (bu7 T)[i]? with
        | none => exact ⟨undef, fun x cd h => by cases h⟩
        | some x =>
         cases hc : x.cells[j]? with
         | none => exact ⟨undef, fun x' cd h h' => by cases h; rw [hc] at h'; cases h'⟩
         | some cd =>
          obtain ⟨u, r1, r2⟩ := q8 i x j cd hx hc;exact ⟨u, fun x' cd' h h' => by cases h; rw [hc] at h'; cases h'; exact ⟨r1, r2⟩⟩
       show Rd w' (fun k => F k ∨ k = g) (.sl (bu7 T)) (.slice (some ⟨g, 0, none⟩) ss.length cp);rw [q3];refine .sl 1 (bu7 T) ⟨g, 0, none⟩ cp (fun i j => Classical.choose (hex i j)) (by omega) q5 (fun _ => .inr rfl) q6 q7 (fun i x j cd hx hc => ?_) (fun i x j cd hx hc => ?_)
       ·rw [aa2, aj1 q1, fl1];exact (Classical.choose_spec (hex i j) x cd hx hc).1
       ·exact (Classical.choose_spec (hex i j) x cd hx hc).2.mono (fun _ h => .inl h) fun _ _ => rfl
end Go.Proofs.YtibfalecohlngaaGreatDoor
