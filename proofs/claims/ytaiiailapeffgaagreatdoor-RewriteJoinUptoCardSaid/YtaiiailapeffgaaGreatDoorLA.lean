/- DERIVED: THE SHELF's CONTRACTS AT THIS DUMP, IN PLAIN WORDS (tools/lay-plain.mjs out of 'TryzIter.lean', which tools/lay-shelf.mjs wrote): THE SAME DECLARATIONS UNDER THE SAME NAMES: 'import', 'namespace', 'open', 'def', 'theorem' AND NOTHING ELSE: no command of the shelf's: FOR A HAND-IN; DERIVED: THE SHELF's CONTRACTS AT THIS DUMP, IN PLAIN WORDS (tools/lay-plain.mjs out of 'TryzIterU.lean', which tools/lay-shelf.mjs wrote): THE SAME DECLARATIONS UNDER THE SAME NAMES: 'import', 'namespace', 'open', 'def', 'theorem' AND NOTHING ELSE: no command of the shelf's: FOR A HAND-IN; Natural numbers a. Conditions: each part's own, as it says. -/
import Derived.Shelf.SlIter.Sorted
import Derived.Ground.GgzProg
import Derived.Test.YtaiiailapeffgaaGreatDoorProg
import Derived.Shelf.SlIter.Nil
import Derived.Shelf.SortM.Plain
import Derived.Shelf.SortM.SortNone
import Derived.Ground.SlgmProg
import Derived.Test.YtaiiailapeffgaaGreatDoorGC
import Derived.Test.YtaiiailapeffgaaGreatDoorGS
import Derived.Sort.OwnSorted
import Derived.Shelf.AbstractIn
import Derived.RangeFuncBound
import Derived.OwnWalkIn
import Derived.TacticsInMore
import Derived.LoopNIn
import Derived.LoopIn
import Derived.WalkKit
import Derived.Test.YtaiiailapeffgaaGreatDoorMA
import Derived.Test.YtaiiailapeffgaaGreatDoorMD
import Derived.Lib.SlicesCompact
import Derived.Test.YtaiiailapeffgaaGreatDoorMF
set_option linter.unusedVariables false
set_option linter.unusedSimpArgs false
namespace Go.Proofs
open Go.Shelf
def Tryz.keysU_ren : Go.Shelf.Ren := ⟨fun | 7 => 191 | 10 => 251 | n => n, fun | 23 => 203 | 26 => 9 | 3 => 4 | 28 => 186 | 0 => 0 | 27 => 185 | 33 => 94 | 4 => 4 | n => n, fun | n => n⟩
theorem Tryz.keysU : Go.Proofs.SlLaysZ.n7 Tryz.prog Tryz.keysU_ren := {
 mixed := by kernel_rfl
 f7 := ⟨Tryz.f191.name, by decide, func191.trans (congrArg some (by kernel_rfl))⟩
 f10 := ⟨Tryz.f251.name, by decide, func251.trans (congrArg some (by kernel_rfl))⟩
 t0 := underlying0
 a0 := Tryz.isAgg0
 z0 := Tryz.sizeOf0
 v0 := Tryz.zeroValue0
 t4 := underlying4
 a4 := Tryz.isAgg4
 z4 := Tryz.sizeOf4
 v4 := Tryz.zeroValue4
 t23 := underlying203
 a23 := Tryz.isAgg203
 z23 := Tryz.sizeOf203
 v23 := Tryz.zeroValue203
 t26 := underlying9
 a26 := Tryz.isAgg9
 z26 := Tryz.sizeOf9
 v26 := Tryz.zeroValue9
 t27 := underlying185
 a27 := Tryz.isAgg185
 z27 := Tryz.sizeOf185
 v27 := Tryz.zeroValue185
 t28 := underlying186
 a28 := Tryz.isAgg186
 z28 := Tryz.sizeOf186
 v28 := Tryz.zeroValue186
 t33 := underlying94
 a33 := Tryz.isAgg94
 z33 := Tryz.sizeOf94
 v33 := Tryz.zeroValue94 }
def Tryz.sortedU_ren : Go.Shelf.Ren := ⟨fun | 6 => 173 | 8 => 230 | 9 => 231 | 11 => 283 | 13 => 285 | 12 => 284 | 23 => 325 | 24 => 326 | 14 => 316 | 15 => 317 | 16 => 318 | 17 => 319 | 18 => 320 | 19 => 321 | 20 => 322 | 21 => 323 | 22 => 324 | 25 => 344 | 26 => 345 | 27 => 346 | 28 => 347 | 29 => 348 | 30 => 315 | 31 => 360 | n => n, fun | 26 => 9 | 28 => 186 | 24 => 29 | 0 => 0 | 3 => 3 | 37 => 253 | 48 => 287 | 50 => 271 | 4 => 4 | 40 => 281 | 39 => 280 | 45 => 243 | 5 => 5 | 9 => 9 | 51 => 301 | 55 => 305 | 57 => 316 | 58 => 155 | 33 => 94 | n => n, fun | n => n⟩
theorem Tryz.sortedU : Go.Proofs.SlLaysZ.n6 Tryz.prog Tryz.sortedU_ren := {
 mixed := by kernel_rfl
 f6 := ⟨Tryz.f173.name, by decide, func173.trans (congrArg some (by kernel_rfl))⟩
 f8 := ⟨Tryz.f230.name, by decide, func230.trans (congrArg some (by kernel_rfl))⟩
 f11 := ⟨Tryz.f283.name, by decide, func283.trans (congrArg some (by kernel_rfl))⟩
 t0 := underlying0
 a0 := Tryz.isAgg0
 z0 := Tryz.sizeOf0
 v0 := Tryz.zeroValue0
 t24 := underlying29
 a24 := Tryz.isAgg29
 z24 := Tryz.sizeOf29
 v24 := Tryz.zeroValue29
 t26 := underlying9
 a26 := Tryz.isAgg9
 z26 := Tryz.sizeOf9
 v26 := Tryz.zeroValue9
 t28 := underlying186
 a28 := Tryz.isAgg186
 z28 := Tryz.sizeOf186
 v28 := Tryz.zeroValue186
 i26 := by kernel_rfl }
def Tryz.sortU_ren : Go.Shelf.Ren := ⟨fun | 6 => 231 | 8 => 285 | 9 => 284 | 19 => 325 | 20 => 326 | 21 => 316 | 22 => 317 | 23 => 318 | 24 => 319 | 25 => 320 | 26 => 321 | 27 => 322 | 28 => 323 | 29 => 324 | 36 => 344 | 31 => 345 | 32 => 346 | 37 => 347 | 38 => 348 | 39 => 315 | 41 => 360 | n => n, fun | 27 => 29 | 29 => 9 | 3 => 3 | 32 => 253 | 26 => 29 | 0 => 0 | 44 => 287 | 46 => 271 | 4 => 4 | 36 => 281 | 35 => 280 | 41 => 243 | 5 => 5 | 9 => 9 | 53 => 301 | 57 => 305 | 63 => 316 | 64 => 155 | n => n, fun | n => n⟩
theorem Tryz.sortU : Go.Proofs.SlLaysM.n6 Tryz.prog Tryz.sortU_ren := {
 mixed := by kernel_rfl
 f6 := ⟨Tryz.f231.name, by decide, func231.trans (congrArg some (by kernel_rfl))⟩
 f8 := func285.trans (congrArg some (by kernel_rfl))
 f9 := ⟨Tryz.f284.name, by decide, func284.trans (congrArg some (by kernel_rfl))⟩
 f19 := func325.trans (congrArg some (by kernel_rfl))
 f20 := func326.trans (congrArg some (by kernel_rfl))
 f21 := ⟨Tryz.f316.name, by decide, func316.trans (congrArg some (by kernel_rfl))⟩
 f22 := ⟨Tryz.f317.name, by decide, func317.trans (congrArg some (by kernel_rfl))⟩
 f23 := ⟨Tryz.f318.name, by decide, func318.trans (congrArg some (by kernel_rfl))⟩
 f24 := ⟨Tryz.f319.name, by decide, func319.trans (congrArg some (by kernel_rfl))⟩
 f25 := ⟨Tryz.f320.name, by decide, func320.trans (congrArg some (by kernel_rfl))⟩
 f26 := ⟨Tryz.f321.name, by decide, func321.trans (congrArg some (by kernel_rfl))⟩
 f27 := ⟨Tryz.f322.name, by decide, func322.trans (congrArg some (by kernel_rfl))⟩
 f28 := ⟨Tryz.f323.name, by decide, func323.trans (congrArg some (by kernel_rfl))⟩
 f29 := ⟨Tryz.f324.name, by decide, func324.trans (congrArg some (by kernel_rfl))⟩
 f31 := func345.trans (congrArg some (by kernel_rfl))
 f32 := func346.trans (congrArg some (by kernel_rfl))
 f36 := ⟨Tryz.f344.name, by decide, func344.trans (congrArg some (by kernel_rfl))⟩
 f37 := ⟨Tryz.f347.name, by decide, func347.trans (congrArg some (by kernel_rfl))⟩
 f38 := ⟨Tryz.f348.name, by decide, func348.trans (congrArg some (by kernel_rfl))⟩
 f39 := ⟨Tryz.f315.name, by decide, func315.trans (congrArg some (by kernel_rfl))⟩
 f41 := ⟨Tryz.f360.name, by decide, func360.trans (congrArg some (by kernel_rfl))⟩
 t0 := underlying0
 a0 := Tryz.isAgg0
 z0 := Tryz.sizeOf0
 v0 := Tryz.zeroValue0
 t3 := underlying3
 a3 := Tryz.isAgg3
 z3 := Tryz.sizeOf3
 v3 := Tryz.zeroValue3
 t4 := underlying4
 a4 := Tryz.isAgg4
 z4 := Tryz.sizeOf4
 v4 := Tryz.zeroValue4
 t5 := underlying5
 a5 := Tryz.isAgg5
 z5 := Tryz.sizeOf5
 v5 := Tryz.zeroValue5
 t9 := underlying9
 a9 := Tryz.isAgg9
 z9 := Tryz.sizeOf9
 v9 := Tryz.zeroValue9
 t26 := underlying29
 a26 := Tryz.isAgg29
 z26 := Tryz.sizeOf29
 v26 := Tryz.zeroValue29
 t27 := underlying29
 a27 := Tryz.isAgg29
 z27 := Tryz.sizeOf29
 v27 := Tryz.zeroValue29
 t29 := underlying9
 a29 := Tryz.isAgg9
 z29 := Tryz.sizeOf9
 v29 := Tryz.zeroValue9
 t32 := underlying253
 a32 := Tryz.isAgg253
 z32 := Tryz.sizeOf253
 v32 := Tryz.zeroValue253
 t35 := underlying280
 a35 := Tryz.isAgg280
 z35 := Tryz.sizeOf280
 v35 := Tryz.zeroValue280
 t36 := underlying281
 a36 := Tryz.isAgg281
 z36 := Tryz.sizeOf281
 v36 := Tryz.zeroValue281
 t41 := underlying243
 a41 := Tryz.isAgg243
 z41 := Tryz.sizeOf243
 v41 := Tryz.zeroValue243
 t44 := underlying287
 a44 := Tryz.isAgg287
 z44 := Tryz.sizeOf287
 v44 := Tryz.zeroValue287
 t46 := underlying271
 a46 := Tryz.isAgg271
 z46 := Tryz.sizeOf271
 v46 := Tryz.zeroValue271
 t53 := underlying301
 a53 := Tryz.isAgg301
 z53 := Tryz.sizeOf301
 v53 := Tryz.zeroValue301
 t57 := underlying305
 a57 := Tryz.isAgg305
 z57 := Tryz.sizeOf305
 v57 := Tryz.zeroValue305
 t63 := underlying316
 a63 := Tryz.isAgg316
 z63 := Tryz.sizeOf316
 v63 := Tryz.zeroValue316
 t64 := underlying155
 a64 := Tryz.isAgg155
 z64 := Tryz.sizeOf155
 v64 := Tryz.zeroValue155 }
end Go.Proofs
namespace Go.Proofs.YtaiiailapeffgaaGreatDoor
set_option maxRecDepth 4000
def vl : List Int → Nat
 | [] => 0
 | x :: r => x.toNat + 1000000000 * vl r
def minO : Option Nat → Nat → Nat
 | none, x => x
 | some y, x => if x < y then x else y
def stepT (g : Nat → Nat) (set : Nat) (o : Option Nat) (i : Nat) : Option Nat := bif set.testBit i then o else some (minO o (g i))
def tbG (f : Nat → Nat → Nat) (n : Nat) : Nat → Nat → Nat
 | 0, _ => 1
 | k + 1, set => ((List.range n).foldl (stepT (fun i => f set i * tbG f n k (set + 2 ^ i)) set) none).getD 1
def tb (f : Nat → Nat → Nat) (n set : Nat) : Nat := tbG f n (2 ^ n - set) set
open Go Go.Abs Go.Val Go.Proofs.Tryz
structure AT where
 k : Int
 vs : List Int
 nm : ByteArray
 ty : List ByteArray
 v : V
structure CJ where
 vs : List ByteArray
 «as» : List AT
def intsD (l : List Int) : D := .sl (l.map .int)
def eg7 (a : AT) : D := .agg [.int a.k, intsD a.vs, .str a.nm, .sl (a.ty.map .str), .int a.v.k, .int a.v.n, .int a.v.d, .str a.v.s, .sl (kids a.v)]
end Go.Proofs.YtaiiailapeffgaaGreatDoor
namespace Go.Proofs.YtaiiailapeffgaaGreatDoor
set_option maxRecDepth 4000
open Go Go.RowKit Go.Maps Go.Sort Go.Shelf Go.Proofs Go.Proofs.Tryz
attribute [local go_sem] Oper.semAt_some
end Go.Proofs.YtaiiailapeffgaaGreatDoor
namespace Go.Proofs.YtaiiailapeffgaaGreatDoor
set_option maxRecDepth 4000
open Go Go.Abs Go.Val Go.RowKit Go.Proofs.Tryz
attribute [local irreducible] go SGo an2 Ev aw0 EvO EvS PGo
structure SHi (l : List Int) (f : Int → Bool) where
 i : Nat
 hi : i ≤ l.length
 ok : ∀ j, j < i → ∀ y, l[j]? = some y → f y = false
theorem SHi.next {l : List Int} {f : Int → Bool} {i : Nat} {x : Int} (hx : l[i]? = some x) (hc : f x = false) (h : ∀ j, j < i → ∀ y, l[j]? = some y → f y = false) : ∀ j, j < i + 1 → ∀ y, l[j]? = some y → f y = false := by
 intro j hj y hy;rcases Nat.lt_succ_iff_lt_or_eq.1 hj with h1 | rfl
 ·exact h j h1 y hy
 ·rw [hx] at hy; cases hy; exact hc
end Go.Proofs.YtaiiailapeffgaaGreatDoor
namespace Go.Proofs.YtaiiailapeffgaaGreatDoor
set_option maxRecDepth 4000
open Go Go.Abs Go.Val Go.RowKit Go.Sort Go.Proofs Go.Proofs.Tryz
abbrev eg8 (l : List ByteArray) : aa5 := .var 29 (.w (.d (.sl (l.map .str))))
def eg9 (l : List ByteArray) : List (List UInt8) := l.map fun s => s.data.toList
def eh0 (l : List (List UInt8)) : List D := l.map fun b => .str ⟨b.toArray⟩
theorem ab2.lend {F : Nat → Prop} {σ : Sg} {ob : List aa5} {w : World} (h : ab2 E ⟨fun _ => False, 0, []⟩ F σ ob w) : ab2 E ⟨ba8 w ob σ, 0, []⟩ F σ ob w :=
 ⟨h.flt, h.glob, h.len, fun o x p hx hp => (h.obs o x p hx hp).own fun hl hh => hh.2 ⟨o, x, p, hx, hl, hp, rfl⟩, h.inj, fun i p hi => absurd hi (Nat.not_lt_zero _)⟩
theorem aa7.of_below {w w' : World} {O : Nat → Prop} (h : Below w.heap.size w w') (hO : ∀ k, O k → k < w.heap.size) : aa7 O w w' := ⟨h.os, h.tape, h.output, h.size, fun k hk => h.block k (hO k hk), hO⟩
theorem eh1 (l : List (List UInt8)) : (∀ x ∈ eh0 l, x.cells.length = 1) ∧ ∀ x ∈ eh0 l, ∀ c ∈ x.cells, c.one = true := by
 constructor
 ·intro x hx;obtain ⟨u, -, rfl⟩ := fo8.1 hx;rfl
 ·intro x hx c hc;obtain ⟨u, -, rfl⟩ := fo8.1 hx;rw [show (D.str ⟨u.toArray⟩).cells = [D.str ⟨u.toArray⟩] from rfl, fl7] at hc;subst hc;rfl
theorem eh2 {w : World} {F : Nat → Prop} {l : List (List UInt8)} (hl : ∀ b ∈ l, b.length ≤ maxLen) : ∀ (i : Nat) (x : D) (j : Nat) (cd : D), (eh0 l)[i]? = some x → x.cells[j]? = some cd → ∃ v, (l.map encStr)[i * 1 + j]? = some v ∧ Rd w F cd v := by
 intro i x j cd hx hc;rw [eh0, fk7, fk8] at hx;obtain ⟨b, hb, rfl⟩ := hx;rw [show (D.str ⟨b.toArray⟩).cells = [D.str ⟨b.toArray⟩] from rfl] at hc
 cases j with
 | zero =>
  simp at hc;subst hc;refine ⟨_, by rw [Nat.mul_one, fn6, fk7, hb]; rfl, Rd.imm _ ?_⟩;have := hl b (fk4 hb);simpa [Go.Abs.okV, ByteArray.size] using this
 | succ j => simp at hc
def sortU (l : List (List UInt8)) : List (List UInt8) := l.mergeSort fun x y => decide (x ≤ y)
end Go.Proofs.YtaiiailapeffgaaGreatDoor
namespace Go.Proofs.YtaiiailapeffgaaGreatDoor
set_option maxRecDepth 4000
open Go Go.Abs Go.Val Go.RowKit Go.Proofs.Tryz
def ltP (a b : ByteArray) : Bool := Op.bytesLess a.toList b.toList
theorem eh3 : ∀ a b c : List UInt8, Op.bytesLess a b = true → Op.bytesLess b c = true → Op.bytesLess a c = true
 | _, [], _, h, _ => by rename_i a _ _; cases a <;> simp [Op.bytesLess] at h
 | _, _ :: _, [], _, h => by simp [Op.bytesLess] at h
 | [], _ :: _, _ :: _, _, _ => rfl
 | x :: a, y :: b, z :: c, h1, h2 => by
  simp only [Op.bytesLess, fm4, fk3, decide_eq_true_eq, beq_iff_eq] at h1 h2 ⊢;rcases h1 with p | ⟨p, p'⟩
  ·have p0 : x.toNat < y.toNat := p;rcases h2 with q | ⟨q, -⟩
   ·have q0 : y.toNat < z.toNat := q;exact .inl (show x.toNat < z.toNat by omega)
   ·subst q; exact .inl p
  ·subst p;rcases h2 with q | ⟨q, q'⟩
   ·exact .inl q
   ·exact .inr ⟨q, eh3 a b c p' q'⟩
theorem eh4 {a b : ByteArray} (h : a.toList = b.toList) : a = b := by
 rw [ByteArray.toList_eq, ByteArray.toList_eq] at h;exact ByteArray.ext (Array.toList_inj.1 h)
theorem eh5 (a b : ByteArray) : (a.toList == b.toList) = decide (a = b) := by
 rw [fm5, beq_iff_eq, decide_eq_true_eq];exact ⟨eh4, fun h => by rw [h]⟩
theorem eh6 {a b c : ByteArray} (h1 : ltP a b = true) (h2 : ltP b c = true) : ltP a c = true := eh3 _ _ _ h1 h2
theorem eh7 (a : ByteArray) : ltP a a = false := by
 unfold ltP;rcases dl0 a.toList a.toList with ⟨-, -, h⟩ | ⟨-, -, h⟩ | ⟨h, -, -⟩
 ·exact absurd rfl h
 ·exact absurd rfl h
 ·exact h
theorem eh8 (a b : ByteArray) : ltP a b = true ∨ a = b ∨ ltP b a = true := by
 unfold ltP;rcases dl0 a.toList b.toList with ⟨h, -, -⟩ | ⟨-, h, -⟩ | ⟨-, -, h⟩
 ·exact .inl h
 ·exact .inr (.inr h)
 ·exact .inr (.inl (eh4 h))
theorem eh9 {a b : ByteArray} (h : ltP a b = true) : a ≠ b := fun e => by rw [e, eh7] at h; cases h
theorem ei0 {a b : ByteArray} (h : ltP a b = true) : ltP b a = false := by
 cases h2 : ltP b a with
 | false => rfl
 | true => rw [← eh7 a]; exact (eh6 h h2).symm
abbrev ei1 (l : List ByteArray) : Prop := l.Pairwise fun a b => ltP a b = true
def ei2 (s : ByteArray) : List ByteArray → List ByteArray
 | [] => [s]
 | x :: r => bif ltP x s then x :: ei2 s r else bif x.toList == s.toList then x :: r else s :: x :: r
theorem ei3 {s y : ByteArray} : ∀ {l : List ByteArray}, y ∈ ei2 s l ↔ y = s ∨ y ∈ l
 | [] => by simp [ei2]
 | x :: r => by
  have ih := ei3 (s := s) (y := y) (l := r);unfold ei2
  cases h1 : ltP x s with
  | true => rw [cond_true, fl1, ih, fl1]; exact or_left_comm
  | false =>
   rw [cond_false]
   cases h2 : x.toList == s.toList with
   | true =>
    obtain rfl := eh4 (by simpa using h2 : x.toList = s.toList);rw [cond_true, fl1];exact ⟨.inr, fun h => h.elim .inl id⟩
   | false => rw [cond_false, fl1]
theorem ei4 {s : ByteArray} : ∀ {l : List ByteArray}, ei1 l → ei1 (ei2 s l)
 | [], _ => List.pairwise_singleton _ _
 | x :: r, h => by
  rw [ei1, ft4] at h;unfold ei2
  cases h1 : ltP x s with
  | true =>
   rw [cond_true, ei1, ft4];refine ⟨fun y hy => ?_, ei4 h.2⟩;rcases ei3.1 hy with rfl | hy
   ·exact h1
   ·exact h.1 y hy
  | false =>
   rw [cond_false]
   cases h2 : x.toList == s.toList with
   | true => rw [cond_true]; exact ft4.2 h
   | false =>
    have h3 : ltP s x = true := by
     rcases eh8 x s with h | h | h
     ·rw [h] at h1; cases h1
     ·rw [h, beq_self_eq_true] at h2; cases h2
     ·exact h
    rw [cond_false, ei1, ft4];refine ⟨fun y hy => ?_, ft4.2 h⟩;rcases fl1.1 hy with rfl | hy
    ·exact h3
    ·exact eh6 h3 (h.1 y hy)
theorem ei5 : ∀ {a b : List ByteArray}, ei1 a → ei1 b → (∀ x, x ∈ a ↔ x ∈ b) → a = b
 | [], [], _, _, _ => rfl
 | [], y :: q, _, _, h => absurd ((h y).2 (by simp)) (by simp)
 | x :: r, [], _, _, h => absurd ((h x).1 (by simp)) (by simp)
 | x :: r, y :: q, ha, hb, h => by
  rw [ei1, ft4] at ha hb
  have e : x = y := by
   rcases fl1.1 ((h x).1 (by simp)) with e | hx
   ·exact e
   ·rcases fl1.1 ((h y).2 (by simp)) with e | hy
    ·exact e.symm
    ·have h1 := hb.1 x hx;have h2 := ha.1 y hy;rw [ei0 h1] at h2
     cases h2
  subst e;refine congrArg (x :: ·) (ei5 ha.2 hb.2 fun z => ?_);constructor
  ·intro hz;rcases fl1.1 ((h z).1 (by simp [hz])) with e | h'
   ·exact absurd e.symm (eh9 (ha.1 z hz))
   ·exact h'
  ·intro hz;rcases fl1.1 ((h z).2 (by simp [hz])) with e | h'
   ·exact absurd e.symm (eh9 (hb.1 z hz))
   ·exact h'
def ei6 (acc l : List ByteArray) : List ByteArray := l.foldl (fun a s => ei2 s a) acc
theorem ei7 {y : ByteArray} : ∀ {l acc : List ByteArray}, y ∈ ei6 acc l ↔ y ∈ acc ∨ y ∈ l
 | [], acc => by simp [ei6]
 | s :: r, acc => by
  have ih := ei7 (y := y) (l := r) (acc := ei2 s acc);show y ∈ ei6 (ei2 s acc) r ↔ _;rw [ih, ei3, fl1];constructor
  ·rintro ((h | h) | h)
   ·exact .inr (.inl h)
   ·exact .inl h
   ·exact .inr (.inr h)
  ·rintro (h | h | h)
   ·exact .inl (.inr h)
   ·exact .inl (.inl h)
   ·exact .inr h
theorem ei8 : ∀ {l acc : List ByteArray}, ei1 acc → ei1 (ei6 acc l)
 | [], _, h => h
 | s :: r, acc, h => ei8 (l := r) (ei4 (s := s) h)
theorem ei9 {acc l : List ByteArray} (h : ei1 acc) : ei6 acc (ei6 [] l) = ei6 acc l :=
 ei5 (ei8 h) (ei8 h) fun x => by rw [ei7, ei7, ei7]; simp
theorem ej0 {acc a b : List ByteArray} : ei6 acc (a ++ b) = ei6 (ei6 acc a) b := by unfold ei6; rw [List.foldl_append]
theorem ej1 (s : ByteArray) : ∀ {l : List ByteArray}, ei1 l → ei2 s l = l.takeWhile (fun x => ltP x s) ++ s :: (l.dropWhile fun x => ltP x s).filter fun x => !(x.toList == s.toList)
 | [], _ => rfl
 | x :: r, h => by
  rw [ei1, ft4] at h;unfold ei2
  cases h1 : ltP x s with
  | true =>
   rw [cond_true, ej1 s h.2, List.takeWhile_cons_of_pos (p := fun x => ltP x s) h1, List.dropWhile_cons_of_pos (p := fun x => ltP x s) h1];rfl
  | false =>
   rw [cond_false, List.takeWhile_cons_of_neg (p := fun x => ltP x s) (by rw [h1]; decide), List.dropWhile_cons_of_neg (p := fun x => ltP x s) (by rw [h1]; decide), fr2]
   cases h2 : x.toList == s.toList with
   | true =>
    obtain rfl := eh4 (by simpa using h2 : x.toList = s.toList);rw [cond_true, List.filter_cons_of_neg (by simp)];refine congrArg (x :: ·) (List.filter_eq_self.2 fun y hy => ?_).symm;rw [eh5];simpa using (eh9 (h.1 y hy)).symm
   | false =>
    have h3 : ltP s x = true := by
     rcases eh8 x s with h | h | h
     ·rw [h] at h1; cases h1
     ·rw [h, beq_self_eq_true] at h2; cases h2
     ·exact h
    rw [cond_false];refine congrArg (s :: ·) (List.filter_eq_self.2 fun y hy => ?_).symm;rw [eh5];rcases fl1.1 hy with rfl | hy
    ·simpa using (eh9 h3).symm
    ·simpa using (eh9 (eh6 h3 (h.1 y hy))).symm
mutual
def usX : Ex → List ByteArray
 | .mk op _ nm _ ks => (bif op == 2 then [nm] else []) ++ ej2 ks
def ej2 : List Ex → List ByteArray
 | [] => []
 | x :: r => usX x ++ ej2 r
end
def ej3 (e : Ex) : List ByteArray := ei6 [] (usX e)
theorem ej4 (e : Ex) : ei1 (ej3 e) := ei8 List.Pairwise.nil
theorem ej5 {e : Ex} {s : ByteArray} : s ∈ ej3 e ↔ s ∈ usX e := by unfold ej3; rw [ei7]; simp
theorem ej6 : ∀ l : List Ex, ej2 l = l.flatMap usX
 | [] => rfl
 | x :: r => by rw [ej2, List.flatMap_cons, ej6 r]
theorem ej7 (e : Ex) : (usX e).length ≤ nd e := by
 refine cz2 (P := fun e => (usX e).length ≤ nd e) (fun op v nm ds ks ih => ?_) e;rw [usX, dc9];show _ ≤ ndL ks + 1
 have key : ∀ l : List Ex, (∀ x ∈ l, (usX x).length ≤ nd x) → (ej2 l).length ≤ ndL l := by
  intro l
  induction l with
  | nil => intro _; exact fk9 _
  | cons a r ihr =>
   intro h;have h1 := h a (by simp);have h2 := ihr fun x hx => h x (by simp [hx])
   simp only [ej2, fl8, ndL]; omega
 have hk := key ks ih;rw [fl8]
 cases op == 2 with
 | true => rw [cond_true]; simp; omega
 | false => rw [cond_false]; simp; omega
theorem ej8 (s : ByteArray) : ∀ l : List ByteArray, (ei2 s l).length ≤ l.length + 1
 | [] => by simp [ei2]
 | x :: r => by
  have := ej8 s r;unfold ei2
  cases ltP x s with
  | true => rw [cond_true]; simp; omega
  | false =>
   rw [cond_false]
   cases x.toList == s.toList with
   | true => rw [cond_true]; simp
   | false => rw [cond_false]; simp
theorem ej9 : ∀ (l acc : List ByteArray), (ei6 acc l).length ≤ acc.length + l.length
 | [], acc => by simp [ei6]
 | s :: r, acc => by
  have h1 := ej9 r (ei2 s acc);have h2 := ej8 s acc;show (ei6 (ei2 s acc) r).length ≤ _;simp only [fk5]; omega
theorem ek0 (e : Ex) : (ej3 e).length ≤ nd e := by
 have h1 := ej9 (usX e) [];have h2 := ej7 e;unfold ej3;simp only [fm6] at h1;omega
def ek1 (ks : List ByteArray) (s : ByteArray) : List ByteArray := bif ks.any (fun x => x.toList == s.toList) then ks else ks ++ [s]
theorem ek2 {ks : List ByteArray} {s : ByteArray} : (ks.any fun x => x.toList == s.toList) = true ↔ s ∈ ks := by
 rw [List.any_eq_true];constructor
 ·rintro ⟨x, hx, h⟩;obtain rfl := eh4 (by simpa using h : x.toList = s.toList);exact hx
 ·intro h;exact ⟨s, h, by simp⟩
theorem ek3 {ks : List ByteArray} {s : ByteArray} : (ks.any fun x => x.toList == s.toList) = false ↔ s ∉ ks := by rw [← fr7, ek2]
theorem ek4 {ks : List ByteArray} {s y : ByteArray} : y ∈ ek1 ks s ↔ y = s ∨ y ∈ ks := by
 unfold ek1
 cases h : ks.any fun x => x.toList == s.toList with
 | true =>
  have h := ek2.1 h;rw [cond_true];exact ⟨.inr, fun h' => h'.elim (fun e => e ▸ h) id⟩
 | false =>
  rw [cond_false, fm8, fl7];exact or_comm
theorem ek5 {ks : List ByteArray} {s : ByteArray} (hn : ks.Nodup) : (ek1 ks s).Nodup := by
 unfold ek1
 cases h : ks.any fun x => x.toList == s.toList with
 | true => rw [cond_true]; exact hn
 | false =>
  have h := ek3.1 h;rw [cond_false];refine List.nodup_append.2 ⟨hn, List.nodup_cons.2 ⟨by simp, List.nodup_nil⟩, fun a ha b hb => ?_⟩;rw [fl7] at hb;subst hb;rintro rfl;exact h ha
theorem ek6 (ks : List ByteArray) (s : ByteArray) : (ek1 ks s).length ≤ ks.length + 1 := by
 unfold ek1
 cases ks.any fun x => x.toList == s.toList with
 | true => rw [cond_true]; omega
 | false => rw [cond_false]; simp
def ek7 (ks l : List ByteArray) : List ByteArray := l.foldl ek1 ks
theorem ek8 {y : ByteArray} : ∀ {l ks : List ByteArray}, y ∈ ek7 ks l ↔ y ∈ ks ∨ y ∈ l
 | [], ks => by simp [ek7]
 | s :: r, ks => by
  show y ∈ ek7 (ek1 ks s) r ↔ _;rw [ek8, ek4, fl1];constructor
  ·rintro ((h | h) | h)
   ·exact .inr (.inl h)
   ·exact .inl h
   ·exact .inr (.inr h)
  ·rintro (h | h | h)
   ·exact .inl (.inr h)
   ·exact .inl (.inl h)
   ·exact .inr h
theorem ek9 : ∀ {l ks : List ByteArray}, ks.Nodup → (ek7 ks l).Nodup
 | [], _, h => h
 | s :: r, ks, h => ek9 (l := r) (ek5 (s := s) h)
theorem el0 : ∀ (l ks : List ByteArray), (ek7 ks l).length ≤ ks.length + l.length
 | [], ks => by simp [ek7]
 | s :: r, ks => by
  have h1 := el0 r (ek1 ks s);have h2 := ek6 ks s;show (ek7 (ek1 ks s) r).length ≤ _;simp only [fk5]; omega
theorem el1 {ks a b : List ByteArray} : ek7 ks (a ++ b) = ek7 (ek7 ks a) b := by unfold ek7; rw [List.foldl_append]
end Go.Proofs.YtaiiailapeffgaaGreatDoor
namespace Go.Proofs.YtaiiailapeffgaaGreatDoor
set_option maxRecDepth 4000
open Go Go.Abs Go.Val Go.RowKit Go.Maps Go.Sort Go.Shelf Go.Proofs Go.Proofs.Tryz
theorem el2 (m : Nat) : AnyZ.SortsIn Tryz.prog Tryz.sortedU_ren Fence.wide m :=
 ⟨fun blk off cap ss W hH hblk hsz => callsIn_wide.2 (AnyM.slices_Sort_string Tryz.sortU blk off cap ss W hH hblk hsz), fun p cap W => callsIn_wide.2 (AnyM.slices_Sort_string_none Tryz.sortU p cap W)⟩
set_option maxHeartbeats 1000000 in
theorem el3 {H : Type} (w : World) (Bm b nn : Nat) (D0 : DataW H) (R : Value → Option (DataW H × List MemPlace)) (hBm : Bm < w.heap.size) (hm : w.cell? ⟨Bm, 0, none⟩ = some (.map (some b))) (hown : w.ownsMap Tryz.prog 9 R b nn D0) (hmax : Maps.size D0 ≤ maxLen) (hbytes : Maps.size D0 * 16 ≤ 140737488355328) :
  Calls Tryz.prog 173 #[.func (.func 251) #[] #[.pointer (some ⟨Bm, 0, none⟩)]] w fun e w' => ∃ (v : Value) (ss : List (List UInt8)), e = .returned v ∧ ss.Perm (strKeys D0) ∧
   w'.ownsRow w.heap.size 9 1 v ss.length ((ss.mergeSort (fun x y => decide (x ≤ y))).map encStr) ∧ (v = .slice none 0 0 ↔ ss = []) ∧ Below w.heap.size w w' := by
 have hseq : SeqGives Fence.wide 2 Tryz.prog 251 #[.pointer (some ⟨Bm, 0, none⟩)] encStr (fun ss => ss.Perm (strKeys D0)) (Maps.size D0) w :=
  AnyZ.keys_gives (ρ := Tryz.keysU_ren) { Tryz.keysU with } Fence.wide _ trivial rfl (by omega) Bm b nn D0 _ hBm hm hown
 exact callsIn_wide.1 (AnyZ.sorted_in Tryz.sortedU Fence.wide 5 trivial trivial trivial trivial rfl (by omega) (el2 _) (enters_of func231 (by kernel_rfl) rfl) 251 _ trivial (enters_of func251 (by kernel_rfl) rfl) _ _ hmax hbytes _ hseq)
def mpU (ks : List ByteArray) : List (Value × D) := ks.map fun s => (.string s, .bool true)
theorem el4 (s : ByteArray) : ∀ ks : List ByteArray, bl6 (.string s) (mpU ks) = ks.findIdx? fun x => x.toList == s.toList
 | [] => rfl
 | x :: r => by
  have ih := el4 s r
  have e : vEq (.string s) (.string x) = (x.toList == s.toList) := by
   show (s == x) = _;rw [eh5, fm5, decide_eq_true_eq];rw [MapKept.bytes_beq];exact ⟨fun h => h.symm, fun h => h.symm⟩
  show (bif vEq (.string s) (.string x) then some 0 else (bl6 (.string s) (mpU r)).map (· + 1)) = _;rw [e, ih, List.findIdx?_cons]
  cases x.toList == s.toList <;> rfl
theorem el5 (s : ByteArray) (ks : List ByteArray) : bl7 (.string s) (.bool true) (mpU ks) = mpU (ek1 ks s) := by
 unfold bl7 ek1;rw [el4]
 cases h : ks.findIdx? fun x => x.toList == s.toList with
 | none =>
  rw [List.findIdx?_eq_none_iff] at h
  have : (ks.any fun x => x.toList == s.toList) = false := by
   rw [← fr7, List.any_eq_true];rintro ⟨x, hx, he⟩;rw [h x hx] at he; cases he
  rw [this, cond_false];simp [mpU]
 | some i =>
  obtain ⟨hi, he, -⟩ := List.findIdx?_eq_some_iff_getElem.1 h;have : (ks.any fun x => x.toList == s.toList) = true := List.any_eq_true.2 ⟨_, fq3 hi, he⟩;rw [this, cond_true];have hx : ks[i] = s := eh4 (by simpa using he);show (mpU ks).set i (.string s, .bool true) = mpU ks;apply fq6;intro j;rw [fo7];split
  ·rename_i hj
   subst hj;have hl : i < (mpU ks).length := by simp [mpU, hi]
   rw [if_pos hl];simp [mpU, fk0 hi, hx]
  ·rfl
theorem le_lt {x y : List UInt8} (h : x ≤ y) (hn : x ≠ y) : Op.bytesLess x y = true := by
 rcases dl0 x y with ⟨h1, -, -⟩ | ⟨-, h2, -⟩ | ⟨-, -, h3⟩
 ·exact h1
 ·rw [bytesLess_eq, decide_eq_true_eq] at h2;exact absurd h2 (List.not_lt.2 h)
 ·exact absurd h3 hn
def toB (l : List (List UInt8)) : List ByteArray := l.map fun b => ⟨b.toArray⟩
theorem el6 {ks : List ByteArray} {ss : List (List UInt8)} (hp : ss.Perm (eg9 ks)) (hn : ks.Nodup) : toB (ss.mergeSort fun x y => decide (x ≤ y)) = ei6 [] ks := by
 have hsl : (ss.mergeSort fun x y => decide (x ≤ y)).Pairwise fun x y => x ≤ y := by
  have := List.pairwise_mergeSort (le := fun x y : List UInt8 => decide (x ≤ y)) (fun a b c h1 h2 => by simp only [decide_eq_true_eq] at *; exact List.le_trans h1 h2) (fun a b => by simp only [fm4, decide_eq_true_eq]; exact List.le_total a b) ss;exact this.imp fun h => by simpa using h
 have hbn : (eg9 ks).Nodup := by
  unfold eg9;refine List.pairwise_map.2 (hn.imp fun {a b} h e => h ?_);exact ByteArray.ext (Array.toList_inj.1 e)
 have hpm : (ss.mergeSort fun x y => decide (x ≤ y)).Perm (eg9 ks) := (List.mergeSort_perm _ _).trans hp;have hnd : (ss.mergeSort fun x y => decide (x ≤ y)).Nodup := hpm.nodup_iff.2 hbn;generalize (ss.mergeSort fun x y => decide (x ≤ y)) = T at *;refine ei5 ?_ (ei8 List.Pairwise.nil) fun x => ?_
 ·unfold toB;refine List.pairwise_map.2 ((hsl.and hnd).imp fun {a b} h => ?_);unfold ltP;rw [ByteArray.toList_eq, ByteArray.toList_eq];exact le_lt h.1 h.2
 ·rw [ei7];unfold toB;rw [fo8];constructor
  ·rintro ⟨b, hb, rfl⟩;obtain ⟨s, hs, rfl⟩ := fo8.1 (hpm.mem_iff.1 hb);exact .inr hs
  ·rintro (h | h)
   ·cases h
   ·exact ⟨x.data.toList, hpm.mem_iff.2 (fo8.2 ⟨x, h, rfl⟩), rfl⟩
theorem el7 (mt : TypeId) (ks : List ByteArray) (hs : ∀ s ∈ ks, s.size ≤ maxLen) (hn : ks.Nodup) (hsz : ks.length ≤ 1000000000) :
  EvS E 173 [.clo 251 [.ptr 0 0]] [.var mt (.w (.mp 1)), .map .string (mpU ks)] (.d (.sl ((ei6 [] ks).map .str))) [.var mt (.w (.mp 1)), .map .string (mpU ks)] := by
 intro w F σ vs hi hl hr
 match vs, hl with
 | [v0], _ =>
  obtain ⟨us, rfl, ul, ur⟩ := hr 0 _ _ rfl rfl
  match us, ul with
  | [u0], _ =>
   obtain ⟨b, c, n, e1, rfl⟩ := ur 0 _ _ rfl rfl;obtain ⟨cs, g1, g2, g3, g4, g5, g6⟩ := hi.obs 0 _ _ rfl e1
   match cs, g2 with
   | [sv], _ =>
    obtain ⟨b1, c1, n1, f1, rfl⟩ := g4 0 (.mp 1) sv rfl rfl;obtain ⟨es, k1, k2, k3, k4, k5, k6⟩ := hi.obs 1 _ _ rfl f1;have hml : (mpU ks).length = ks.length := by simp [mpU]
    have hus : Tryz.prog.underlying 9 = some .string := by kernel_rfl
    have hbl : b < w.heap.size := (fu0.1 g1).1
    have hkey : ∀ (i : Nat) e, es[i]? = some e → ∃ s, ks[i]? = some s ∧ e.key = .string s ∧ e.born = i := by
     intro i e he;have hil : i < ks.length := by have := (fu0.1 he).1; omega
     obtain ⟨⟨q1, q2⟩, -⟩ := k3 i e (.string ks[i], .bool true) he (by simp [mpU, fk0 hil]);exact ⟨ks[i], fk0 hil, q1, q2⟩
    let R : Value → Option (DataW Unit × List MemPlace) := fun _ => some (.lit (.bool true), [])
    have hrd : ∀ (i : Nat) e s, es[i]? = some e → ks[i]? = some s → WideElems.rd Tryz.prog 9 R e = some (.string s.data.toList, .lit (.bool true)) := by
     intro i e s he hk;obtain ⟨s', h1, h2, -⟩ := hkey i e he;rw [hk] at h1
     cases h1
     unfold WideElems.rd;rw [h2, WideMaps.keyOf_string_mk hus (hs s (fk4 hk))];rfl
    have hrg : es.toList.map (WideElems.rg Tryz.prog 9 R) = ks.map fun s => (Lit.string s.data.toList, (DataW.lit (.bool true) : DataW Unit)) := by
     apply fq6;intro j;rw [fk7, fk7];rcases fk1 j ks.length with hj | hj
     ·obtain ⟨e, he⟩ : ∃ e, es[j]? = some e := ⟨es[j]'(by omega), by simp⟩;have hk := fk0 hj;rw [fs9, he, hk];simp only [fn2];unfold WideElems.rg;rw [hrd j e _ he hk];rfl
     ·rw [fn5 (l := es.toList) (by rw [fs3]; omega), fn5 hj];rfl
    have hfit : WideElems.Fit Tryz.prog 9 R es es.size := by
     refine ⟨by rw [k2, hml]; unfold maxLen; omega, ⟨?_, ?_, ?_⟩, ?_⟩
     ·intro x hx;obtain ⟨i, hi'⟩ := fm0 hx;rw [fs9] at hi';obtain ⟨-, -, -, hb⟩ := hkey i x hi';have := (fu0.1 hi').1;omega
     ·have : es.toList.map (·.born) = List.range es.size := by
       apply fq6;intro j;rw [fk7, fs9];rcases fk1 j es.size with hj | hj
       ·obtain ⟨e, he⟩ : ∃ e, es[j]? = some e := ⟨es[j]'hj, by simp⟩;obtain ⟨-, -, -, hb⟩ := hkey j e he;rw [he, fq5 hj, ← hb]; rfl
       ·rw [fs5 hj, fn5 (by simpa using hj)]; rfl
      rw [this];exact List.nodup_range
     ·have : es.toList.map (·.key) = ks.map Value.string := by
       apply fq6;intro j;rw [fk7, fs9, fk7];rcases fk1 j es.size with hj | hj
       ·obtain ⟨e, he⟩ : ∃ e, es[j]? = some e := ⟨es[j]'hj, by simp⟩;obtain ⟨s, h1, h2, -⟩ := hkey j e he;rw [he, h1]; exact congrArg some h2
       ·rw [fs5 hj, fn5 (by omega)]; rfl
      rw [this];exact List.pairwise_map.2 (hn.imp fun {a b} h e => h (by cases e; rfl))
     ·intro x hx;obtain ⟨i, hi'⟩ := fm0 hx;rw [fs9] at hi';obtain ⟨s, h1, -, -⟩ := hkey i x hi';exact ⟨_, hrd i x s hi' h1⟩
    obtain ⟨D0, hD0⟩ : ∃ D0 : DataW Unit, D0 = .map ((es.toList.map (WideElems.rg Tryz.prog 9 R)).foldr DataW.insert []) := ⟨_, rfl⟩;have hperm := WideShapes.sorted_perm (es.toList.map (WideElems.rg Tryz.prog 9 R))
    have hDs : Maps.size D0 = ks.length := by
     rw [hD0];show (List.foldr DataW.insert [] _).length = _;rw [hperm.length_eq, hrg, fl4]
    have hDk : (strKeys D0).Perm (eg9 ks) := by
     rw [hD0];refine (hperm.map _).trans ?_;rw [hrg, List.map_map];exact List.Perm.refl _
    have hown : w.ownsMap Tryz.prog 9 R b1 es.size D0 := ⟨es, es.size, k1, hfit, fk9 _, hD0⟩;have hmx : maxLen = 9223372036854775807 := rfl;refine (el3 w b b1 es.size D0 R hbl ?_ hown (by rw [hDs]; omega) (by rw [hDs]; omega)).mono ?_
    ·simp only [World.cell?, g1];simp
    ·rintro e w' ⟨v, ss, rfl, hp, hrow, hnil, hb⟩;have hsi := el6 (hp.trans hDk) hn;have hsl : ss.length = ks.length := by rw [(hp.trans hDk).length_eq]; simp [eg9]
     have hin : ∀ z ∈ ss.mergeSort (fun x y => decide (x ≤ y)), z.length ≤ maxLen := by
      intro z hz;have hz' : z ∈ eg9 ks := (hp.trans hDk).mem_iff.1 ((List.mergeSort_perm _ _).mem_iff.1 hz);obtain ⟨s, h1, rfl⟩ := fo8.1 hz';rw [fs3];exact hs s h1
     have hD : (ei6 [] ks).map D.str = eh0 (ss.mergeSort fun x y => decide (x ≤ y)) := by
      rw [← hsi];simp [toB, eh0]
     have hml2 : (ss.mergeSort fun x y => decide (x ≤ y)).length = ss.length := List.length_mergeSort _;rw [hD];generalize ss.mergeSort (fun x y => decide (x ≤ y)) = T at *
     by_cases h0 : ss = []
     ·have hT : T = [] := fu1 (by rw [hml2, h0]; rfl);subst hT;obtain rfl := hnil.2 h0;exact ⟨_, F, σ, rfl, aa7.of_below hb fun k hk => hk.1, fun _ h => h, fun _ h => .inl h, fun i p _ hp => hp, (ab2.lend hi).ext (Ext.of_below hb hi.flt), Rd.slnil⟩
     ·have hv : v ≠ .slice none 0 0 := fun h => h0 (hnil.1 h)
      have hblk : ∀ k, v.ownBlock = some k → w.heap.size ≤ k := fun k hk => (hrow.lt k hk).1
      obtain ⟨zc1, zc2⟩ := eh1 T
      obtain ⟨g, cp, rfl, hob⟩ := aq3 (F := F) (σ := σ) (B := fun _ => False) (xs := eh0 T) (ownsRow_base_a hrow (fm7 _)) (fun k hk hh => hh) hv (by simp [eh0, hml2]) zc1 zc2 (eh2 hin)
       (fun k hk hf => by have := hblk k hk; have := hi.flt k hf; omega)
      have hge := hblk g rfl;obtain ⟨vs', q1, q2, q3, q4, q5, q6, q7, q8, -, q10⟩ := hob;have hgl : g < w'.heap.size := (fu0.1 q1).1;have hE : Ext w F w' (fun k => F k ∨ k = g) := ⟨hb, fun _ h => .inl h, fun k hk => by rcases hk with h | rfl; exact .inl h; exact .inr hge, fun k hk => by rcases hk with h | rfl; exact ft5 (hi.flt k h) hb.size; exact hgl⟩;refine ⟨_, fun k => F k ∨ k = g, σ, rfl, aa7.of_below hb fun k hk => hk.1, fun _ h => .inl h, fun k hk => ?_, fun i p _ hp => hp, (ab2.lend hi).ext hE, ?_⟩
      ·rcases hk with h | rfl
       ·exact .inl h
       ·exact .inr fun hh => by have := hh.1; omega
      ·have hex : ∀ i j, ∃ u, ∀ x cd, (eh0 T)[i]? = some x → x.cells[j]? = some cd → vs'[i * 1 + j]? = some u ∧ Rd w' F cd u := by
        intro i j
        cases hx : (eh0 T)[i]? with
        | none => exact ⟨undef, fun x cd h => by cases h⟩
        | some x =>
         cases hc : x.cells[j]? with
         | none => exact ⟨undef, fun x' cd h h' => by cases h; rw [hc] at h'; cases h'⟩
         | some cd =>
          obtain ⟨u, r1, r2⟩ := q8 i x j cd hx hc;exact ⟨u, fun x' cd' h h' => by cases h; rw [hc] at h'; cases h'; exact ⟨r1, r2⟩⟩
       show Rd w' (fun k => F k ∨ k = g) (.sl (eh0 T)) (.slice (some ⟨g, 0, none⟩) ss.length cp);rw [q3];refine .sl 1 (eh0 T) ⟨g, 0, none⟩ cp (fun i j => Classical.choose (hex i j)) (by omega) q5 (fun _ => .inr rfl) q6 q7 (fun i x j cd hx hc => ?_) (fun i x j cd hx hc => ?_)
       ·rw [aa2, aj1 q1, fo4];exact (Classical.choose_spec (hex i j) x cd hx hc).1
       ·exact (Classical.choose_spec (hex i j) x cd hx hc).2.mono (fun _ h => .inl h) fun _ _ => rfl
end Go.Proofs.YtaiiailapeffgaaGreatDoor
