/- slices.Sorted over slices.Values: a new slice that holds the strings, sorted; slices.Sorted over slices.Values and slices.Compact, as the engine's contracts; What an atom must look like, and what names and variables a query must have: the parts of Check, by both texts; The parts of Check, by the specification; names; lists of flags; Check's plain laws: sorting and dropping neighbours finds twins; both texts mean the same by an atom's form; marks; Check, by both texts; Check, by the program. Conditions: each part's own, as it says. -/
import Derived.Test.YtenpjlghikohmaaGreatDoorGS
import Derived.Test.YtenpjlghikohmaaGreatDoorLA
import Derived.Sort.OwnSorted
import Derived.Shelf.AbstractIn
import Derived.RangeFuncBound
import Derived.OwnWalkIn
import Derived.TacticsInMore
import Derived.LoopNIn
import Derived.LoopIn
import Derived.WalkKit
import Derived.Test.YtenpjlghikohmaaGreatDoorLC
import Derived.Lib.SlicesCompact
import Derived.Test.YtenpjlghikohmaaGreatDoorMB
import Derived.Test.YtenpjlghikohmaaGreatDoorFA
import Derived.Test.YtenpjlghikohmaaGreatDoorGC
set_option linter.unusedVariables false
set_option linter.unusedSimpArgs false
namespace Go.Proofs.YtenpjlghikohmaaGreatDoor
set_option maxRecDepth 4000
open Go Go.RowKit Go.Maps Go.Sort Go.Shelf Go.Proofs Go.Proofs.Tryz
attribute [local go_sem] Oper.semAt_some
def dl3 (f : Nat → List UInt8) (k : Nat) : List (List UInt8) := (List.range k).map f
theorem dl4 (f : Nat → List UInt8) (k : Nat) : dl3 f (k + 1) = dl3 f k ++ [f k] := by simp [dl3, List.range_succ]
theorem dl5 (f : Nat → List UInt8) (k : Nat) : (dl3 f k).length = k := by simp [dl3]
set_option maxRecDepth 100000 in
set_option maxHeartbeats 2000000 in
theorem dl6 (n : Nat) (hn : 1 ≤ n) (l Bs b off len cap : Nat) (f : Nat → List UInt8) (hreach : len * 16 ≤ 140737488351232) (J : List (List UInt8) → World → Prop)
  (hY : ∀ pre x W, J pre W → pre.length < len → YieldAt Fence.wide (n - 1) Tryz.prog l #[encStr x] W fun e W' => e = .returned (.bool true) ∧ J (pre ++ [x]) W' ∧ KeepsWalks W W')
  (hc : ∀ pre W, J pre W → ∀ j, j < len → W.cell? ⟨b, off + j, none⟩ = some (encStr (f j)))
  (W : World) (hBs : W.cell? ⟨Bs, 0, none⟩ = some (.slice (some ⟨b, off, none⟩) len cap)) (h0 : J [] W) :
  CallsIn Fence.wide n Tryz.prog 170 #[.func (.yield l) #[] #[], .pointer (some ⟨Bs, 0, none⟩)] W fun e W' => (∃ v, e = .returned v) ∧ J (dl3 f len) W' := by
 refine callsIn_of_wp func170 rfl trivial ?_ rfl;simp only [ntmps170, fd5, fa8, fd1, Nat.reduceAdd, Nat.reduceSub, fi5, fi6, fi7, fi8, fd9, fe3]
 gi_wp2
 gi_loopw [7] (fun i wr => ∃ k : Nat, k ≤ len ∧ i = .int .i64 k ∧ J (dl3 f k) wr)
  (fun i _ => len - (intOf i).toNat)
 case atStart => exact ⟨0, fd6 _, rfl, h0⟩
 case round =>
  obtain ⟨k, hk, rfl, hJs⟩ := hrel;have hcx : k < len → wr.cell? ⟨b, off + k, none⟩ = some (encStr (f k)) := fun h => hc _ _ hJs k h
  by_cases hlt : k < len
  ·obtain ⟨fn, tmps, assign, body, hy, hR⟩ := hY _ (f k) wr hJs (by rw [dl5]; exact hlt);have hcx' := hcx hlt
   gi_wp2
   refine hR.mono ?_;rintro e W3 ⟨rfl, hJ3, hk3⟩
   gi_wp2
   go_roundw
   case rel => exact ⟨k + 1, by omega, by simp, by rw [dl4]; exact hJ3⟩
   case measure => simp [intOf]; omega
  ·obtain rfl : k = len := by omega
   gi_wp2
   go_end0
   exact ⟨⟨_, rfl⟩, hJs⟩
set_option maxRecDepth 100000 in
set_option maxHeartbeats 2000000 in
theorem dl7 (n : Nat) (l Bs : Nat) (p : Option Addr) (cap : Nat) (J : List (List UInt8) → World → Prop) (W : World) (hBs : W.cell? ⟨Bs, 0, none⟩ = some (.slice p 0 cap)) (h0 : J [] W) :
  CallsIn Fence.wide n Tryz.prog 170 #[.func (.yield l) #[] #[], .pointer (some ⟨Bs, 0, none⟩)] W fun e W' => (∃ v, e = .returned v) ∧ J [] W' := by
 refine callsIn_of_wp func170 rfl trivial ?_ rfl;simp only [ntmps170, fd5, fa8, fd1, Nat.reduceAdd, Nat.reduceSub, fi5, fi6, fi7, fi8, fd9, fe3]
 gi_wp2
 gi_loopw [7] (fun i wr => i = .int .i64 0 ∧ J [] wr) (fun _ _ => 0)
 case atStart => exact ⟨rfl, h0⟩
 case round =>
  obtain ⟨rfl, hJs⟩ := hrel
  gi_wp2
  go_end0
  exact ⟨⟨_, rfl⟩, hJs⟩
def dl8 (n : Nat) (Bs : Nat) (ss : List (List UInt8)) (w : World) : Prop :=
 ∀ (l : Nat) (J : List (List UInt8) → World → Prop) (W : World), Below w.heap.size w W → (∀ pre W', J pre W' → Below w.heap.size w W') →
  (∀ pre x W1, J pre W1 → pre.length < ss.length → YieldAt Fence.wide (n - 1) Tryz.prog l #[encStr x] W1 fun e W' => e = .returned (.bool true) ∧ J (pre ++ [x]) W' ∧ KeepsWalks W1 W') → J [] W →
  CallsIn Fence.wide n Tryz.prog 170 #[.func (.yield l) #[] #[], .pointer (some ⟨Bs, 0, none⟩)] W fun e W' => (∃ v, e = .returned v) ∧ J ss W'
theorem dl9 (ss : List (List UInt8)) : dl3 (fun j => ss[j]?.getD []) ss.length = ss := by
 apply List.ext_getElem
 ·simp [dl3]
 ·intro i h1 h2;simp [dl3, h2]
theorem dm0 {w : World} {Bs b off cap n : Nat} {ss : List (List UInt8)} (hn : 1 ≤ n) (hBl : Bs < w.heap.size) (hb : b < w.heap.size) (hreach : ss.length * 16 ≤ 140737488351232) (hBs : w.cell? ⟨Bs, 0, none⟩ = some (.slice (some ⟨b, off, none⟩) ss.length cap))
  (hc : ∀ j, j < ss.length → w.cell? ⟨b, off + j, none⟩ = some (encStr (ss[j]?.getD []))) : dl8 n Bs ss w := by
 intro l J W hW hJ hY h0;have := dl6 n hn l Bs b off ss.length cap (fun j => ss[j]?.getD []) hreach J hY (fun pre W' hj j hlt => ((hJ pre W' hj).cell (p := ⟨b, off + j, none⟩) hb).trans (hc j hlt)) W ((hW.cell (p := ⟨Bs, 0, none⟩) hBl).trans hBs) h0;rwa [dl9] at this
theorem dm1 {w : World} {Bs cap n : Nat} {p : Option Addr} (hBl : Bs < w.heap.size) (hBs : w.cell? ⟨Bs, 0, none⟩ = some (.slice p 0 cap)) : dl8 n Bs [] w :=
 fun l J W hW _ _ h0 => dl7 n l Bs p cap J W ((hW.cell (p := ⟨Bs, 0, none⟩) hBl).trans hBs) h0
set_option maxRecDepth 100000 in
set_option maxHeartbeats 2000000 in
theorem dm2 (n : Nat) (hn : 2 ≤ n) (Bs : Nat) (ss : List (List UInt8)) (hN : ss.length ≤ maxLen) (hNb : ss.length * 16 ≤ 140737488355328) (w : World) (hseq : dl8 (n - 1) Bs ss w) :
    CallsIn Fence.wide n Tryz.prog 254 #[.slice none 0 0, .func (.func 170) #[] #[.pointer (some ⟨Bs, 0, none⟩)]] w fun e w' => ∃ (v : Value), e = .returned v ∧ w'.ownsRow w.heap.size 9 1 v ss.length (ss.map encStr) ∧ (v = .slice none 0 0 ↔ ss = []) ∧ Below w.heap.size w w' := by
  have L := Tryz.sorted58;have h1 : 1 ≤ n := by omega
  refine callsIn_of_wp_marks func254 rfl trivial ?_ rfl;simp only [ntmps254, fd5, fa8, fd1, Nat.reduceAdd, Nat.reduceSub, fi5, fi6, fi7, fi8, fd9, fe3]
  gi_wp2
  refine wpIn_rangeFunc ?_;intro fn hfn;obtain ⟨sv, hsv⟩ : ∃ sv : Value, sv = .func (.func 170) #[] #[.pointer (some ⟨Bs, 0, none⟩)] := ⟨_, rfl⟩;obtain ⟨W0, hW0⟩ : ∃ W0, w.alloc (.cells #[.slice none 0 0] 25) = W0 := ⟨_, rfl⟩;have hs0 : W0.heap.size = w.heap.size + 1 := by rw [← hW0]; simp
  have hv0 : W0.heap[w.heap.size]? = some (.cells #[.slice none 0 0] 25 (0, 0)) := by rw [← hW0]; exact World.alloc_heap_new w _
  have hb0 : Below w.heap.size w W0 := by rw [← hW0]; exact (Below.refl _ w).alloc (fa4 _) _
  rw [hW0];obtain ⟨W1, hW1⟩ : ∃ W1, (W0.alloc (.deferred (some []))).alloc (.loop (AnyZ.apRec Tryz.sorted58_ren fn sv w.heap.size W0.heap.size .ready none)) = W1 := ⟨_, rfl⟩
  have hold : ∀ k, k < W0.heap.size → W1.heap[k]? = W0.heap[k]? := fun k hk => by
    rw [← hW1]; exact (Below.heap_alloc _ _ k (by simp; omega)).trans (Below.heap_alloc _ _ k hk)
  have hb1 : Below w.heap.size w W1 := by rw [← hW1]; exact (hb0.alloc hb0.size _).alloc (by have := hb0.size; simp; omega) _
  have hs1 : W1.heap.size = W0.heap.size + 2 := by rw [← hW1]; simp
  have hM : AnyZ.ApAt Tryz.sorted58_ren w fn sv w.heap.size (W0.heap.size + 1) W0.heap.size [] W1 :=
    ⟨⟨_, (hold w.heap.size (by omega)).trans hv0, ⟨rfl, .inl ⟨rfl, rfl⟩⟩, by simp⟩,
     by rw [← hW1]; have := World.alloc_heap_new (W0.alloc (.deferred (some []))) (.loop (AnyZ.apRec Tryz.sorted58_ren fn sv w.heap.size W0.heap.size .ready none)); rwa [World.size_alloc] at this,
     by rw [← hW1]; exact (Below.heap_alloc _ _ _ (by simp)).trans (World.alloc_heap_new W0 _), hb1⟩
  refine ⟨W0.heap.size + 1, [{ target := .collected W0.heap.size, args := #[] }], W1, { target := .fn (.func 170) #[.pointer (some ⟨Bs, 0, none⟩)], args := #[.func (.yield (W0.heap.size + 1)) #[] #[]] }, W1, 170,
    #[.func (.yield (W0.heap.size + 1)) #[] #[]] ++ #[.pointer (some ⟨Bs, 0, none⟩)], W1, ?_, ?_, ?_, ?_, fun _ => h1, ?_⟩
  · rw [← hW1, hsv]; exact run_enterLoop_outer _ _ _ _ _
  · simp [resolve, go_sem]
  · intro f' hf'; trivial
  · simp [invoke, go_sem, enters_of func170 (by kernel_rfl) rfl]
  · refine (hseq (W0.heap.size + 1) (AnyZ.ApAt Tryz.sorted58_ren w fn sv w.heap.size (W0.heap.size + 1) W0.heap.size) W1 hb1 (fun pre W' h => h.below)
      (fun pre x W hJ hl => AnyZ.apYield { L with } Fence.wide (n - 1 - 1) w fn trivial sv w.heap.size (W0.heap.size + 1) W0.heap.size (by omega) (by omega) (by omega) (fa4 _) (by omega) ss.length hN hNb pre x W hJ hl) hM).mono ?_
    rintro e W2 ⟨⟨v0, rfl⟩, h2⟩;obtain ⟨v, hv, hrow, hnil⟩ := h2.box;have hend := run_endLoop (P := Tryz.prog) h2.L (by simp [AnyZ.apRec]);obtain ⟨W3, hW3⟩ : ∃ W3, W2.putObj (W0.heap.size + 1) (.loop { AnyZ.apRec Tryz.sorted58_ren fn sv w.heap.size W0.heap.size .ready none with state := .exhausted }) = W3 := ⟨_, rfl⟩;rw [hW3] at hend;have hg3 : W2.grownBy W3 (some (W0.heap.size + 1)) := by rw [← hW3]; exact grownBy_putObj_a _ _ _
    have hv3 : W3.heap[w.heap.size]? = some (.cells #[v] 25 (0, 0)) := by rw [← hW3]; exact (World.putObj_heap_other (by omega)).trans hv
    have hK3 : W3.heap[W0.heap.size]? = some (.deferred (some [])) := by rw [← hW3]; exact (World.putObj_heap_other (by omega)).trans h2.K
    have hrow3 := hrow.kept hg3 (ownsRow_ne_a hrow h2.L (fun cur e => by cases e));have hb3 : Below w.heap.size w W3 := h2.below.grown hg3 h2.below.size (fun k e => by cases e; omega);obtain ⟨hc3, hf3⟩ := cell_of_box_a hv3;clear hW3;refine ⟨none, W3, hend, ?_⟩
    gi_wp2
    rw [← hs0];refine ⟨by simp, .inl ⟨_, _, rfl, run_takeDeferred hK3, ?_⟩⟩;exact ⟨_, results_tmp rfl _ _ _, v, rfl, hrow3.kept (grownBy_putObj_a _ _ _) (ownsRow_ne_a hrow3 hK3 (fun cur e => by cases e)), hnil, hb3.grown (grownBy_putObj_a _ _ _) hb3.size (fun k e => by cases e; omega)⟩
set_option maxHeartbeats 1000000 in
theorem dm3 (n : Nat) (hn : 3 ≤ n) (Bs : Nat) (ss : List (List UInt8)) (hN : ss.length ≤ maxLen) (hNb : ss.length * 16 ≤ 140737488355328) (w : World) (hseq : dl8 (n - 1 - 1) Bs ss w) :
  CallsIn Fence.wide n Tryz.prog 169 #[.func (.func 170) #[] #[.pointer (some ⟨Bs, 0, none⟩)]] w fun e w' => ∃ (v : Value), e = .returned v ∧ w'.ownsRow w.heap.size 9 1 v ss.length (ss.map encStr) ∧ (v = .slice none 0 0 ↔ ss = []) ∧ Below w.heap.size w w' := by
 have h1 : 1 ≤ n := by omega
 have hfS : Fence.wide.fn 254 := trivial;refine callsIn_of_wp func169 rfl trivial ?_ rfl;simp only [ntmps169, fd5, fa8, fd1, Nat.reduceAdd, Nat.reduceSub, fi5, fi6, fi7, fi8, fd9, fe3]
 gi_wp2_with (gi_at_call 254; refine (dm2 (n - 1) (by omega) Bs ss hN hNb _ hseq).mono ?_; rintro e w' ⟨v, rfl, hrow, hnil, hb⟩)
 go_ret
 exact ⟨v, rfl, hrow, hnil, hb⟩
set_option maxRecDepth 100000 in
set_option maxHeartbeats 2000000 in
theorem dm4 (n : Nat) (hn : 4 ≤ n) (Bs : Nat) (ss : List (List UInt8)) (hN : ss.length ≤ maxLen) (hNb : ss.length * 16 ≤ 140737488355328) (w : World) (hseq : dl8 (n - 1 - 1 - 1) Bs ss w) :
  CallsIn Fence.wide n Tryz.prog 82 #[.func (.func 170) #[] #[.pointer (some ⟨Bs, 0, none⟩)]] w fun e w' => ∃ (v : Value), e = .returned v ∧
   w'.ownsRow w.heap.size 9 1 v ss.length ((ss.mergeSort (fun x y => decide (x ≤ y))).map encStr) ∧ (v = .slice none 0 0 ↔ ss = []) ∧ Below w.heap.size w w' := by
 have h1 : 1 ≤ n := by omega
 have hfC : Fence.wide.fn 169 := trivial;have hfS : Fence.wide.fn 123 := trivial;refine callsIn_of_wp func82 rfl trivial ?_ rfl;simp only [ntmps82, fd5, fa8, fd1, Nat.reduceAdd, Nat.reduceSub, fi5, fi6, fi7, fi8, fd9, fe3]
 gi_wp2_with (gi_at_call 169; refine (dm3 (n - 1) (by omega) Bs ss hN hNb _ hseq).mono ?_; rintro e W ⟨v, rfl, hrow, hnil, hb⟩)
 rcases hrow.2 with ⟨rfl, hz⟩ | ⟨gb, cap, cur, rfl, hbase, hgb, r1, r2, r3, r4⟩
 ·have hss : ss = [] := fl3 hz;subst hss
  gi_wp2_with (gi_at_call 123; refine (callsIn_wide.2 (Tryz.slices_Sort_string_none none 0 W)).mono ?_; rintro e w' ⟨rfl, rfl⟩)
  go_ret
  exact ⟨.slice none 0 0, rfl, by simpa using hrow, by simp, hb⟩
 ·have hH : Holds encStr W gb 0 ss.toArray := holds_of_block hgb (by simpa using r4);have hgl : gb < W.heap.size := (fg3.1 hgb).1;have hsz : ss.length < 4611686018427387904 := by omega
  have cS := Tryz.slices_Sort_string gb 0 cap ss W hH hgl hsz
  gi_wp2_with (gi_at_call 123; refine (callsIn_wide.2 cS).mono ?_; rintro e w' ⟨rfl, nn, os, rfl⟩)
  go_ret
  exact ⟨_, rfl, ownsRow_sorted (by simp) hbase hgb r1 r2 r3, hnil, hb.grown (grownBy_sorted _) hb.size (fun j hj => by cases hj; exact hbase)⟩
theorem dm5 (Bs : Nat) (ss : List (List UInt8)) (hN : ss.length ≤ maxLen) (hNb : ss.length * 16 ≤ 140737488355328) (w : World) (hseq : dl8 2 Bs ss w) :
  Calls Tryz.prog 82 #[.func (.func 170) #[] #[.pointer (some ⟨Bs, 0, none⟩)]] w fun e w' => ∃ (v : Value), e = .returned v ∧
   w'.ownsRow w.heap.size 9 1 v ss.length ((ss.mergeSort (fun x y => decide (x ≤ y))).map encStr) ∧ (v = .slice none 0 0 ↔ ss = []) ∧ Below w.heap.size w w' :=
 callsIn_wide.1 (dm4 5 (by omega) Bs ss hN hNb w hseq)
end Go.Proofs.YtenpjlghikohmaaGreatDoor
namespace Go.Proofs.YtenpjlghikohmaaGreatDoor
set_option maxRecDepth 4000
open Go Go.Abs Go.Val Go.RowKit Go.Sort Go.Proofs Go.Proofs.Tryz
abbrev dm6 (l : List ByteArray) : aa5 := .var 25 (.w (.d (.sl (l.map .str))))
def dm7 (l : List ByteArray) : List (List UInt8) := l.map fun s => s.data.toList
def dm8 (l : List (List UInt8)) : List D := l.map fun b => .str ⟨b.toArray⟩
theorem ab2.lend {F : Nat → Prop} {σ : Sg} {ob : List aa5} {w : World} (h : ab2 E ⟨fun _ => False, 0, []⟩ F σ ob w) : ab2 E ⟨bb1 w ob σ, 0, []⟩ F σ ob w :=
 ⟨h.flt, h.glob, h.len, fun o x p hx hp => (h.obs o x p hx hp).own fun hl hh => hh.2 ⟨o, x, p, hx, hl, hp, rfl⟩, h.inj, fun i p hi => absurd hi (Nat.not_lt_zero _)⟩
theorem dm9 {w w' : World} (h : Below w.heap.size w w') : w.grownBy w' none := ⟨h.os, h.tape, h.output, h.size, fun k hk _ => h.block k hk⟩
theorem aa7.of_below {w w' : World} {O : Nat → Prop} (h : Below w.heap.size w w') (hO : ∀ k, O k → k < w.heap.size) : aa7 O w w' := ⟨h.os, h.tape, h.output, h.size, fun k hk => h.block k (hO k hk), hO⟩
theorem dn0 (l : List (List UInt8)) : (∀ x ∈ dm8 l, x.cells.length = 1) ∧ ∀ x ∈ dm8 l, ∀ c ∈ x.cells, c.one = true := by
 constructor
 ·intro x hx;obtain ⟨u, -, rfl⟩ := fc4.1 hx;rfl
 ·intro x hx c hc;obtain ⟨u, -, rfl⟩ := fc4.1 hx;rw [show (D.str ⟨u.toArray⟩).cells = [D.str ⟨u.toArray⟩] from rfl, fa0] at hc;subst hc;rfl
theorem dn1 {w : World} {F : Nat → Prop} {l : List (List UInt8)} (hl : ∀ b ∈ l, b.length ≤ maxLen) : ∀ (i : Nat) (x : D) (j : Nat) (cd : D), (dm8 l)[i]? = some x → x.cells[j]? = some cd → ∃ v, (l.map encStr)[i * 1 + j]? = some v ∧ Rd w F cd v := by
 intro i x j cd hx hc;rw [dm8, ez8, fa2] at hx;obtain ⟨b, hb, rfl⟩ := hx;rw [show (D.str ⟨b.toArray⟩).cells = [D.str ⟨b.toArray⟩] from rfl] at hc
 cases j with
 | zero =>
  simp at hc;subst hc;refine ⟨_, by rw [ff1, fc5, ez8, hb]; rfl, Rd.imm _ ?_⟩;have := hl b (ez9 hb);simpa [Go.Abs.okV, ByteArray.size] using this
 | succ j => simp at hc
def dn2 (l : List (List UInt8)) : List (List UInt8) := l.mergeSort fun x y => decide (x ≤ y)
theorem dn3 {w : World} {ad : Addr} {v : Value} (h : w.cell? ad = some v) : ad.spot = none := by
 unfold World.cell? at h;split at h
 ·split at h
  ·cases h
  ·rename_i hs; simpa using hs
 ·cases h
theorem dn4 (l : List ByteArray) (hne : l ≠ []) (hsz : l.length ≤ 1000000) : EvS E 82 [.clo 170 [.ptr 0 0]] [dm6 l] (.own 1) [dm6 l, .row 9 1 (dm8 (dn2 (dm7 l)))] := by
 intro w F σ vs hi hl hr
 match vs, hl with
 | [v0], _ =>
  obtain ⟨us, rfl, ul, ur⟩ := hr 0 _ _ rfl rfl
  match us, ul with
  | [u0], _ =>
   obtain ⟨b, c, n, e1, rfl⟩ := ur 0 _ _ rfl rfl;obtain ⟨cs, g1, g2, g3, g4, g5, g6⟩ := hi.obs 0 _ _ rfl e1
   match cs, g2 with
   | [sv], _ =>
    have hrd : Rd w F (.sl (l.map .str)) sv := g4 0 (.d (.sl (l.map .str))) sv rfl rfl;have hσ : σ.length = 1 := hi.len;rcases Rd.sl_inv hrd with ⟨h0, -⟩ | ⟨size, ad, cap, rfl, h1, h2, h3, h4, h5, h6⟩
    ·exact absurd (by simpa using h0) hne
    ·have hsize : size = 1 := by
      obtain ⟨s, r, rfl⟩ := fk9 hne;exact (h4 (.str s) (by simp)).symm
     subst hsize
     have hcell : ∀ j, j < l.length → w.cell? (ad.add j) = some (encStr ((dm7 l)[j]?.getD [])) := by
      intro j hj;obtain ⟨u, q1, q2⟩ := h6 j (.str l[j]) 0 (.str l[j]) (by simp [hj]) rfl;rw [ff1, fc5] at q1;rw [q1, (Rd.imm_inv q2).1];simp [dm7, hj, encStr]
     have hlen : (dm7 l).length = l.length := by simp [dm7]
     have hlp : 0 < l.length := fj2.2 hne;have hsp : ad.spot = none := dn3 (by have := hcell 0 hlp; rwa [show ad.add 0 = ad from rfl] at this);obtain ⟨ab, ao, asp⟩ := ad;simp only at hsp;subst hsp;have hbl : b < w.heap.size := (fg3.1 g1).1;have hab : ab < w.heap.size := hi.flt ab (h3 (by simpa using hne))
     have hG : dl8 2 b (dm7 l) w := by
      refine dm0 (off := ao) (b := ab) (cap := cap) (by omega) hbl hab (by omega) ?_ fun j hj => ?_
      ·rw [hlen];simp only [World.cell?, g1];simp
      ·have := hcell j (by omega);rwa [aa2] at this
     refine (dm5 b (dm7 l) (by rw [hlen]; unfold maxLen; omega) (by omega) w hG).mono ?_;rintro e w' ⟨v, rfl, hrow, hnil, hb⟩;have hv : v ≠ .slice none 0 0 := fun h => hne (by simpa [dm7] using hnil.1 h)
     have hblk : ∀ k, v.ownBlock = some k → w.heap.size ≤ k := fun k hk => (hrow.lt k hk).1
     obtain ⟨zc1, zc2⟩ := dn0 (dn2 (dm7 l))
     have hin : ∀ z ∈ dn2 (dm7 l), z.length ≤ maxLen := by
      intro z hz;have hz' : z ∈ dm7 l := (fk4 _ _).mem_iff.1 hz;obtain ⟨s, hs, rfl⟩ := fc4.1 hz';obtain ⟨j, hj⟩ := fb0 hs;obtain ⟨u, -, q2⟩ := h6 j (.str s) 0 (.str s) (by simp [hj]) rfl;have h9 : s.size ≤ maxLen := of_decide_eq_true (Rd.imm_inv q2).2;show s.data.toList.length ≤ maxLen;rw [fk1];exact h9
     obtain ⟨g, cp, rfl, hob⟩ := aq3 (F := F) (σ := σ) (B := bb1 w [dm6 l] σ) (xs := dm8 (dn2 (dm7 l))) (ownsRow_base_a hrow (fd6 _)) (fun k hk hh => by have := hblk k hk; have := hh.1; omega) hv (by simp [dm8, dn2]) zc1 zc2 (dn1 hin)
      (fun k hk hf => by have := hblk k hk; have := hi.flt k hf; omega)
     have hge := hblk g rfl;have hob2 : aa6 w' F (σ ++ [(g, cp, (dm7 l).length)]) (bb1 w [dm6 l] σ) (.row 9 1 (dm8 (dn2 (dm7 l)))) (g, cp, (dm7 l).length) := hob.mono (fun _ h => h) (fun _ _ => rfl) σ_app (fun _ => rfl) fun _ h => h
     refine ⟨_, F, σ ++ [(g, cp, (dm7 l).length)], rfl, aa7.of_below hb fun k hk => hk.1, fun _ h => h, fun _ h => .inl h, fun i p hi hp => σ_app _ _ hp, ?_, ⟨g, cp, (dm7 l).length, by rw [fa9 (by omega), hσ]; rfl, rfl⟩⟩;exact (ab2.lend hi).regrow (ob0 := [dm6 l]) (row := none) (fun o x hx hl => ⟨hx, fun p hp => by simp⟩) rfl (dm9 hb) (fun k hk => by cases hk) _ g cp _ (.inr hge) hob2
theorem dn5 (zs : List (List UInt8)) : (Lib.compact zs).length ≤ zs.length := by
 unfold Lib.compact Lib.compactUpTo;rw [fb8];refine fd3 (fh7 _ _) ?_;simp
theorem dn6 (zs : List (List UInt8)) (hin : ∀ z ∈ zs, z.length ≤ maxLen) : EvS E 84 [.own 0] [.row 9 1 (dm8 zs)] (.own 1) [.dead, .row 9 1 (dm8 (Lib.compact zs))] := by
 intro w F σ vs hi hl hr
 match vs, hl with
 | [v0], _ =>
  obtain ⟨b, c, n, e1, rfl⟩ := hr 0 _ _ rfl rfl;have hσ : σ.length = 1 := hi.len;obtain ⟨cs, g1, g2, g3, g4, g5, g6, g7, g8, g9, g10⟩ := hi.obs 0 _ _ rfl e1;have hn : n = zs.length := by rw [g3]; simp [dm8]
  subst hn
  have ht : cs.take zs.length = zs.map encStr := by
   refine ff4 fun j => ?_
   rcases ez6 j zs.length with hj | hj
   ·obtain ⟨v, q1, q2⟩ := g8 j (.str ⟨zs[j].toArray⟩) 0 (.str ⟨zs[j].toArray⟩) (by simp [dm8, hj]) rfl;rw [ff1, fc5] at q1;rw [fi9 hj, q1, (Rd.imm_inv q2).1];simp [hj, encStr]
   ·rw [fc8 (by rw [fb6]; omega), fc8 (by simpa using hj)]
  have hH : Holds encStr w b 0 zs.toArray := holds_of_block g1 (by simpa using ht);have hmx : maxLen = 9223372036854775807 := rfl;refine (Tryz.slices_Compact_string b 0 c zs w hH (by omega) g4).mono ?_;rintro e w' ⟨rfl, q, rfl⟩;have hkl := dn5 zs;have hdl : (Lib.compact zs ++ List.replicate (zs.length - (Lib.compact zs).length) []).length = zs.length := by simp; omega
  have hhp := heap_sorted (n := q) (os := #[]) (Lib.compact zs ++ List.replicate (zs.length - (Lib.compact zs).length) []).toArray g1;rw [grow_empty] at hhp;have hgb := grownBy_sorted (w := w) (g := b) (n := q) (os := #[]) (Lib.compact zs ++ List.replicate (zs.length - (Lib.compact zs).length) []).toArray;rw [grow_empty] at hgb;have htk := take_putCells cs.toArray (Lib.compact zs ++ List.replicate (zs.length - (Lib.compact zs).length) []) (by rw [hdl]; simp; omega)
  have hin2 : ∀ z ∈ Lib.compact zs, z.length ≤ maxLen := by
   intro z hz;unfold Lib.compact Lib.compactUpTo at hz;obtain ⟨j, hj, rfl⟩ := fc4.1 hz;have hjl : j < zs.length := by simpa using (fe7.1 hj).1
   have : zs.toArray[j]! = zs[j] := by rw [getElem!_pos _ j (by simpa using hjl)]; simp
   rw [this];exact hin _ (fc9 hjl)
  obtain ⟨zc1, zc2⟩ := dn0 (Lib.compact zs);have hlb : ¬ bb1 w [.row 9 1 (dm8 zs)] σ b := fun hh => hh.2 ⟨0, _, _, rfl, rfl, e1, rfl⟩
  have hFb : ¬ F b := g10
  have hob : aa6 (putRow encStr (Sort.ahead w q) b 0 (Lib.compact zs ++ List.replicate (zs.length - (Lib.compact zs).length) []).toArray) F (σ ++ [(b, c, (Lib.compact zs).length)]) (bb1 w [.row 9 1 (dm8 zs)] σ) (.row 9 1 (dm8 (Lib.compact zs))) (b, c, (Lib.compact zs).length) := by
   refine ⟨(putCells encStr 0 (Lib.compact zs ++ List.replicate (zs.length - (Lib.compact zs).length) []).toArray cs.toArray).toList, by simpa using hhp, by simp [putCells, g2], by simp [dm8], by omega, g5, zc1, zc2, fun i x j cd hx hc => ?_, hlb, hFb⟩;obtain ⟨v, r1, r2⟩ := dn1 (w := putRow encStr (Sort.ahead w q) b 0 (Lib.compact zs ++ List.replicate (zs.length - (Lib.compact zs).length) []).toArray) (F := F) hin2 i x j cd hx hc;refine ⟨v, ?_, r2⟩;have hlt : i * 1 + j < (Lib.compact zs).length := by simpa using (ez7.1 r1).1
   have h1 := congrArg (fun l => l[i * 1 + j]?) htk;rw [fi9 (by omega), List.map_append, fa7 (by simpa using hlt)] at h1;rw [h1, r1]
  refine ⟨_, F, σ ++ [(b, c, (Lib.compact zs).length)], rfl, ⟨hgb.os, hgb.tape, hgb.output, hgb.size, fun k hk => hgb.block k hk.1 (fun e => hlb (by cases e; exact hk)), fun k hk => hk.1⟩, fun _ h => h, fun _ h => .inl h, fun i p hi hp => σ_app _ _ hp, ?_, ⟨b, c, (Lib.compact zs).length, by rw [fa9 (by omega), hσ]; rfl, rfl⟩⟩
  exact (ab2.lend hi).regrow (ob0 := [.dead]) (row := some b) (fun o x hx hl => by
   cases o with
   | zero => simp at hx; subst hx; cases hl
   | succ o => simp at hx) rfl hgb (fun k hk => by cases hk; exact hFb) _ b c _ (.inl rfl) hob
end Go.Proofs.YtenpjlghikohmaaGreatDoor
namespace Go.Proofs.YtenpjlghikohmaaGreatDoor
set_option maxRecDepth 4000
open Go Go.Abs Go.Val Go.Proofs.Tryz
attribute [local irreducible] go SGo an2 Ev aw2 EvO EvS PGo RGo cm6
theorem dn7 (l : List ByteArray) : EvS E 83 [.d (.sl (l.map .str))] [] (.clo 170 [.ptr 0 0]) [dm6 l] := by
 refine yn func83 ntmps83 fun _ _ _ _=>?_
 repeat' (first | refine yz ?_ | refine bc7 rfl rfl rfl rfl rfl ?_ | refine bd2 [0] rfl rfl rfl rfl rfl ?_)
 rfl
def dn8 (k : Int) : Nat := bif k == 1 then 1 else bif k == 2 then 1 else bif k == 4 then 1 else bif k == 3 then 3 else 0
theorem dn9 (k : Int) : Ev E 145 [.int k] (.d (.int (dn8 k))) := by
 unfold dn8;rcases dk1 k with rfl | rfl | rfl | rfl | ⟨h1, h2, h3, h4⟩
 ·refine ye1 func145 ntmps145 fun _ _ _=>?_
  repeat' (first | refine yz ?_ | exact zD)
 ·refine ye1 func145 ntmps145 fun _ _ _=>?_
  repeat' (first | refine yz ?_ | exact zD)
 ·refine ye1 func145 ntmps145 fun _ _ _=>?_
  repeat' (first | refine yz ?_ | exact zD)
 ·refine ye1 func145 ntmps145 fun _ _ _=>?_
  repeat' (first | refine yz ?_ | exact zD)
 ·rw [h1, h2, h3, h4];refine ye1 func145 ntmps145 fun _ _ _=>?_
  repeat' (first | refine yz ?_ | exact zD)
def cntN (k : Int) : Int := bif dn8 k == 0 then -1 else (dn8 k : Int)
theorem do0 (k : Int) : Ev E 158 [.int k] (.d (.int (cntN k))) := by
 unfold cntN dn8;rcases dk1 k with rfl | rfl | rfl | rfl | ⟨h1, h2, h3, h4⟩
 ·refine ye1 func158 ntmps158 fun _ _ _=>?_
  repeat' (first | refine yz ?_ | exact zD)
 ·refine ye1 func158 ntmps158 fun _ _ _=>?_
  repeat' (first | refine yz ?_ | exact zD)
 ·refine ye1 func158 ntmps158 fun _ _ _=>?_
  repeat' (first | refine yz ?_ | exact zD)
 ·refine ye1 func158 ntmps158 fun _ _ _=>?_
  repeat' (first | refine yz ?_ | exact zD)
 ·rw [h1, h2, h3, h4];refine ye1 func158 ntmps158 fun _ _ _=>?_
  repeat' (first | refine yz ?_ | exact zD)
structure SMm (f : Int → Int → Int) (x : Int) (r : List Int) where
 i : Nat
 m : Int
 hi : i ≤ r.length
 hm : inR .i64 m
 ok : r.foldl f x = (r.drop i).foldl f m
theorem do1 (x : Int) (r : List Int) : Ev E 146 [.sl (iL (x :: r))] (.d (.int (r.foldl min x))) := Ev.fit fun hfit => by
 obtain ⟨hmax, hel⟩ := cy4 (hfit (.sl (iL (x :: r))) (by simp));have hxr := (hel x (by simp)).int;have hle := di9 (x :: r);simp only [fa8] at hmax hle;have g0 : decide (((iL (x :: r)).length : Int) < 1) = false := by rw [hle]; simp; omega
 have h0 : (iL (x :: r))[(0 : Int).toNat]? = some (.int x) := rfl;refine ye1 func146 ntmps146 fun _ _ _=>?_
 repeat' (first | refine yz ?_ | refine yi (.int x) h0 ?_)
 refine ac7 (α := SMm min x r) (fun p => ⟨[(0, .d (.sl (iL (x :: r)))), (3, .d (.int p.m)), (4, .d (.int ((p.i + 1 : Nat) : Int)))], []⟩) (fun p => r.length - p.i) ⟨0, x, by omega, hxr, rfl⟩ (zle 0) ?_;rintro ⟨i, m, hi, hm, ok⟩;dsimp only;rcases ez6 i r.length with hlt | hge
 ·have g1 : decide (((i + 1 : Nat) : Int) < ((iL (x :: r)).length : Int)) = true := by rw [hle]; simp; omega
  have hx0 := ez5 hlt;generalize r[i] = y at hx0;have hx : (iL (x :: r))[((i + 1 : Nat) : Int).toNat]? = some (.int y) := dj0 (by simpa using hx0);have hyr := (hel y (by simp [ez9 hx0])).int
  repeat' (first | refine yz ?_ | refine yi (.int y) hx ?_)
  refine ac1 ?_;refine ⟨⟨i + 1, min m y, hlt, ?_, by rw [ok, bz2 hx0, ff3]⟩, by dsimp only; omega, (zle 0)⟩;simp only [inR, Int.min_def] at hm hyr ⊢;split <;> assumption
 ·have g1 : decide (((i + 1 : Nat) : Int) < ((iL (x :: r)).length : Int)) = false := by rw [hle]; simp; omega
  rw [ok, fa1 hge]
  repeat' (first | refine yz ?_ | exact zD)
theorem do2 (x : Int) (r : List Int) : Ev E 81 [.sl (iL (x :: r))] (.d (.int (r.foldl max x))) := Ev.fit fun hfit => by
 obtain ⟨hmax, hel⟩ := cy4 (hfit (.sl (iL (x :: r))) (by simp));have hxr := (hel x (by simp)).int;have hle := di9 (x :: r);simp only [fa8] at hmax hle;have g0 : decide (((iL (x :: r)).length : Int) < 1) = false := by rw [hle]; simp; omega
 have h0 : (iL (x :: r))[(0 : Int).toNat]? = some (.int x) := rfl;refine ye1 func81 ntmps81 fun _ _ _=>?_
 repeat' (first | refine yz ?_ | refine yi (.int x) h0 ?_)
 refine ac7 (α := SMm max x r) (fun p => ⟨[(0, .d (.sl (iL (x :: r)))), (3, .d (.int p.m)), (4, .d (.int ((p.i + 1 : Nat) : Int)))], []⟩) (fun p => r.length - p.i) ⟨0, x, by omega, hxr, rfl⟩ (zle 0) ?_;rintro ⟨i, m, hi, hm, ok⟩;dsimp only;rcases ez6 i r.length with hlt | hge
 ·have g1 : decide (((i + 1 : Nat) : Int) < ((iL (x :: r)).length : Int)) = true := by rw [hle]; simp; omega
  have hx0 := ez5 hlt;generalize r[i] = y at hx0;have hx : (iL (x :: r))[((i + 1 : Nat) : Int).toNat]? = some (.int y) := dj0 (by simpa using hx0);have hyr := (hel y (by simp [ez9 hx0])).int
  repeat' (first | refine yz ?_ | refine yi (.int y) hx ?_)
  refine ac1 ?_;refine ⟨⟨i + 1, max m y, hlt, ?_, by rw [ok, bz2 hx0, ff3]⟩, by dsimp only; omega, (zle 0)⟩;simp only [inR, Int.max_def] at hm hyr ⊢;split <;> assumption
 ·have g1 : decide (((i + 1 : Nat) : Int) < ((iL (x :: r)).length : Int)) = false := by rw [hle]; simp; omega
  rw [ok, fa1 hge]
  repeat' (first | refine yz ?_ | exact zD)
theorem do3 : ∀ (r : List Int) (x : Int), decide (r.foldl min x < 0) = (x :: r).any fun v => decide (v < 0)
 | [], x => by simp only [List.foldl_nil, fe6, fh5, fc2]; rfl
 | y :: r, x => by
  rw [ff3, do3 r (min x y), fe6, fe6, fe6, ← Bool.or_assoc];congr 1;rw [ff6];simp only [decide_eq_true_eq, fc7];omega
theorem do4 (n : Int) : ∀ (r : List Int) (x : Int), decide (r.foldl max x ≥ n) = (x :: r).any fun v => decide (v ≥ n)
 | [], x => by simp only [List.foldl_nil, fe6, fh5, fc2]; rfl
 | y :: r, x => by
  rw [ff3, do4 n r (max x y), fe6, fe6, fe6, ← Bool.or_assoc];congr 1;rw [ff6];simp only [decide_eq_true_eq, fc7];omega
def do5 : List ByteArray → Bool
 | [] => true
 | [_] => true
 | a :: b :: r => Op.bytesLess a.toList b.toList && do5 (b :: r)
theorem do6 : ∀ a b : List UInt8, (Op.bytesLess a b = true ∧ Op.bytesLess b a = false ∧ a ≠ b) ∨ (Op.bytesLess a b = false ∧ Op.bytesLess b a = true ∧ a ≠ b) ∨ (Op.bytesLess a b = false ∧ Op.bytesLess b a = false ∧ a = b)
 | [], [] => .inr (.inr ⟨rfl, rfl, rfl⟩)
 | [], _ :: _ => .inl ⟨rfl, rfl, by simp⟩
 | _ :: _, [] => .inr (.inl ⟨rfl, rfl, by simp⟩)
 | x :: a, y :: b => by
  have ih := do6 a b;simp only [Op.bytesLess];rcases Nat.lt_trichotomy x.toNat y.toNat with h | h | h
  ·have h1 : x < y := h;have h2 : ¬ y < x := fun h' => Nat.lt_asymm h h'
   have h3 : x ≠ y := fun e => by subst e; omega
   have h4 : (y == x) = false := by rw [beq_eq_false_iff_ne]; exact fun e => h3 e.symm
   left;refine ⟨by simp [h1], by simp [h2, h4], fun e => h3 (List.cons.inj e).1⟩
  ·have e : x = y := UInt8.toNat_inj.1 h;subst e;have h2 : ¬ x < x := fun h' => fi1 _ h'
   simp only [h2, decide_false, beq_self_eq_true, fc3, fe2];rcases ih with ⟨i1, i2, i3⟩ | ⟨i1, i2, i3⟩ | ⟨i1, i2, i3⟩
   ·exact .inl ⟨i1, i2, fun e => i3 (List.cons.inj e).2⟩
   ·exact .inr (.inl ⟨i1, i2, fun e => i3 (List.cons.inj e).2⟩)
   ·exact .inr (.inr ⟨i1, i2, by rw [i3]⟩)
  ·have h1 : y < x := h;have h2 : ¬ x < y := fun h' => Nat.lt_asymm h h'
   have h3 : x ≠ y := fun e => by subst e; omega
   have h4 : (x == y) = false := by rw [beq_eq_false_iff_ne]; exact h3
   right; left;refine ⟨by simp [h2, h4], by simp [h1], fun e => h3 (List.cons.inj e).1⟩
theorem do7 (a b : ByteArray) : (Op.bytesLess b.toList a.toList || b.toList == a.toList) = !Op.bytesLess a.toList b.toList := by
 rcases do6 a.toList b.toList with ⟨h1, h2, h3⟩ | ⟨h1, h2, h3⟩ | ⟨h1, h2, h3⟩
 ·rw [h1, h2, show (b.toList == a.toList) = false by rw [beq_eq_false_iff_ne]; exact fun e => h3 e.symm]; rfl
 ·rw [h1, h2]; rfl
 ·rw [h1, h2, h3]; simp
structure SRs (l : List ByteArray) where
 i : Nat
 hi : i + 1 ≤ l.length
 ok : do5 l = do5 (l.drop i)
theorem do8 {l : List ByteArray} {i : Nat} {a b : ByteArray} (ha : l[i]? = some a) (hb : l[i + 1]? = some b) : do5 (l.drop i) = (Op.bytesLess a.toList b.toList && do5 (l.drop (i + 1))) := by
 rw [bz2 ha, bz2 hb];rfl
theorem do9 {l : List ByteArray} {i : Nat} (h : i + 1 = l.length) : do5 (l.drop i) = true := by
 obtain ⟨a, ha⟩ : ∃ a, l[i]? = some a := ⟨_, ez5 (by omega)⟩;rw [bz2 ha, fa1 (by omega)];rfl
theorem dp0 (l : List ByteArray) : Ev E 159 [.sl (l.map .str)] (.d (.bool (do5 l))) := Ev.fit fun hfit => by
 have hmax := (cy4 (hfit (.sl (l.map .str)) (by simp))).1;have hle : (l.map D.str).length = l.length := by simp
 by_cases h0 : l = []
 ·subst h0;refine ye1 func159 ntmps159 fun _ _ _=>?_
  repeat' (refine yz ?_)
  refine ac7 (α := Unit) (fun p => ⟨[(0, .d (.sl [])), (3, .d (.int 1))], []⟩) (fun p => 0) () (zle 0) ?_;rintro -;have g1 : decide ((1 : Int) < (([] : List D).length : Int)) = false := rfl
  repeat' (first | refine yz ?_ | exact zD)
 have hp := fj2.2 h0;refine ye1 func159 ntmps159 fun _ _ _=>?_
 repeat' (refine yz ?_)
 refine ac7 (α := SRs l) (fun p => ⟨[(0, .d (.sl (l.map .str))), (3, .d (.int ((p.i + 1 : Nat) : Int)))], []⟩) (fun p => l.length - p.i) ⟨0, by omega, rfl⟩ (zle 0) ?_;rintro ⟨i, hi, ok⟩;dsimp only;rcases ez6 (i + 1) l.length with hlt | hge
 ·have g1 : decide (((i + 1 : Nat) : Int) < ((l.map D.str).length : Int)) = true := by rw [hle]; simp; omega
  have ha0 := ez5 (show i < l.length by omega);have hb0 := ez5 hlt;generalize l[i] = a at ha0;generalize l[i + 1] = b at hb0;have hb := cy3 (f := D.str) hb0
  have ha : (l.map D.str)[(((i + 1 : Nat) : Int) - 1).toNat]? = some (.str a) := by
   rw [show (((i + 1 : Nat) : Int) - 1) = (i : Int) by omega]; exact cy3 (f := D.str) ha0
  have g2 := do7 a b;rw [ok, do8 ha0 hb0]
  cases hc : Op.bytesLess a.toList b.toList with
  | true =>
   rw [hc] at g2
   repeat' (first | refine yz ?_ | refine yi (.str b) hb ?_ | refine yi (.str a) ha ?_)
   refine ac1 ?_;exact ⟨⟨i + 1, hlt, by rw [ok, do8 ha0 hb0, hc]; rfl⟩, by dsimp only; omega, (zle 0)⟩
  | false =>
   rw [hc] at g2
   repeat' (first | refine yz ?_ | refine yi (.str b) hb ?_ | refine yi (.str a) ha ?_ | exact zD)
 ·have g1 : decide (((i + 1 : Nat) : Int) < ((l.map D.str).length : Int)) = false := by rw [hle]; simp; omega
  rw [ok, do9 (by omega)]
  repeat' (first | refine yz ?_ | exact zD)
def nmE (s : ByteArray) : Bool := s.toList == (⟨#[]⟩ : ByteArray).toList
def dp1 (a : AT) : Bool :=
 bif dn8 a.k == 0 || a.vs.length != dn8 a.k then false else
 bif a.vs.any fun v => decide (v < 0) then false else
 bif (a.k != 3 && decide (a.ty.length > 0)) || ((a.k != 1 && a.k != 2) && !nmE a.nm) then false else
 bif a.k == 2 then bt4 a.v else do5 a.ty && cm6 a.v bs8 == 0
abbrev oAT (a : AT) : aa5 := .var 58 (.w (.d (di7 a)))
structure SRt (l : List ByteArray) where
 i : Nat
 hi : i + 1 ≤ l.length ∨ l = []
 ok : do5 l = do5 (l.drop i)
theorem dp2 (a : AT) : Ev E 57 [di7 a] (.d (.bool (dp1 a))) := Ev.fit fun hfit => by
 obtain ⟨k, vs, nm, ty, v⟩ := a;have hft := hfit (di7 ⟨k, vs, nm, ty, v⟩) (by simp);have hmax := (cy4 (hft.aggs (.sl (ty.map .str)) (by simp))).1;have hle := di9 vs;have hlt : (ty.map D.str).length = ty.length := by simp
 have hpl := ca7 cc1 v;have hor := cp2 v bs8;have hna := dn9 k;rcases dk1 k with rfl | rfl | rfl | rfl | hk
 ·cases hl : vs.length == 3 with
  | false =>
   have g1 : (((iL vs).length : Int) != 3) = true := by rw [hle]; simp at hl ⊢; omega
   have ea : dp1 ⟨3, vs, nm, ty, v⟩ = false := by unfold dp1; simp [dn8, bne, hl]
   rw [ea];refine ye1 func57 ntmps57 fun _ _ _=>?_
   repeat' (first | refine yz ?_ | refine yp bu8 hna ?_ | refine yx ?_ | exact zD)
  | true =>
   have hl' : vs.length = 3 := by simpa using hl
   obtain ⟨x, r, rfl⟩ := fk9 (fun h : vs = [] => by rw [h] at hl'; simp at hl');have g1 : (((iL (x :: r)).length : Int) != 3) = false := by rw [hle, hl']; rfl
   have hmin := do1 x r;have hmn := do3 r x
   cases hm : decide (r.foldl min x < 0) with
   | true =>
    have ea : dp1 ⟨3, x :: r, nm, ty, v⟩ = false := by unfold dp1; rw [hm] at hmn; dsimp only; rw [← hmn, hl']; rfl
    rw [ea];refine ye1 func57 ntmps57 fun _ _ _=>?_
    repeat' (first | refine yz ?_ | refine yp bu8 hna ?_ | refine yp bu9 hmin ?_ | refine yx ?_ | exact zD)
   | false =>
    rw [hm] at hmn
    cases hn : nmE nm with
    | false =>
     have g3 : (nm.toList == (⟨#[]⟩ : ByteArray).toList) = false := hn;have g3n : (!(nm.toList == (⟨#[]⟩ : ByteArray).toList)) = true := by rw [g3]; rfl
     have ea : dp1 ⟨3, x :: r, nm, ty, v⟩ = false := by unfold dp1; dsimp only; rw [← hmn, hl', hn]; rfl
     rw [ea];refine ye1 func57 ntmps57 fun _ _ _=>?_
     repeat' (first | refine yz ?_ | refine yp bu8 hna ?_ | refine yp bu9 hmin ?_ | refine yx ?_ | exact zD)
    | true =>
     have g3 : (nm.toList == (⟨#[]⟩ : ByteArray).toList) = true := hn;have g3n : (!(nm.toList == (⟨#[]⟩ : ByteArray).toList)) = false := by rw [g3]; rfl
     have ea : dp1 ⟨3, x :: r, nm, ty, v⟩ = (do5 ty && cm6 v bs8 == 0) := by unfold dp1; dsimp only; rw [← hmn, hl', hn]; rfl
     rw [ea];refine ye1 func57 ntmps57 fun _ _ _=>?_
     repeat' (first | refine yz ?_ | refine yp bu8 hna ?_ | refine yp bu9 hmin ?_ | refine yx ?_)
     refine ac7 (α := SRt ty) (fun p => ⟨[(1, .ptr 0 0), (4, .d (.int ((p.i + 1 : Nat) : Int)))], [oAT ⟨3, x :: r, nm, ty, v⟩]⟩) (fun p => ty.length - p.i) ⟨0, (by cases ty with | nil => exact .inr rfl | cons _ _ => left; simp), rfl⟩ (zle 1) ?_;rintro ⟨i, hi, ok⟩;dsimp only;rcases ez6 (i + 1) ty.length with hlt2 | hge
     ·have g4 : decide (((i + 1 : Nat) : Int) < ((ty.map D.str).length : Int)) = true := by rw [hlt]; simp; omega
      have ha0 := ez5 (show i < ty.length by omega);have hb0 := ez5 hlt2;generalize ty[i] = a at ha0;generalize ty[i + 1] = b at hb0;have hb := cy3 (f := D.str) hb0
      have ha : (ty.map D.str)[(((i + 1 : Nat) : Int) - 1).toNat]? = some (.str a) := by
       rw [show (((i + 1 : Nat) : Int) - 1) = (i : Int) by omega]; exact cy3 (f := D.str) ha0
      have hnx := do8 ha0 hb0
      cases hc : Op.bytesLess a.toList b.toList with
      | true =>
       have hcn : (!Op.bytesLess a.toList b.toList) = false := by rw [hc]; rfl
       rw [hc, fc3] at hnx
       repeat' (first | refine yz ?_ | refine yi (.str b) hb ?_ | refine yi (.str a) ha ?_)
       refine ac1 ?_;exact ⟨⟨i + 1, .inl (by omega), ok.trans hnx⟩, by dsimp only; omega, (zle 1)⟩
      | false =>
       have hcn : (!Op.bytesLess a.toList b.toList) = true := by rw [hc]; rfl
       rw [hc, fe1] at hnx;rw [ok, hnx]
       repeat' (first | refine yz ?_ | refine yi (.str b) hb ?_ | refine yi (.str a) ha ?_ | exact zD)
     ·have g4 : decide (((i + 1 : Nat) : Int) < ((ty.map D.str).length : Int)) = false := by rw [hlt]; simp; omega
      have he : do5 (ty.drop i) = true := by
       rcases hi with hi | hi
       ·exact do9 (by omega)
       ·rw [hi]; simp [do5]
      rw [ok, he, fc3]
      repeat' (first | refine yz ?_ | refine yp b148 hor ?_ | exact zD)
 ·cases hl : vs.length == 1 with
  | false =>
   have g1 : (((iL vs).length : Int) != 1) = true := by rw [hle]; simp at hl ⊢; omega
   have ea : dp1 ⟨1, vs, nm, ty, v⟩ = false := by unfold dp1; simp [dn8, bne, hl]
   rw [ea];refine ye1 func57 ntmps57 fun _ _ _=>?_
   repeat' (first | refine yz ?_ | refine yp bu8 hna ?_ | refine yx ?_ | exact zD)
  | true =>
   have hl' : vs.length = 1 := by simpa using hl
   obtain ⟨x, r, rfl⟩ := fk9 (fun h : vs = [] => by rw [h] at hl'; simp at hl');have g1 : (((iL (x :: r)).length : Int) != 1) = false := by rw [hle, hl']; rfl
   have hmin := do1 x r;have hmn := do3 r x
   cases hm : decide (r.foldl min x < 0) with
   | true =>
    have ea : dp1 ⟨1, x :: r, nm, ty, v⟩ = false := by unfold dp1; rw [hm] at hmn; dsimp only; rw [← hmn, hl']; rfl
    rw [ea];refine ye1 func57 ntmps57 fun _ _ _=>?_
    repeat' (first | refine yz ?_ | refine yp bu8 hna ?_ | refine yp bu9 hmin ?_ | refine yx ?_ | exact zD)
   | false =>
    rw [hm] at hmn
    cases hty : decide (ty.length > 0) with
    | true =>
     have g2 : decide (((ty.map D.str).length : Int) > 0) = true := by rw [hlt]; simpa using hty
     have ea : dp1 ⟨1, x :: r, nm, ty, v⟩ = false := by unfold dp1; dsimp only; rw [← hmn, hl', hty]; rfl
     rw [ea];refine ye1 func57 ntmps57 fun _ _ _=>?_
     repeat' (first | refine yz ?_ | refine yp bu8 hna ?_ | refine yp bu9 hmin ?_ | refine yx ?_ | exact zD)
    | false =>
     have g2 : decide (((ty.map D.str).length : Int) > 0) = false := by rw [hlt]; simpa using hty
     have hty0 : ty = [] := by simpa using hty
     subst hty0;have ea : dp1 ⟨1, x :: r, nm, [], v⟩ = (do5 [] && cm6 v bs8 == 0) := by unfold dp1; dsimp only; rw [← hmn, hl']; rfl
     rw [ea];refine ye1 func57 ntmps57 fun _ _ _=>?_
     repeat' (first | refine yz ?_ | refine yp bu8 hna ?_ | refine yp bu9 hmin ?_ | refine yx ?_)
     refine ac7 (α := Unit) (fun p => ⟨[(1, .ptr 0 0), (4, .d (.int 1))], [oAT ⟨1, x :: r, nm, [], v⟩]⟩) (fun p => 0) () (zle 1) ?_;rintro -;have g4 : decide ((1 : Int) < (([] : List D).length : Int)) = false := rfl
     repeat' (first | refine yz ?_ | refine yp b148 hor ?_ | exact zD)
 ·cases hl : vs.length == 1 with
  | false =>
   have g1 : (((iL vs).length : Int) != 1) = true := by rw [hle]; simp at hl ⊢; omega
   have ea : dp1 ⟨2, vs, nm, ty, v⟩ = false := by unfold dp1; simp [dn8, bne, hl]
   rw [ea];refine ye1 func57 ntmps57 fun _ _ _=>?_
   repeat' (first | refine yz ?_ | refine yp bu8 hna ?_ | refine yx ?_ | exact zD)
  | true =>
   have hl' : vs.length = 1 := by simpa using hl
   obtain ⟨x, r, rfl⟩ := fk9 (fun h : vs = [] => by rw [h] at hl'; simp at hl');have g1 : (((iL (x :: r)).length : Int) != 1) = false := by rw [hle, hl']; rfl
   have hmin := do1 x r;have hmn := do3 r x
   cases hm : decide (r.foldl min x < 0) with
   | true =>
    have ea : dp1 ⟨2, x :: r, nm, ty, v⟩ = false := by unfold dp1; rw [hm] at hmn; dsimp only; rw [← hmn, hl']; rfl
    rw [ea];refine ye1 func57 ntmps57 fun _ _ _=>?_
    repeat' (first | refine yz ?_ | refine yp bu8 hna ?_ | refine yp bu9 hmin ?_ | refine yx ?_ | exact zD)
   | false =>
    rw [hm] at hmn
    cases hty : decide (ty.length > 0) with
    | true =>
     have g2 : decide (((ty.map D.str).length : Int) > 0) = true := by rw [hlt]; simpa using hty
     have ea : dp1 ⟨2, x :: r, nm, ty, v⟩ = false := by unfold dp1; dsimp only; rw [← hmn, hl', hty]; rfl
     rw [ea];refine ye1 func57 ntmps57 fun _ _ _=>?_
     repeat' (first | refine yz ?_ | refine yp bu8 hna ?_ | refine yp bu9 hmin ?_ | refine yx ?_ | exact zD)
    | false =>
     have g2 : decide (((ty.map D.str).length : Int) > 0) = false := by rw [hlt]; simpa using hty
     have hty0 : ty = [] := by simpa using hty
     subst hty0;have ea : dp1 ⟨2, x :: r, nm, [], v⟩ = bt4 v := by unfold dp1; dsimp only; rw [← hmn, hl']; rfl
     rw [ea];refine ye1 func57 ntmps57 fun _ _ _=>?_
     repeat' (first | refine yz ?_ | refine yp bu8 hna ?_ | refine yp bu9 hmin ?_ | refine yp b147 hpl ?_ | refine yx ?_ | exact zD)
 ·cases hl : vs.length == 1 with
  | false =>
   have g1 : (((iL vs).length : Int) != 1) = true := by rw [hle]; simp at hl ⊢; omega
   have ea : dp1 ⟨4, vs, nm, ty, v⟩ = false := by unfold dp1; simp [dn8, bne, hl]
   rw [ea];refine ye1 func57 ntmps57 fun _ _ _=>?_
   repeat' (first | refine yz ?_ | refine yp bu8 hna ?_ | refine yx ?_ | exact zD)
  | true =>
   have hl' : vs.length = 1 := by simpa using hl
   obtain ⟨x, r, rfl⟩ := fk9 (fun h : vs = [] => by rw [h] at hl'; simp at hl');have g1 : (((iL (x :: r)).length : Int) != 1) = false := by rw [hle, hl']; rfl
   have hmin := do1 x r;have hmn := do3 r x
   cases hm : decide (r.foldl min x < 0) with
   | true =>
    have ea : dp1 ⟨4, x :: r, nm, ty, v⟩ = false := by unfold dp1; rw [hm] at hmn; dsimp only; rw [← hmn, hl']; rfl
    rw [ea];refine ye1 func57 ntmps57 fun _ _ _=>?_
    repeat' (first | refine yz ?_ | refine yp bu8 hna ?_ | refine yp bu9 hmin ?_ | refine yx ?_ | exact zD)
   | false =>
    rw [hm] at hmn
    cases hty : decide (ty.length > 0) with
    | true =>
     have g2 : decide (((ty.map D.str).length : Int) > 0) = true := by rw [hlt]; simpa using hty
     have ea : dp1 ⟨4, x :: r, nm, ty, v⟩ = false := by unfold dp1; dsimp only; rw [← hmn, hl', hty]; rfl
     rw [ea];refine ye1 func57 ntmps57 fun _ _ _=>?_
     repeat' (first | refine yz ?_ | refine yp bu8 hna ?_ | refine yp bu9 hmin ?_ | refine yx ?_ | exact zD)
    | false =>
     have g2 : decide (((ty.map D.str).length : Int) > 0) = false := by rw [hlt]; simpa using hty
     have hty0 : ty = [] := by simpa using hty
     subst hty0
     cases hn : nmE nm with
     | false =>
      have g3 : (nm.toList == (⟨#[]⟩ : ByteArray).toList) = false := hn;have g3n : (!(nm.toList == (⟨#[]⟩ : ByteArray).toList)) = true := by rw [g3]; rfl
      have ea : dp1 ⟨4, x :: r, nm, [], v⟩ = false := by unfold dp1; dsimp only; rw [← hmn, hl', hn]; rfl
      rw [ea];refine ye1 func57 ntmps57 fun _ _ _=>?_
      repeat' (first | refine yz ?_ | refine yp bu8 hna ?_ | refine yp bu9 hmin ?_ | refine yx ?_ | exact zD)
     | true =>
      have g3 : (nm.toList == (⟨#[]⟩ : ByteArray).toList) = true := hn;have g3n : (!(nm.toList == (⟨#[]⟩ : ByteArray).toList)) = false := by rw [g3]; rfl
      have ea : dp1 ⟨4, x :: r, nm, [], v⟩ = (do5 [] && cm6 v bs8 == 0) := by unfold dp1; dsimp only; rw [← hmn, hl', hn]; rfl
      rw [ea];refine ye1 func57 ntmps57 fun _ _ _=>?_
      repeat' (first | refine yz ?_ | refine yp bu8 hna ?_ | refine yp bu9 hmin ?_ | refine yx ?_)
      refine ac7 (α := Unit) (fun p => ⟨[(1, .ptr 0 0), (4, .d (.int 1))], [oAT ⟨4, x :: r, nm, [], v⟩]⟩) (fun p => 0) () (zle 1) ?_;rintro -;have g4 : decide ((1 : Int) < (([] : List D).length : Int)) = false := rfl
      repeat' (first | refine yz ?_ | refine yp b148 hor ?_ | exact zD)
 ·obtain ⟨h3, h1, h2, h4⟩ := hk;have e0 : dn8 k = 0 := by unfold dn8; rw [h1, h2, h4, h3]; rfl
  have ea : dp1 ⟨k, vs, nm, ty, v⟩ = false := by unfold dp1; dsimp only; rw [e0]; rfl
  rw [e0] at hna;rw [ea];refine ye1 func57 ntmps57 fun _ _ _=>?_
  repeat' (first | refine yz ?_ | refine yp bu8 hna ?_ | exact zD)
def dp3 (a : AT) : Bool :=
 bif cntN a.k != (a.vs.length : Int) || !do5 a.ty then false else
 bif (a.k != 3 && decide (a.ty.length > 0)) || ((a.k != 1 && a.k != 2) && !nmE a.nm) then false else
 bif a.k == 2 then bt4 a.v else cm6 a.v bs8 == 0
theorem dp4 (a : AT) : Ev E 68 [di7 a] (.d (.bool (dp3 a))) := by
 obtain ⟨k, vs, nm, ty, v⟩ := a;have hle := di9 vs;have hlt : (ty.map D.str).length = ty.length := by simp
 have h1 := do0 k;have h2 := dp0 ty;have h3 := cn4 v bs8;have h4 := ca8 v;refine ye1 func68 ntmps68 fun _ _ _=>?_
 repeat' (first | refine yz ?_ | refine yp b158 h1 ?_ | refine yp b159 h2 ?_ | refine yp b160 by0 ?_ | refine yp b116 h3 ?_ | refine yp b161 h4 ?_ | (refine yy ?_ ?_ <;> intro _) | (refine qV rfl ?_ ?_ <;> intro _))
 all_goals (refine congrArg D.bool ?_; clear h1 h2 h3 h4; simp_all [dp3, nmE, fk8])
def dp5 (vs : List Int) (n : Int) : Bool := vs.all fun v => !(decide (v < 0) || decide (v ≥ n))
structure SAf {α : Type} (l : List α) (f : α → Bool) where
 i : Nat
 hi : i ≤ l.length
 ok : l.all f = (l.drop i).all f
theorem dp6 {α : Type} {l : List α} {f : α → Bool} {i : Nat} {x : α} (h : l[i]? = some x) : (l.drop i).all f = (f x && (l.drop (i + 1)).all f) := by rw [bz2 h, fe0]
theorem dp7 (a : AT) (n : Int) : Ev E 75 [di7 a, .int n] (.d (.bool (dp5 a.vs n))) := Ev.fit fun hfit => by
 obtain ⟨k, vs, nm, ty, v⟩ := a;have hmax := (cy4 ((hfit (di7 ⟨k, vs, nm, ty, v⟩) (by simp)).aggs (di6 vs) (by simp))).1;have hle := di9 vs;unfold dp5;refine ye2 func75 ntmps75 fun _ _ _=>?_
 repeat' (refine yz ?_)
 refine ac7 (α := SAf vs fun v => !(decide (v < 0) || decide (v ≥ n))) (fun p => ⟨[(1, .d (.int n)), (2, .ptr 0 0), (5, .d (.int p.i))], [oAT ⟨k, vs, nm, ty, v⟩]⟩) (fun p => vs.length - p.i) ⟨0, by omega, rfl⟩ (zle 1) ?_;rintro ⟨i, hi, ok⟩;dsimp only at ok ⊢;rcases ez6 i vs.length with hlt | hge
 ·have g1 : decide ((i : Int) < ((iL vs).length : Int)) = true := by rw [hle]; simpa using hlt
  have hx0 := ez5 hlt;generalize vs[i] = y at hx0;have hx := dj0 hx0;rw [dp6 hx0] at ok;rw [ok]
  cases c1 : decide (y < 0) with
  | true =>
   repeat' (first | refine yz ?_ | refine yi (.int y) hx ?_ | refine yx ?_ | exact zD)
  | false =>
   cases c2 : decide (y ≥ n) with
   | true =>
    repeat' (first | refine yz ?_ | refine yi (.int y) hx ?_ | refine yx ?_ | exact zD)
   | false =>
    repeat' (first | refine yz ?_ | refine yi (.int y) hx ?_ | refine yx ?_)
    refine ac1 ?_;exact ⟨⟨i + 1, by omega, by rw [ok, c1, c2]; rfl⟩, by dsimp only; omega, (zle 1)⟩
 ·have g1 : decide ((i : Int) < ((iL vs).length : Int)) = false := by rw [hle]; simp; omega
  rw [ok, fa1 hge]
  repeat' (first | refine yz ?_ | exact zD)
theorem dp8 (s : ByteArray) : Ev E 150 [.str s] (.d (.bool (!cr0 s))) := by
 have h := cr5 s;refine ye1 func150 ntmps150 fun _ _ _=>?_
 repeat' (first | refine yz ?_ | refine yp bu4 h ?_ | exact zD)
theorem dp9 {α : Type} {l : List α} {f : α → Bool} {i : Nat} {x : α} (hx : l[i]? = some x) (hc : f x = true) (h : ∀ j, j < i → ∀ y, l[j]? = some y → f y = false) : l.findIdx? f = some i := by
 have hi := (ez7.1 hx).1;rw [fj8];refine ⟨hi, ?_, fun j hj => ?_⟩
 ·rw [ez5 hi] at hx
  cases hx
  exact hc
 ·have := h j hj _ (ez5 (by omega));simpa using this
theorem dq0 {α : Type} {l : List α} {f : α → Bool} (h : ∀ j, j < l.length → ∀ y, l[j]? = some y → f y = false) : l.findIdx? f = none := by
 rw [fh4];intro x hx;obtain ⟨j, hj⟩ := fb0 hx;exact h j (ez7.1 hj).1 x hj
theorem dq1 {α : Type} {l : List α} {f : α → Bool} : decide (dj4 (l.findIdx? f) ≥ 0) = l.any f := by
 cases h : l.findIdx? f with
 | none =>
  rw [fh4] at h;have : l.any f = false := by rw [fh3]; intro x hx; simpa using h x hx
  rw [this]; rfl
 | some i =>
  obtain ⟨hi, h1, -⟩ := fj8.1 h;have : l.any f = true := fj9.2 ⟨_, fc9 hi, h1⟩;rw [this];simp [dj4]
structure SFi {α : Type} (l : List α) (f : α → Bool) where
 i : Nat
 hi : i ≤ l.length
 ok : ∀ j, j < i → ∀ y, l[j]? = some y → f y = false
theorem SFi.next {α : Type} {l : List α} {f : α → Bool} {i : Nat} {x : α} (hx : l[i]? = some x) (hc : f x = false) (h : ∀ j, j < i → ∀ y, l[j]? = some y → f y = false) : ∀ j, j < i + 1 → ∀ y, l[j]? = some y → f y = false := by
 intro j hj y hy;rcases fl7.1 hj with h1 | rfl
 ·exact h j h1 y hy
 ·rw [hx] at hy; cases hy; exact hc
theorem dq2 (fn : FuncId) (hb : an2 E fn) (f : ByteArray → Bool) (l : List ByteArray) (hf : ∀ x ∈ l, Ev E fn [.str x] (.d (.bool (f x)))) : Ev E 236 [.sl (l.map .str), .imm (.func (.func fn) #[] #[])] (.d (.int (dj4 (l.findIdx? f)))) := Ev.fit fun hfit => by
 have hmax := (cy4 (hfit (.sl (l.map .str)) (by simp))).1;have hle : (l.map D.str).length = l.length := by simp
 refine ye2 func236 ntmps236 fun _ _ _=>?_
 repeat' (refine yz ?_)
 refine ac7 (α := SFi l f) (fun p => ⟨[(0, .d (.sl (l.map .str))), (1, .d (.imm (.func (.func fn) #[] #[]))), (7, .d (.int (l.map D.str).length)), (8, .d (.int p.i))], []⟩) (fun p => l.length - p.i) ⟨0, by omega, fun j hj => absurd hj (by omega)⟩ (zle 0) ?_;rintro ⟨i, hi, ok⟩;dsimp only;rcases ez6 i l.length with hlt | hge
 ·have g1 : decide ((i : Int) < ((l.map D.str).length : Int)) = true := by rw [hle]; simpa using hlt
  have hx0 := ez5 hlt;generalize l[i] = y at hx0;have hx := cy3 (f := D.str) hx0;have h := hf y (ez9 hx0)
  cases hc : f y with
  | true =>
   rw [hc] at h;rw [dp9 hx0 hc ok]
   repeat' (first | refine yz ?_ | refine yi (.str y) hx ?_ | refine yp hb h ?_ | exact zD)
  | false =>
   rw [hc] at h
   repeat' (first | refine yz ?_ | refine yi (.str y) hx ?_ | refine yp hb h ?_)
   refine ac1 ?_;exact ⟨⟨i + 1, by omega, SFi.next hx0 hc ok⟩, by dsimp only; omega, (zle 0)⟩
 ·have g1 : decide ((i : Int) < ((l.map D.str).length : Int)) = false := by rw [hle]; simp; omega
  rw [dq0 fun j hj => ok j (by omega)]
  repeat' (first | refine yz ?_ | exact zD)
theorem dq3 (fn : FuncId) (hb : an2 E fn) (f : ByteArray → Bool) (l : List ByteArray) (hf : ∀ x ∈ l, Ev E fn [.str x] (.d (.bool (f x)))) : Ev E 149 [.sl (l.map .str), .imm (.func (.func fn) #[] #[])] (.d (.bool (l.any f))) := by
 have h := dq2 fn hb f l hf;rw [← dq1];refine ye2 func149 ntmps149 fun _ _ _=>?_
 repeat' (first | refine yz ?_ | refine yp b236 h ?_ | exact zD)
def dq4 (a : AT) : Bool := !((a.k == 1 || a.k == 2) && !cr0 a.nm) && !(a.ty.any fun t => !cr0 t)
theorem dq5 (a : AT) : Ev E 58 [di7 a] (.d (.bool (dq4 a))) := by
 obtain ⟨k, vs, nm, ty, v⟩ := a;have h1 := cr5 nm;have h2 := dq3 150 b150 (fun t => !cr0 t) ty fun x _ => dp8 x
 refine ye1 func58 ntmps58 fun _ _ _=>?_
 repeat' (first | refine yz ?_ | refine yp bu4 h1 ?_ | refine yp bv0 h2 ?_ | (refine yy ?_ ?_ <;> intro _) | (refine qV rfl ?_ ?_ <;> intro _))
 all_goals (refine congrArg D.bool ?_; clear h1 h2; simp_all [dq4])
theorem dq6 (a : AT) : Ev E 69 [di7 a] (.d (.bool (dq4 a))) := Ev.fit fun hfit => by
 obtain ⟨k, vs, nm, ty, v⟩ := a;have hmax := (cy4 ((hfit (di7 ⟨k, vs, nm, ty, v⟩) (by simp)).aggs (.sl (ty.map .str)) (by simp))).1;have hlt : (ty.map D.str).length = ty.length := by simp
 have h1 := cr6 nm;have hna : (!(ty.any fun t => !cr0 t)) = ty.all cr0 := by rw [List.not_any_eq_all_not]; simp
 unfold dq4;dsimp only;rw [hna];refine ye1 func69 ntmps69 fun _ _ _=>?_
 repeat' (refine yz ?_)
 refine ac7 (α := SAf ty cr0) (fun p => ⟨[(1, .ptr 0 0), (3, .d (.int p.i))], [oAT ⟨k, vs, nm, ty, v⟩]⟩) (fun p => ty.length - p.i) ⟨0, by omega, rfl⟩ (zle 1) ?_;rintro ⟨i, hi, ok⟩;dsimp only at ok ⊢;rcases ez6 i ty.length with hlt2 | hge
 ·have g1 : decide ((i : Int) < ((ty.map D.str).length : Int)) = true := by rw [hlt]; simpa using hlt2
  have hx0 := ez5 hlt2;generalize ty[i] = y at hx0;have hx := cy3 (f := D.str) hx0;have h := cr6 y;rw [dp6 hx0] at ok
  cases hc : cr0 y with
  | true =>
   rw [hc] at h
   repeat' (first | refine yz ?_ | refine yi (.str y) hx ?_ | refine yp b162 h ?_)
   refine ac1 ?_;exact ⟨⟨i + 1, by omega, by rw [ok, hc]; rfl⟩, by dsimp only; omega, (zle 1)⟩
  | false =>
   rw [hc] at h;rw [ok, hc, fe1, fh1]
   repeat' (first | refine yz ?_ | refine yi (.str y) hx ?_ | refine yp b162 h ?_ | exact zD)
 ·have g1 : decide ((i : Int) < ((ty.map D.str).length : Int)) = false := by rw [hlt]; simp; omega
  rw [ok, fa1 hge, List.all_nil, fj6]
  repeat' (first | refine yz ?_ | refine yp b162 h1 ?_ | (refine yy ?_ ?_ <;> intro _))
  all_goals (refine congrArg D.bool ?_; clear h1; simp_all)
def twF (l : List ByteArray) : Bool := (List.range l.length).any fun i => (List.range i).any fun k => match l[i]?, l[k]? with | some a, some b => a.toList == b.toList | _, _ => false
structure SRg (f : Nat → Bool) (n : Nat) where
 i : Nat
 hi : i ≤ n
 ok : (List.range i).any f = false
theorem dq7 {f : Nat → Bool} {i : Nat} (h : (List.range i).any f = false) (hc : f i = false) : (List.range (i + 1)).any f = false := by
 rw [List.range_succ, List.any_append, h, fe6, hc]; rfl
theorem dq8 {f : Nat → Bool} {i n : Nat} (hi : i < n) (hc : f i = true) : (List.range n).any f = true := fj9.2 ⟨i, fc6.2 hi, hc⟩
theorem dq9 (l : List ByteArray) : Ev E 76 [.sl (l.map .str)] (.d (.bool (twF l))) := Ev.fit fun hfit => by
 have hmax := (cy4 (hfit (.sl (l.map .str)) (by simp))).1;have hle : (l.map D.str).length = l.length := by simp
 obtain ⟨f, hf⟩ : ∃ f : Nat → Nat → Bool, f = fun i k => match l[i]?, l[k]? with | some a, some b => a.toList == b.toList | _, _ => false := ⟨_, rfl⟩
 have he : ∀ i k a b, l[i]? = some a → l[k]? = some b → f i k = (a.toList == b.toList) := fun i k a b ha hb => by rw [hf]; simp only [ha, hb]
 have et : twF l = (List.range l.length).any fun i => (List.range i).any (f i) := by rw [hf]; rfl
 rw [et];clear hf et;refine ye1 func76 ntmps76 fun _ _ _=>?_
 repeat' (refine yz ?_)
 refine ac7 (α := SRg (fun i => (List.range i).any (f i)) l.length) (fun p => ⟨[(0, .d (.sl (l.map .str))), (3, .d (.int p.i))], []⟩) (fun p => l.length - p.i) ⟨0, by omega, rfl⟩ (zle 0) ?_;rintro ⟨i, hi, ok⟩;dsimp only at ok ⊢;rcases ez6 i l.length with hlt | hge
 ·have g1 : decide ((i : Int) < ((l.map D.str).length : Int)) = true := by rw [hle]; simpa using hlt
  have hx0 := ez5 hlt;generalize l[i] = a at hx0;have hx := cy3 (f := D.str) hx0
  repeat' (refine yz ?_)
  refine ac7 (α := SRg (f i) i) (fun p => ⟨[(0, .d (.sl (l.map .str))), (3, .d (.int i)), (4, .d (.int p.i))], []⟩) (fun p => i - p.i) ⟨0, by omega, rfl⟩ (zle 0) ?_;rintro ⟨k, hk, ok2⟩;dsimp only at ok2 ⊢;rcases ez6 k i with hlt2 | hge2
  ·have g2 : decide ((k : Int) < (i : Int)) = true := by simpa using hlt2
   have hy0 := ez5 (show k < l.length by omega);generalize l[k] = b at hy0;have hy := cy3 (f := D.str) hy0
   cases hc : a.toList == b.toList with
   | true =>
    have h1 := he i k a b hx0 hy0;rw [hc] at h1;rw [dq8 hlt (dq8 hlt2 h1)]
    repeat' (first | refine yz ?_ | refine yi (.str a) hx ?_ | refine yi (.str b) hy ?_ | exact zD)
   | false =>
    have h1 := he i k a b hx0 hy0;rw [hc] at h1
    repeat' (first | refine yz ?_ | refine yi (.str a) hx ?_ | refine yi (.str b) hy ?_)
    refine ac1 ?_;exact ⟨⟨k + 1, by omega, dq7 ok2 h1⟩, by dsimp only; omega, (zle 0)⟩
  ·have g2 : decide ((k : Int) < (i : Int)) = false := by simp; omega
   obtain rfl : k = i := by omega
   repeat' (refine yz ?_)
   refine ac1 ?_;exact ⟨⟨k + 1, by omega, dq7 ok ok2⟩, by dsimp only; omega, (zle 0)⟩
 ·have g1 : decide ((i : Int) < ((l.map D.str).length : Int)) = false := by rw [hle]; simp; omega
  obtain rfl : i = l.length := by omega
  rw [ok]
  repeat' (first | refine yz ?_ | exact zD)
def dr0 (l : List AT) (v : Int) : Bool := l.any fun a => a.vs.any fun y => y == v
structure SNo {α : Type} (l : List α) (f : α → Bool) where
 i : Nat
 hi : i ≤ l.length
 ok : l.any f = (l.drop i).any f
theorem dr1 {α : Type} {l : List α} {f : α → Bool} {i : Nat} {x : α} (h : l[i]? = some x) : (l.drop i).any f = (f x || (l.drop (i + 1)).any f) := by rw [bz2 h, fe6]
theorem dr2 (l : List AT) (v : Int) : Ev E 77 [.sl (l.map di7), .int v] (.d (.bool (dr0 l v))) := Ev.fit fun hfit => by
 obtain ⟨hmax, hel⟩ := cy4 (hfit (.sl (l.map di7)) (by simp));have hle : (l.map di7).length = l.length := by simp
 unfold dr0;refine ye2 func77 ntmps77 fun _ _ _=>?_
 repeat' (refine yz ?_)
 refine ac7 (α := SNo l fun a => a.vs.any fun y => y == v) (fun p => ⟨[(0, .d (.sl (l.map di7))), (1, .d (.int v)), (5, .d (.int p.i))], []⟩) (fun p => l.length - p.i) ⟨0, by omega, rfl⟩ (zle 0) ?_;rintro ⟨i, hi, ok⟩;dsimp only at ok ⊢;rcases ez6 i l.length with hlt | hge
 ·have g1 : decide ((i : Int) < ((l.map di7).length : Int)) = true := by rw [hle]; simpa using hlt
  have hx0 := ez5 hlt;generalize l[i] = a at hx0;have hx := cy3 (f := di7) hx0;have hmx := (cy4 ((hel a (ez9 hx0)).aggs (di6 a.vs) (by simp))).1;have hlv := di9 a.vs;rw [dr1 hx0] at ok
  repeat' (refine yz ?_)
  refine ac7 (α := SNo a.vs fun y => y == v) (fun p => ⟨[(0, .d (.sl (l.map di7))), (1, .d (.int v)), (5, .d (.int i)), (6, .d (.int p.i))], []⟩) (fun p => a.vs.length - p.i) ⟨0, by omega, rfl⟩ (zle 0) ?_;rintro ⟨j, hj, ok2⟩;dsimp only at ok2 ⊢;rcases ez6 j a.vs.length with hlt2 | hge2
  ·have g2 : decide ((j : Int) < ((iL a.vs).length : Int)) = true := by rw [hlv]; simpa using hlt2
   have hy0 := ez5 hlt2;generalize a.vs[j] = y at hy0;have hy := dj0 hy0;rw [dr1 hy0] at ok2
   cases hc : y == v with
   | true =>
    rw [ok, ok2, hc, Bool.true_or, Bool.true_or]
    repeat' (first | refine yz ?_ | refine yi (di7 a) hx ?_ | refine yi (.int y) hy ?_ | exact zD)
   | false =>
    repeat' (first | refine yz ?_ | refine yi (di7 a) hx ?_ | refine yi (.int y) hy ?_)
    refine ac1 ?_;exact ⟨⟨j + 1, by omega, by rw [ok2, hc, fe2]⟩, by dsimp only; omega, (zle 0)⟩
  ·have g2 : decide ((j : Int) < ((iL a.vs).length : Int)) = false := by rw [hlv]; simp; omega
   rw [fa1 hge2, fh5] at ok2
   repeat' (first | refine yz ?_ | refine yi (di7 a) hx ?_)
   refine ac1 ?_;exact ⟨⟨i + 1, by omega, by rw [ok, ok2, fe2]⟩, by dsimp only; omega, (zle 0)⟩
 ·have g1 : decide ((i : Int) < ((l.map di7).length : Int)) = false := by rw [hle]; simp; omega
  rw [ok, fa1 hge]
  repeat' (first | refine yz ?_ | exact zD)
def bL (l : List Bool) : List D := l.map D.bool
theorem dr3 (l : List Bool) (x : Bool) : Ev E 171 [.sl (bL l), .bool x] (.d (.int (dj4 (l.findIdx? fun y => x == y)))) := Ev.fit fun hfit => by
 have hmax := (cy4 (hfit (.sl (bL l)) (by simp))).1;have hle : (bL l).length = l.length := by simp [bL]
 refine ye2 func171 ntmps171 fun _ _ _=>?_
 repeat' (refine yz ?_)
 refine ac7 (α := SFi l fun y => x == y) (fun p => ⟨[(0, .d (.sl (bL l))), (1, .d (.bool x)), (7, .d (.int (bL l).length)), (8, .d (.int p.i))], []⟩) (fun p => l.length - p.i) ⟨0, by omega, fun j hj => absurd hj (by omega)⟩ (zle 0) ?_;rintro ⟨i, hi, ok⟩;dsimp only;rcases ez6 i l.length with hlt | hge
 ·have g1 : decide ((i : Int) < ((bL l).length : Int)) = true := by rw [hle]; simpa using hlt
  have hx0 := ez5 hlt;generalize l[i] = y at hx0;have hx : (bL l)[(i : Int).toNat]? = some (.bool y) := cy3 (f := D.bool) hx0
  cases hc : x == y with
  | true =>
   rw [dp9 hx0 hc ok]
   repeat' (first | refine yz ?_ | refine yi (.bool y) hx ?_ | exact zD)
  | false =>
   repeat' (first | refine yz ?_ | refine yi (.bool y) hx ?_)
   refine ac1 ?_;exact ⟨⟨i + 1, by omega, SFi.next hx0 hc ok⟩, by dsimp only; omega, (zle 0)⟩
 ·have g1 : decide ((i : Int) < ((bL l).length : Int)) = false := by rw [hle]; simp; omega
  rw [dq0 fun j hj => ok j (by omega)]
  repeat' (first | refine yz ?_ | exact zD)
theorem dr4 (l : List Bool) (x : Bool) : Ev E 85 [.sl (bL l), .bool x] (.d (.bool (l.any fun y => x == y))) := by
 have h := dr3 l x;rw [← dq1];refine ye2 func85 ntmps85 fun _ _ _=>?_
 repeat' (first | refine yz ?_ | refine yp b171 h ?_ | exact zD)
end Go.Proofs.YtenpjlghikohmaaGreatDoor
namespace Go.Proofs.YtenpjlghikohmaaGreatDoor
set_option maxRecDepth 4000
open Go Go.Abs Go.Val Go.RowKit Go.Sort Go.Proofs Go.Proofs.Tryz
theorem dr5 : EvS E 82 [.clo 170 [.ptr 0 0]] [dm6 []] .nilS [dm6 []] := by
 intro w F σ vs hi hl hr
 match vs, hl with
 | [v0], _ =>
  obtain ⟨us, rfl, ul, ur⟩ := hr 0 _ _ rfl rfl
  match us, ul with
  | [u0], _ =>
   obtain ⟨b, c, n, e1, rfl⟩ := ur 0 _ _ rfl rfl;obtain ⟨cs, g1, g2, g3, g4, g5, g6⟩ := hi.obs 0 _ _ rfl e1
   match cs, g2 with
   | [sv], _ =>
    have hrd : Rd w F (.sl (([] : List ByteArray).map .str)) sv := g4 0 (.d (.sl (([] : List ByteArray).map .str))) sv rfl rfl;have hbl : b < w.heap.size := (fg3.1 g1).1
    obtain ⟨p, cap, rfl⟩ : ∃ p cap, sv = .slice p 0 cap := by
     rcases Rd.sl_inv hrd with ⟨-, rfl⟩ | ⟨size, ad, cap, rfl, -⟩
     ·exact ⟨_, _, rfl⟩
     ·exact ⟨_, _, rfl⟩
    have hG : dl8 2 b [] w := dm1 (p := p) (cap := cap) hbl (by simp only [World.cell?, g1]; simp);refine (dm5 b [] (by decide) (by decide) w hG).mono ?_;rintro e w' ⟨v, rfl, hrow, hnil, hb⟩;have hv : v = .slice none 0 0 := hnil.2 rfl;exact ⟨_, F, σ, rfl, aa7.of_below hb fun k hk => hk.1, fun _ h => h, fun _ h => .inl h, fun i p hi hp => hp, (ab2.lend hi).ext (Ext.of_below hb hi.flt), hv⟩
theorem dr6 : Ev E 84 [.sl []] (.d (.sl [])) := by
 refine ye1 func84 ntmps84 fun _ _ _=>?_
 repeat' (first | refine yz ?_ | refine yx ?_ | (refine yy ?_ ?_ <;> intro _) | exact zD | exact zL)
theorem dr7 {α : Type} {p : α → Bool} : ∀ {l : List α}, (l.filter p).length < l.length ↔ ∃ x ∈ l, p x = false
 | [] => by simp
 | x :: l => by
  have ih := dr7 (p := p) (l := l);have hle := fh7 p l
  cases h : p x with
  | true =>
   rw [List.filter_cons_of_pos h, fa8, fa8, Nat.add_lt_add_iff_right, ih];constructor
   ·rintro ⟨y, hy, hp⟩;exact ⟨y, fl8 _ hy, hp⟩
   ·rintro ⟨y, hy, hp⟩;rcases fa6.1 hy with rfl | hy
    ·rw [h] at hp; cases hp
    ·exact ⟨y, hy, hp⟩
  | false =>
   rw [List.filter_cons_of_neg (by rw [h]; decide), fa8];exact ⟨fun _ => ⟨x, List.mem_cons_self, h⟩, fun _ => by omega⟩
theorem dr8 {zs : List (List UInt8)} (hs : zs.Pairwise fun x y => x ≤ y) : (∃ j, j < zs.length ∧ Lib.keeps zs.toArray j = false) ↔ ¬ zs.Nodup := by
 have hg : ∀ j, j < zs.length → zs.toArray[j]! = zs[j]! := fun j hj => by simp
 constructor
 ·rintro ⟨j, hj, hk⟩ hn;simp only [Lib.keeps, decide_eq_false_iff_not, not_or, Classical.not_not] at hk;obtain ⟨h0, h1⟩ := hk;rw [hg j hj, hg (j - 1) (by omega), getElem!_pos zs j hj, getElem!_pos zs (j - 1) (by omega)] at h1;rw [List.Nodup, fl9] at hn;exact hn (j - 1) j (by omega) hj (by omega) h1.symm
 ·intro hn;rw [List.Nodup, fl9] at hn;simp only [Classical.not_forall] at hn;obtain ⟨i, j, hi, hj, hij, he⟩ := hn;have he : zs[i] = zs[j] := Classical.byContradiction fun h => he h
  refine ⟨i + 1, by omega, ?_⟩;simp only [Lib.keeps, decide_eq_false_iff_not, not_or];refine ⟨by omega, fun h => h ?_⟩;rw [hg (i + 1) (by omega), hg (i + 1 - 1) (by omega), getElem!_pos zs (i + 1) (by omega), getElem!_pos zs (i + 1 - 1) (by omega)];have hp := fl9.1 hs;have h1 : zs[i + 1 - 1] ≤ zs[i + 1] := hp _ _ _ _ (by omega);refine List.le_antisymm ?_ h1
  have h2 : zs[i + 1] ≤ zs[j] := by
   rcases ez6 (i + 1) j with h | h
   ·exact hp _ _ _ _ h
   ·have : i + 1 = j := by omega
    subst this;exact List.le_refl _
  show zs[i + 1] ≤ zs[i];rw [he];exact h2
theorem dr9 (l : List ByteArray) : twF l = true ↔ ¬ (dm7 l).Nodup := by
 rw [List.Nodup, fl9];unfold twF;simp only [fj9, fc6];constructor
 ·rintro ⟨i, hi, k, hk, h⟩ hn;rw [ez5 hi, ez5 (show k < l.length by omega)] at h;have hlen : (dm7 l).length = l.length := by simp [dm7]
  refine hn k i (by omega) (by omega) hk ?_;have h' : l[i].toList = l[k].toList := by simpa using h
  simp only [dm7, List.getElem_map];rw [ByteArray.toList_eq, ByteArray.toList_eq] at h';exact h'.symm
 ·intro hn;simp only [Classical.not_forall] at hn;obtain ⟨i, j, hi, hj, hij, he⟩ := hn;have he : (dm7 l)[i] = (dm7 l)[j] := Classical.byContradiction fun h => he h
  have hlen : (dm7 l).length = l.length := by simp [dm7]
  refine ⟨j, by omega, i, hij, ?_⟩;rw [ez5 (show j < l.length by omega), ez5 (show i < l.length by omega)];simp only [dm7, List.getElem_map] at he;simp only [beq_iff_eq];rw [ByteArray.toList_eq, ByteArray.toList_eq];exact he.symm
theorem ds0 (l : List ByteArray) : decide (((dm8 (Lib.compact (dn2 (dm7 l)))).length : Int) < ((l.map D.str).length : Int)) = twF l := by
 have hlen : (dn2 (dm7 l)).length = l.length := by simp [dn2, dm7]
 have hsl : (dn2 (dm7 l)).Pairwise fun x y => x ≤ y := by
  have := List.pairwise_mergeSort (le := fun x y : List UInt8 => decide (x ≤ y)) (fun a b c h1 h2 => by simp only [decide_eq_true_eq] at *; exact List.le_trans h1 h2) (fun a b => by simp only [fc7, decide_eq_true_eq]; exact List.le_total a b) (dm7 l);exact this.imp fun h => by simpa using h
 have hnd : (dn2 (dm7 l)).Nodup ↔ (dm7 l).Nodup := (fk4 _ _).nodup_iff
 have hc : (Lib.compact (dn2 (dm7 l))).length < l.length ↔ ∃ j, j < (dn2 (dm7 l)).length ∧ Lib.keeps (dn2 (dm7 l)).toArray j = false := by
  unfold Lib.compact Lib.compactUpTo;rw [fb8];have := dr7 (p := Lib.keeps (dn2 (dm7 l)).toArray) (l := List.range (dn2 (dm7 l)).length);rw [List.length_range, hlen] at this;rw [hlen];simpa [fc6] using this
 rw [ff6, decide_eq_true_eq, dr9, ← hnd, ← dr8 hsl, ← hc];simp [dm8]
def ds1 (n : Int) (a : AT) : Bool := !dp1 a || a.vs.any fun v => decide (v ≥ n)
theorem ds2 (n : Int) : ∀ vs : List Int, dp5 vs n = (!(vs.any fun v => decide (v < 0)) && !(vs.any fun v => decide (v ≥ n)))
 | [] => rfl
 | v :: r => by
  have ih := ds2 n r;unfold dp5 at ih ⊢;rw [fe0, fe6, fe6, ih]
  cases decide (v < 0) <;> cases decide (v ≥ n) <;> cases (r.any fun v => decide (v < 0)) <;> cases (r.any fun v => decide (v ≥ n)) <;> rfl
theorem ds3 (n : Int) (a : AT) : (!dp3 a || !dp5 a.vs n) = ds1 n a := by
 obtain ⟨k, vs, nm, ty, v⟩ := a;unfold ds1 dp3 dp1 cntN;dsimp only;rw [ds2]
 have hc : ((bif dn8 k == 0 then (-1 : Int) else (dn8 k : Int)) != (vs.length : Int)) = (dn8 k == 0 || vs.length != dn8 k) := by
  cases h0 : dn8 k with
  | zero => simp
  | succ m =>
   rw [show (m + 1 == 0) = false from rfl, fe2];simp only [cond_false];rw [ff6];simp only [bne_iff_ne, ne_eq];omega
 rw [hc]
 have hty : ((k != 3 && decide (ty.length > 0)) = false) → k ≠ 3 → do5 ty = true := by
  intro h hk
  have : ty = [] := by
   have h3 : (k != 3) = true := by simpa using hk
   rw [h3] at h;simpa using h
  subst this;rfl
 cases h1 : (dn8 k == 0 || vs.length != dn8 k)
 ·cases h2 : (vs.any fun v => decide (v < 0))
  ·cases h3 : (vs.any fun v => decide (v ≥ n))
   ·cases h4 : (k != 3 && decide (ty.length > 0))
    ·cases h5 : ((k != 1 && k != 2) && !nmE nm)
     ·cases h6 : k == 2
      ·cases h7 : do5 ty <;> cases h8 : (cm6 v bs8 == 0) <;> rfl
      ·rw [hty h4 (by simp at h6; omega)]
       cases h8 : bt4 v <;> rfl
     ·cases do5 ty <;> rfl
    ·cases do5 ty <;> rfl
   ·cases do5 ty <;> simp
  ·cases do5 ty <;> simp
 ·simp
def ds4 (n : Nat) (f : Nat → Bool) : List Bool := (List.range n).map f
def ds5 (c : CJ) : Int :=
 bif decide (c.vs.length > 24) || decide (c.as.length > 12) then 4 else
 bif c.as.any (ds1 c.vs.length) then 1 else
 bif twF c.vs then 7 else
 bif c.as.any (fun a => !dq4 a) then 6 else
 bif (List.range c.vs.length).any (fun j => !dr0 c.as j) then 25 else 0
theorem ds6 (n : Nat) (f : Nat → Bool) (v : Int) (h0 : 0 ≤ v) (h1 : v < n) : (bL (ds4 n f)).set v.toNat (.bool true) = bL (ds4 n fun j => f j || v == (j : Int)) := by
 unfold bL ds4;rw [← List.map_set];congr 1;apply List.ext_getElem
 ·simp
 ·intro i hi hj;simp only [List.length_set, fb8, List.length_range] at hi;rw [List.getElem_set];simp only [List.getElem_map, List.getElem_range];split
  ·rename_i h
   have : v = (i : Int) := by omega
   simp [this]
  ·rename_i h
   have : (v == (i : Int)) = false := by rw [beq_eq_false_iff_ne]; omega
   rw [this, fc2]
theorem ds7 (n : Nat) (f : Nat → Bool) (v : Int) (h0 : 0 ≤ v) (h1 : v < n) : (bL (ds4 n f))[v.toNat]? = some (.bool (f v.toNat)) := by
 unfold bL ds4;rw [ez8, ez8, ff0 (by omega)];rfl
theorem ds8 (n : Nat) (f : Nat → Bool) : ((ds4 n f).any fun y => false == y) = (List.range n).any fun j => !f j := by
 unfold ds4;rw [List.any_map];congr 1
 funext j
 simp only [Function.comp]
 cases f j <;> rfl
theorem ds9 (n : Nat) : (List.replicate n (D.bool false)) = bL (ds4 n fun _ => false) := by
 unfold bL ds4;apply List.ext_getElem
 ·simp
 ·intro i hi hj; simp
theorem dt0 {l : List AT} {i : Nat} {a : AT} (h : l[i]? = some a) (v : Int) : dr0 (l.take (i + 1)) v = (dr0 (l.take i) v || a.vs.any fun y => y == v) := by
 unfold dr0;have hi := (ez7.1 h);rw [fg0, h, Option.toList_some, List.any_append, fe6, fh5, fc2]
theorem dt1 {α : Type} {l : List α} {i : Nat} {x : α} {f : α → Bool} (h : l[i]? = some x) : (l.take (i + 1)).any f = ((l.take i).any f || f x) := by
 rw [fg0, h, Option.toList_some, List.any_append, fe6, fh5, fc2]
theorem dt2 {a : AT} (h : dp1 a = true) : a.vs.length = dn8 a.k ∧ dn8 a.k ≠ 0 ∧ (a.vs.any fun v => decide (v < 0)) = false := by
 unfold dp1 at h
 cases h1 : (dn8 a.k == 0 || a.vs.length != dn8 a.k) with
 | true => rw [h1] at h; cases h
 | false =>
  rw [h1] at h
  cases h2 : (a.vs.any fun v => decide (v < 0)) with
  | true => rw [h2] at h; cases h
  | false =>
   rw [fh2] at h1;refine ⟨?_, ?_, rfl⟩
   ·simpa using h1.2
   ·simpa using h1.1
theorem dt3 (k : Int) : dn8 k ≤ 3 := by
 unfold dn8;rcases dk1 k with rfl | rfl | rfl | rfl | ⟨h1, h2, h3, h4⟩
 ·decide
 ·decide
 ·decide
 ·decide
 ·rw [h1, h2, h3, h4]; decide
end Go.Proofs.YtenpjlghikohmaaGreatDoor
namespace Go.Proofs.YtenpjlghikohmaaGreatDoor
set_option maxRecDepth 4000
open Go Go.Abs Go.Val Go.Proofs.Tryz
attribute [local irreducible] go SGo an2 Ev aw2 EvO EvS PGo RGo cm6
set_option maxHeartbeats 2000000 in
theorem dt4 (c : CJ) : Ev E 26 [di8 c] (.d (.int (ds5 c))) := Ev.fit fun hfit => by
 obtain ⟨vs, ats⟩ := c;have hft := hfit (di8 ⟨vs, ats⟩) (by simp);obtain ⟨hmv, -⟩ := cy4 (hft.aggs (.sl (vs.map .str)) (by simp));obtain ⟨hma, -⟩ := cy4 (hft.aggs (.sl (ats.map di7)) (by simp));have hlv : (vs.map D.str).length = vs.length := by simp
 have hla : (ats.map di7).length = ats.length := by simp
 unfold ds5;dsimp only
 cases hbig : decide (vs.length > 24) || decide (ats.length > 12) with
 | true =>
  have hb1 : (decide (((vs.map D.str).length : Int) > 24) = true) ∨ (decide (((vs.map D.str).length : Int) > 24) = false ∧ decide (((ats.map di7).length : Int) > 12) = true) := by
   rw [hlv, hla]; simp at hbig ⊢; omega
  rcases hb1 with g1 | ⟨g1, g2⟩
  ·refine ye1 func26 ntmps26 fun _ _ _=>?_
   repeat' (first | refine yz ?_ | refine yx ?_ | exact zD)
  ·refine ye1 func26 ntmps26 fun _ _ _=>?_
   repeat' (first | refine yz ?_ | refine yx ?_ | exact zD)
 | false =>
  rw [fh2] at hbig;have g1 : decide (((vs.map D.str).length : Int) > 24) = false := by rw [hlv]; have := hbig.1; simp at this ⊢; omega
  have g2 : decide (((ats.map di7).length : Int) > 12) = false := by rw [hla]; have := hbig.2; simp at this ⊢; omega
  simp only [cond_false];refine ye1 func26 ntmps26 fun _ _ _=>?_
  repeat' (first | refine yz ?_ | refine yx ?_)
  refine ac7 (α := SNo ats (ds1 vs.length)) (fun p => ⟨[(1, .ptr 0 0), (3, .d (.int p.i))], [oCJ ⟨vs, ats⟩]⟩) (fun p => ats.length - p.i) ⟨0, by omega, rfl⟩ (zle 1) ?_;rintro ⟨i, hi, ok⟩;dsimp only at ok ⊢;rcases ez6 i ats.length with hlt | hge
  ·have g3 : decide ((i : Int) < ((ats.map di7).length : Int)) = true := by rw [hla]; simpa using hlt
   have hx0 := ez5 hlt;generalize ats[i] = a at hx0;have hx := cy3 (f := di7) hx0;have hf := dp4 a;have hr := dp7 a ((vs.map D.str).length : Int);rw [show dp5 a.vs ((vs.map D.str).length : Int) = dp5 a.vs vs.length by rw [hlv]] at hr;have hfs := ds3 vs.length a;rw [dr1 hx0, ← hfs] at ok
   cases c1 : dp3 a with
   | false =>
    rw [c1] at hf ok;rw [ok]
    repeat' (first | refine yz ?_ | refine yi (di7 a) hx ?_ | refine yp b68 hf ?_ | exact zD)
   | true =>
    rw [c1] at hf
    cases c2 : dp5 a.vs vs.length with
    | false =>
     rw [c2] at hr ok;rw [c1] at ok;rw [ok]
     repeat' (first | refine yz ?_ | refine yi (di7 a) hx ?_ | refine yp b68 hf ?_ | refine yp b75 hr ?_ | exact zD)
    | true =>
     rw [c2] at hr;rw [c1, c2] at ok
     repeat' (first | refine yz ?_ | refine yi (di7 a) hx ?_ | refine yp b68 hf ?_ | refine yp b75 hr ?_)
     refine ac1 ?_;exact ⟨⟨i + 1, by omega, by rw [ok]; rfl⟩, by dsimp only; omega, (zle 1)⟩
  ·have g3 : decide ((i : Int) < ((ats.map di7).length : Int)) = false := by rw [hla]; simp; omega
   rw [ok, fa1 hge, fh5];have ht := dq9 vs;simp only [cond_false]
   cases c3 : twF vs with
   | true =>
    rw [c3] at ht
    repeat' (first | refine yz ?_ | refine yp b76 ht ?_ | exact zD)
   | false =>
    rw [c3] at ht;simp only [cond_false]
    repeat' (first | refine yz ?_ | refine yp b76 ht ?_)
    refine ac7 (α := SNo ats fun a => !dq4 a) (fun p => ⟨[(1, .ptr 0 0), (4, .d (.int p.i))], [oCJ ⟨vs, ats⟩]⟩) (fun p => ats.length - p.i) ⟨0, by omega, rfl⟩ (zle 1) ?_;rintro ⟨j, hj, ok2⟩;dsimp only at ok2 ⊢;rcases ez6 j ats.length with hlt2 | hge2
    ·have g4 : decide ((j : Int) < ((ats.map di7).length : Int)) = true := by rw [hla]; simpa using hlt2
     have hx0 := ez5 hlt2;generalize ats[j] = a at hx0;have hx := cy3 (f := di7) hx0;have hf := dq6 a;rw [dr1 hx0] at ok2
     cases c1 : dq4 a with
     | false =>
      rw [c1] at hf ok2;rw [ok2]
      repeat' (first | refine yz ?_ | refine yi (di7 a) hx ?_ | refine yp b69 hf ?_ | exact zD)
     | true =>
      rw [c1] at hf ok2
      repeat' (first | refine yz ?_ | refine yi (di7 a) hx ?_ | refine yp b69 hf ?_)
      refine ac1 ?_;exact ⟨⟨j + 1, by omega, by rw [ok2]; rfl⟩, by dsimp only; omega, (zle 1)⟩
    ·have g4 : decide ((j : Int) < ((ats.map di7).length : Int)) = false := by rw [hla]; simp; omega
     rw [ok2, fa1 hge2, fh5];simp only [cond_false]
     repeat' (refine yz ?_)
     refine ac7 (α := SRg (fun j => !dr0 ats j) vs.length) (fun p => ⟨[(1, .ptr 0 0), (5, .d (.int p.i))], [oCJ ⟨vs, ats⟩]⟩) (fun p => vs.length - p.i) ⟨0, by omega, rfl⟩ (zle 1) ?_;rintro ⟨k, hk, ok3⟩;dsimp only at ok3 ⊢;rcases ez6 k vs.length with hlt3 | hge3
     ·have g5 : decide ((k : Int) < ((vs.map D.str).length : Int)) = true := by rw [hlv]; simpa using hlt3
      have hu := dr2 ats k
      cases c4 : dr0 ats k with
      | true =>
       rw [c4] at hu
       repeat' (first | refine yz ?_ | refine yp b77 hu ?_)
       refine ac1 ?_;exact ⟨⟨k + 1, by omega, dq7 ok3 (by rw [c4]; rfl)⟩, by dsimp only; omega, (zle 1)⟩
      | false =>
       rw [c4] at hu;rw [dq8 hlt3 (f := fun j => !dr0 ats (j : Int)) (by rw [c4]; rfl)]
       repeat' (first | refine yz ?_ | refine yp b77 hu ?_ | exact zD)
     ·have g5 : decide ((k : Int) < ((vs.map D.str).length : Int)) = false := by rw [hlv]; simp; omega
      obtain rfl : k = vs.length := by omega
      rw [ok3]
      repeat' (first | refine yz ?_ | exact zD)
open Go.RowKit
structure SMk (ats : List AT) (n : Nat) where
 i : Nat
 f : Nat → Bool
 hi : i ≤ ats.length
 hf : ∀ j, f j = dr0 (ats.take i) j
 ok : ats.any (fun a => !dq4 a) = (ats.drop i).any fun a => !dq4 a
structure SMv (ats : List AT) (a : AT) (i : Nat) where
 k : Nat
 f : Nat → Bool
 hk : k ≤ a.vs.length
 hf : ∀ j : Nat, f j = (dr0 (ats.take i) j || (a.vs.take k).any fun y => y == (j : Int))
theorem dt5 {ats : List AT} {n : Int} (h : ats.any (ds1 n) = false) {i : Nat} {a : AT} (ha : ats[i]? = some a) : ds1 n a = false := by
 have := fh3.1 h a (ez9 ha);simpa using this
theorem dt6 {n : Int} {a : AT} (h : ds1 n a = false) {k : Nat} {y : Int} (hy : a.vs[k]? = some y) : 0 ≤ y ∧ y < n := by
 unfold ds1 at h;rw [fh2] at h;obtain ⟨h1, h2⟩ := h;obtain ⟨-, -, h3⟩ := dt2 (a := a) (by simpa using h1);have h4 := fh3.1 h3 y (ez9 hy);have h5 := fh3.1 h2 y (ez9 hy);simp at h4 h5;omega
set_option maxHeartbeats 2000000 in
theorem dt7 (c : CJ) : Ev E 30 [di8 c] (.d (.int (ds5 c))) := Ev.fit fun hfit => by
 obtain ⟨vs, ats⟩ := c;have hft := hfit (di8 ⟨vs, ats⟩) (by simp);obtain ⟨hmv, hev⟩ := cy4 (hft.aggs (.sl (vs.map .str)) (by simp));obtain ⟨hma, hea⟩ := cy4 (hft.aggs (.sl (ats.map di7)) (by simp));have hlv : (vs.map D.str).length = vs.length := by simp
 have hla : (ats.map di7).length = ats.length := by simp
 unfold ds5;dsimp only
 cases hbig : decide (vs.length > 24) || decide (ats.length > 12) with
 | true =>
  have hb1 : (decide (((vs.map D.str).length : Int) > 24) = true) ∨ (decide (((vs.map D.str).length : Int) > 24) = false ∧ decide (((ats.map di7).length : Int) > 12) = true) := by
   rw [hlv, hla]; simp at hbig ⊢; omega
  rcases hb1 with g1 | ⟨g1, g2⟩
  ·refine ye1 func30 ntmps30 fun _ _ _=>?_
   repeat' (first | refine yz ?_ | refine yx ?_ | exact zD)
  ·refine ye1 func30 ntmps30 fun _ _ _=>?_
   repeat' (first | refine yz ?_ | refine yx ?_ | exact zD)
 | false =>
  rw [fh2] at hbig;have hsm : vs.length ≤ 24 := by have := hbig.1; simp at this; omega
  have g1 : decide (((vs.map D.str).length : Int) > 24) = false := by rw [hlv]; simp; omega
  have g2 : decide (((ats.map di7).length : Int) > 12) = false := by rw [hla]; have := hbig.2; simp at this ⊢; omega
  simp only [cond_false];refine ye1 func30 ntmps30 fun _ _ _=>?_
  repeat' (first | refine yz ?_ | refine yx ?_)
  refine ac7 (α := SNo ats (ds1 vs.length)) (fun p => ⟨[(1, .ptr 0 0), (22, .d (.sl (ats.map di7))), (23, .d (.int (ats.map di7).length)), (24, .d (.int p.i))], [oCJ ⟨vs, ats⟩]⟩) (fun p => ats.length - p.i) ⟨0, by omega, rfl⟩ (zle 1) ?_;rintro ⟨i, hi, ok⟩;dsimp only at ok ⊢;rcases ez6 i ats.length with hlt | hge
  ·have g3 : decide ((i : Int) < ((ats.map di7).length : Int)) = true := by rw [hla]; simpa using hlt
   have hx0 := ez5 hlt;generalize ats[i] = a at hx0;have hx := cy3 (f := di7) hx0;have hs := dp2 a;rw [dr1 hx0] at ok
   cases c1 : dp1 a with
   | false =>
    rw [c1] at hs;rw [show ds1 vs.length a = true by unfold ds1; rw [c1]; rfl] at ok;rw [ok]
    repeat' (first | refine yz ?_ | refine yi (di7 a) hx ?_ | refine yp b57 hs ?_ | exact zD)
   | true =>
    rw [c1] at hs;obtain ⟨ha1, ha2, ha3⟩ := dt2 c1;obtain ⟨k, ws, nm, ty, v⟩ := a;dsimp only at ha1 ha2 ha3;obtain ⟨x, r, rfl⟩ := fk9 (fun h : ws = [] => by rw [h] at ha1; simp at ha1; omega);have hm := do2 x r;have hmg := do4 vs.length r x;have hb : ds1 vs.length ⟨k, x :: r, nm, ty, v⟩ = decide (r.foldl max x ≥ vs.length) := by unfold ds1; rw [c1, hmg]; rfl
    rw [hb] at ok
    cases c2 : decide (r.foldl max x ≥ (vs.length : Int)) with
    | true =>
     have g4 : decide (r.foldl max x ≥ ((vs.map D.str).length : Int)) = true := by rw [hlv]; exact c2
     rw [c2] at ok;rw [ok]
     repeat' (first | refine yz ?_ | refine yi (di7 ⟨k, x :: r, nm, ty, v⟩) hx ?_ | refine yp b57 hs ?_ | refine yp b81 hm ?_ | exact zD)
    | false =>
     have g4 : decide (r.foldl max x ≥ ((vs.map D.str).length : Int)) = false := by rw [hlv]; exact c2
     rw [c2] at ok
     repeat' (first | refine yz ?_ | refine yi (di7 ⟨k, x :: r, nm, ty, v⟩) hx ?_ | refine yp b57 hs ?_ | refine yp b81 hm ?_)
     refine ac1 ?_;exact ⟨⟨i + 1, by omega, by rw [ok]; rfl⟩, by dsimp only; omega, (zle 1)⟩
  ·have g3 : decide ((i : Int) < ((ats.map di7).length : Int)) = false := by rw [hla]; simp; omega
   rw [fa1 hge, fh5] at ok;rw [ok];simp only [cond_false]
   by_cases hne : vs = []
   ·subst hne
    have hat : ats = [] := by
     cases ats with
     | nil => rfl
     | cons a r =>
      have hb := dt5 ok (i := 0) (a := a) rfl;have hb' := hb;unfold ds1 at hb';rw [fh2] at hb';obtain ⟨h1, h2, -⟩ := dt2 (a := a) (by simpa using hb'.1);obtain ⟨x, hx⟩ : ∃ x, a.vs[0]? = some x := ⟨_, ez5 (by omega)⟩;have := dt6 hb hx;simp at this;omega
    subst hat;have hcb := dr4 [] false
    repeat' (first | (refine bj5 5 rfl ?_) | refine yz ?_ | refine yc [] b83 (dn7 []) ?_ | refine yc [1] b82 (dr5) ?_ | refine yp b84 dr6 ?_)
    refine ac7 (α := Unit) (fun _ => ⟨[(1, .ptr 0 0), (6, .own 2), (57, .d (.sl [])), (58, .d (.int 0)), (59, .d (.int 0))], [oCJ ⟨[], []⟩, dm6 [], .row 4 1 (bL [])]⟩) (fun _ => 0) () (zle 3) ?_;rintro -;have g6 : decide ((0 : Int) < 0) = false := rfl
    repeat' (first | (refine au8 2 rfl ?_; dsimp only [ar8, ar7, as0, ar9, List.map, List.set]) | refine yz ?_ | refine yp b85 hcb ?_ | exact zD)
   ·have hz : ∀ z ∈ dn2 (dm7 vs), z.length ≤ maxLen := by
     intro z hz;have hz' : z ∈ dm7 vs := (fk4 _ _).mem_iff.1 hz;obtain ⟨s, hs, rfl⟩ := fc4.1 hz';exact (hev s hs).str
    have hso := dn4 vs hne (by omega);have hco := dn6 (dn2 (dm7 vs)) hz;have htw := ds0 vs
    cases c3 : twF vs with
    | true =>
     rw [c3] at htw
     repeat' (first | refine qErT (id := 10) [1] [2] (by kernel_rfl) (by kernel_rfl) (by repeat (first | exact trivial | refine ⟨⟨rfl, rfl⟩, ?_⟩ | refine ⟨trivial, ?_⟩)) ?_ | refine reF (id := 10) (i := 0) 1 (by kernel_rfl) rfl ?_ | refine reF (id := 10) (i := 2) 1 (by kernel_rfl) rfl ?_ | (refine reV (id := 10) (i := 3) rfl rfl rfl rfl rfl rfl ?_ ?_; (first | exact True.intro | rfl | assumption | omega | (simp only [inR]; omega) | ((show _ ≤ (9223372036854775807 : Nat)); (try simp only [ByteArray.size_append]); omega) | exact av2 (by omega) (by omega) | exact av3 (by omega) (by omega) | exact ⟨rfl, by decide, by decide⟩)) | (refine reV (id := 10) (i := 4) rfl rfl rfl rfl rfl rfl ?_ ?_; (first | exact True.intro | rfl | assumption | omega | (simp only [inR]; omega) | ((show _ ≤ (9223372036854775807 : Nat)); (try simp only [ByteArray.size_append]); omega) | exact av2 (by omega) (by omega) | exact av3 (by omega) (by omega) | exact ⟨rfl, by decide, by decide⟩)) | (refine reV (id := 10) (i := 5) rfl rfl rfl rfl rfl rfl ?_ ?_; (first | exact True.intro | rfl | assumption | omega | (simp only [inR]; omega) | ((show _ ≤ (9223372036854775807 : Nat)); (try simp only [ByteArray.size_append]); omega) | exact av2 (by omega) (by omega) | exact av3 (by omega) (by omega) | exact ⟨rfl, by decide, by decide⟩)) | refine reF (id := 10) (i := 6) 1 (by kernel_rfl) rfl ?_ | refine reN ?_ | refine yz ?_ | refine yc [] b83 (dn7 vs) ?_ | refine yc [1] b82 (hso) ?_ | refine bk5 [2] (id := 10) (i := 1) rfl rfl rfl rfl rfl (FnX.plain _) b84 (hco) rfl rfl rfl rfl rfl (by repeat (first | exact trivial | refine ⟨⟨rfl, rfl⟩, ?_⟩ | refine ⟨trivial, ?_⟩)) ?_ | exact zD)
    | false =>
     rw [c3] at htw;simp only [cond_false];have hmz : List.replicate (vs.map D.str).length (D.bool false) = bL (ds4 vs.length fun _ => false) := by rw [hlv]; exact ds9 vs.length
     repeat' (first | refine qErT (id := 10) [1] [2] (by kernel_rfl) (by kernel_rfl) (by repeat (first | exact trivial | refine ⟨⟨rfl, rfl⟩, ?_⟩ | refine ⟨trivial, ?_⟩)) ?_ | refine reF (id := 10) (i := 0) 1 (by kernel_rfl) rfl ?_ | refine reF (id := 10) (i := 2) 1 (by kernel_rfl) rfl ?_ | (refine reV (id := 10) (i := 3) rfl rfl rfl rfl rfl rfl ?_ ?_; (first | exact True.intro | rfl | assumption | omega | (simp only [inR]; omega) | ((show _ ≤ (9223372036854775807 : Nat)); (try simp only [ByteArray.size_append]); omega) | exact av2 (by omega) (by omega) | exact av3 (by omega) (by omega) | exact ⟨rfl, by decide, by decide⟩)) | (refine reV (id := 10) (i := 4) rfl rfl rfl rfl rfl rfl ?_ ?_; (first | exact True.intro | rfl | assumption | omega | (simp only [inR]; omega) | ((show _ ≤ (9223372036854775807 : Nat)); (try simp only [ByteArray.size_append]); omega) | exact av2 (by omega) (by omega) | exact av3 (by omega) (by omega) | exact ⟨rfl, by decide, by decide⟩)) | (refine reV (id := 10) (i := 5) rfl rfl rfl rfl rfl rfl ?_ ?_; (first | exact True.intro | rfl | assumption | omega | (simp only [inR]; omega) | ((show _ ≤ (9223372036854775807 : Nat)); (try simp only [ByteArray.size_append]); omega) | exact av2 (by omega) (by omega) | exact av3 (by omega) (by omega) | exact ⟨rfl, by decide, by decide⟩)) | refine reF (id := 10) (i := 6) 1 (by kernel_rfl) rfl ?_ | refine reN ?_ | refine yz ?_ | refine yc [] b83 (dn7 vs) ?_ | refine yc [1] b82 (hso) ?_ | refine bk5 [2] (id := 10) (i := 1) rfl rfl rfl rfl rfl (FnX.plain _) b84 (hco) rfl rfl rfl rfl rfl (by repeat (first | exact trivial | refine ⟨⟨rfl, rfl⟩, ?_⟩ | refine ⟨trivial, ?_⟩)) ?_ | (refine qS rfl ⟨rfl, by (show 1 * (vs.map D.str).length ≤ 281474976710656; rw [hlv]; omega), by (show (vs.map D.str).length ≤ _; rw [hlv]; omega)⟩ ?_))
     refine ac7 (α := SMk ats vs.length) (fun p => ⟨[(1, .ptr 0 0), (6, .own 4), (57, .d (.sl (ats.map di7))), (58, .d (.int (ats.map di7).length)), (59, .d (.int p.i))], [oCJ ⟨vs, ats⟩, dm6 vs, .dead, .row 9 1 (dm8 (Lib.compact (dn2 (dm7 vs)))), .row 4 1 (bL (ds4 vs.length p.f))]⟩) (fun p => ats.length - p.i) ⟨0, fun _ => false, by omega, fun _ => rfl, rfl⟩ (by rw [← hmz]; exact (zle 5)) ?_;rintro ⟨j, f, hj, hf, ok2⟩;dsimp only at hf ok2 ⊢;rcases ez6 j ats.length with hlt2 | hge2
     ·have g4 : decide ((j : Int) < ((ats.map di7).length : Int)) = true := by rw [hla]; simpa using hlt2
      have hx0 := ez5 hlt2;generalize ats[j] = a at hx0;have hx := cy3 (f := di7) hx0;have hn := dq5 a;have hbd := dt5 ok hx0;have hmw := (cy4 ((hea a (ez9 hx0)).aggs (di6 a.vs) (by simp))).1;have hlw := di9 a.vs;rw [dr1 hx0] at ok2
      cases c1 : dq4 a with
      | false =>
       rw [c1] at hn ok2;rw [ok2]
       repeat' (first | refine yz ?_ | refine yi (di7 a) hx ?_ | refine yp b58 hn ?_ | exact zD)
      | true =>
       rw [c1] at hn ok2
       repeat' (first | refine yz ?_ | refine yi (di7 a) hx ?_ | refine yp b58 hn ?_)
       refine ac7 (α := SMv ats a j) (fun p => ⟨[(1, .ptr 0 0), (6, .own 4), (57, .d (.sl (ats.map di7))), (58, .d (.int (ats.map di7).length)), (59, .d (.int j)), (67, .d (.sl (iL a.vs))), (68, .d (.int (iL a.vs).length)), (69, .d (.int p.k))], [oCJ ⟨vs, ats⟩, dm6 vs, .dead, .row 9 1 (dm8 (Lib.compact (dn2 (dm7 vs)))), .row 4 1 (bL (ds4 vs.length p.f))]⟩) (fun p => a.vs.length - p.k) ⟨0, f, by omega, fun x => by rw [hf x]; simp⟩ (zle 5) ?_;rintro ⟨k, f2, hk, hf2⟩;dsimp only at hf2 ⊢;rcases ez6 k a.vs.length with hlt3 | hge3
       ·have g5 : decide ((k : Int) < ((iL a.vs).length : Int)) = true := by rw [hlw]; simpa using hlt3
        have hy0 := ez5 hlt3;generalize a.vs[k] = y at hy0;have hy := dj0 hy0;obtain ⟨hy1, hy2⟩ := dt6 hbd hy0;have hlm : (bL (ds4 vs.length f2)).length = vs.length := by simp [bL, ds4]
        have hgt := ds7 vs.length f2 y hy1 hy2;have hms := ds6 vs.length f2 y hy1 hy2
        repeat' (first | refine yz ?_ | refine yi (.int y) hy ?_ | refine qZ (.bool (f2 y.toNat)) rfl rfl rfl rfl rfl rfl hgt rfl rfl rfl ?_)
        refine ac1 ?_;refine ⟨⟨k + 1, fun x => f2 x || y == (x : Int), by omega, fun x => ?_⟩, by dsimp only; omega, by rw [← hms]; exact (zle 5)⟩;rw [hf2 x, dt1 hy0, Bool.or_assoc]
       ·have g5 : decide ((k : Int) < ((iL a.vs).length : Int)) = false := by rw [hlw]; simp; omega
        repeat' (refine yz ?_)
        refine ac1 ?_;refine ⟨⟨j + 1, f2, by omega, fun x => ?_, by rw [ok2]; rfl⟩, by dsimp only; omega, (zle 5)⟩;rw [hf2 x, dt0 hx0, fe9 hge3]
     ·have g4 : decide ((j : Int) < ((ats.map di7).length : Int)) = false := by rw [hla]; simp; omega
      rw [fa1 hge2, fh5] at ok2;rw [ok2];simp only [cond_false];have hcb := dr4 (ds4 vs.length f) false;rw [ds8] at hcb
      have hff : f = fun x : Nat => dr0 ats (x : Int) := by
       funext x
       rw [hf x, fe9 hge2]
      rw [hff] at hcb ⊢
      cases c5 : (List.range vs.length).any fun j => !dr0 ats j with
      | true =>
       rw [c5] at hcb
       repeat' (first | (refine au8 4 rfl ?_; dsimp only [ar8, ar7, as0, ar9, List.map, List.set]) | refine yz ?_ | refine yp b85 hcb ?_ | exact zD)
      | false =>
       rw [c5] at hcb
       repeat' (first | (refine au8 4 rfl ?_; dsimp only [ar8, ar7, as0, ar9, List.map, List.set]) | refine yz ?_ | refine yp b85 hcb ?_ | exact zD)
end Go.Proofs.YtenpjlghikohmaaGreatDoor
