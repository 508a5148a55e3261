/- slices.Sorted over slices.Values: a new slice that holds the strings, sorted; slices.Sorted over slices.Values and slices.Compact, as the engine's contracts; What an atom must look like, and what names and variables a query must have: the parts of Check, by both texts; The parts of Check, by the specification; names; lists of flags; Check's plain laws: sorting and dropping neighbours finds twins; both texts mean the same by an atom's form; marks; Check, by both texts; Check, by the program. Conditions: each part's own, as it says. -/
import Derived.Test.YtenpjlghikohmaaGreatDoorGS
import Derived.Test.YtenpjlghikohmaaGreatDoorLA
import Derived.Sort.OwnSorted
import Derived.Shelf.AbstractIn
import Derived.RangeFuncBound
import Derived.OwnWalkIn
import Derived.TacticsInMore
import Derived.LoopNIn
import Derived.LoopIn
import Derived.WalkKit
import Derived.Test.YtenpjlghikohmaaGreatDoorLC
import Derived.Lib.SlicesCompact
import Derived.Test.YtenpjlghikohmaaGreatDoorMB
import Derived.Test.YtenpjlghikohmaaGreatDoorFA
import Derived.Test.YtenpjlghikohmaaGreatDoorGC
set_option linter.unusedVariables false
set_option linter.unusedSimpArgs false
namespace Go.Proofs.YtenpjlghikohmaaGreatDoor
set_option maxRecDepth 4000
open Go Go.RowKit Go.Maps Go.Sort Go.Shelf Go.Proofs Go.Proofs.Tryz
attribute [local go_sem] Oper.semAt_some
def comeN (f : Nat → List UInt8) (k : Nat) : List (List UInt8) := (List.range k).map f
theorem comeN_succ (f : Nat → List UInt8) (k : Nat) : comeN f (k + 1) = comeN f k ++ [f k] := by simp [comeN, List.range_succ]
theorem comeN_len (f : Nat → List UInt8) (k : Nat) : (comeN f k).length = k := by simp [comeN]
set_option maxRecDepth 100000 in
set_option maxHeartbeats 2000000 in
theorem vals_in (n : Nat) (hn : 1 ≤ n) (l Bs b off len cap : Nat) (f : Nat → List UInt8) (hreach : len * 16 ≤ 140737488351232) (J : List (List UInt8) → World → Prop)
  (hY : ∀ pre x W, J pre W → pre.length < len → YieldAt Fence.wide (n - 1) Tryz.prog l #[encStr x] W fun e W' => e = .returned (.bool true) ∧ J (pre ++ [x]) W' ∧ KeepsWalks W W')
  (hc : ∀ pre W, J pre W → ∀ j, j < len → W.cell? ⟨b, off + j, none⟩ = some (encStr (f j)))
  (W : World) (hBs : W.cell? ⟨Bs, 0, none⟩ = some (.slice (some ⟨b, off, none⟩) len cap)) (h0 : J [] W) :
  CallsIn Fence.wide n Tryz.prog 170 #[.func (.yield l) #[] #[], .pointer (some ⟨Bs, 0, none⟩)] W fun e W' => (∃ v, e = .returned v) ∧ J (comeN f len) W' := by
 refine callsIn_of_wp func170 rfl trivial ?_ rfl
 simp only [ntmps170, List.size_toArray, List.length_cons, List.length_nil, Nat.reduceAdd, Nat.reduceSub, Array.replicate_succ, Array.replicate_zero, List.push_toArray, List.append_toArray, List.nil_append, List.cons_append]
 gi_wp2
 gi_loopw [7] (fun i wr => ∃ k : Nat, k ≤ len ∧ i = .int .i64 k ∧ J (comeN f k) wr)
  (fun i _ => len - (intOf i).toNat)
 case atStart => exact ⟨0, Nat.zero_le _, rfl, h0⟩
 case round =>
  obtain ⟨k, hk, rfl, hJs⟩ := hrel
  have hcx : k < len → wr.cell? ⟨b, off + k, none⟩ = some (encStr (f k)) := fun h => hc _ _ hJs k h
  by_cases hlt : k < len
  ·obtain ⟨fn, tmps, assign, body, hy, hR⟩ := hY _ (f k) wr hJs (by rw [comeN_len]; exact hlt)
   have hcx' := hcx hlt
   gi_wp2
   refine hR.mono ?_
   rintro e W3 ⟨rfl, hJ3, hk3⟩
   gi_wp2
   go_roundw
   case rel => exact ⟨k + 1, by omega, by simp, by rw [comeN_succ]; exact hJ3⟩
   case measure => simp [intOf]; omega
  ·obtain rfl : k = len := by omega
   gi_wp2
   go_end0
   exact ⟨⟨_, rfl⟩, hJs⟩
set_option maxRecDepth 100000 in
set_option maxHeartbeats 2000000 in
theorem vals0_in (n : Nat) (l Bs : Nat) (p : Option Addr) (cap : Nat) (J : List (List UInt8) → World → Prop) (W : World) (hBs : W.cell? ⟨Bs, 0, none⟩ = some (.slice p 0 cap)) (h0 : J [] W) :
  CallsIn Fence.wide n Tryz.prog 170 #[.func (.yield l) #[] #[], .pointer (some ⟨Bs, 0, none⟩)] W fun e W' => (∃ v, e = .returned v) ∧ J [] W' := by
 refine callsIn_of_wp func170 rfl trivial ?_ rfl
 simp only [ntmps170, List.size_toArray, List.length_cons, List.length_nil, Nat.reduceAdd, Nat.reduceSub, Array.replicate_succ, Array.replicate_zero, List.push_toArray, List.append_toArray, List.nil_append, List.cons_append]
 gi_wp2
 gi_loopw [7] (fun i wr => i = .int .i64 0 ∧ J [] wr) (fun _ _ => 0)
 case atStart => exact ⟨rfl, h0⟩
 case round =>
  obtain ⟨rfl, hJs⟩ := hrel
  gi_wp2
  go_end0
  exact ⟨⟨_, rfl⟩, hJs⟩
def GivesB (n : Nat) (Bs : Nat) (ss : List (List UInt8)) (w : World) : Prop :=
 ∀ (l : Nat) (J : List (List UInt8) → World → Prop) (W : World), Below w.heap.size w W → (∀ pre W', J pre W' → Below w.heap.size w W') →
  (∀ pre x W1, J pre W1 → pre.length < ss.length → YieldAt Fence.wide (n - 1) Tryz.prog l #[encStr x] W1 fun e W' => e = .returned (.bool true) ∧ J (pre ++ [x]) W' ∧ KeepsWalks W1 W') → J [] W →
  CallsIn Fence.wide n Tryz.prog 170 #[.func (.yield l) #[] #[], .pointer (some ⟨Bs, 0, none⟩)] W fun e W' => (∃ v, e = .returned v) ∧ J ss W'
theorem comeN_all (ss : List (List UInt8)) : comeN (fun j => ss[j]?.getD []) ss.length = ss := by
 apply List.ext_getElem
 ·simp [comeN]
 ·intro i h1 h2
  simp [comeN, h2]
theorem gives_of {w : World} {Bs b off cap n : Nat} {ss : List (List UInt8)} (hn : 1 ≤ n) (hBl : Bs < w.heap.size) (hb : b < w.heap.size) (hreach : ss.length * 16 ≤ 140737488351232) (hBs : w.cell? ⟨Bs, 0, none⟩ = some (.slice (some ⟨b, off, none⟩) ss.length cap))
  (hc : ∀ j, j < ss.length → w.cell? ⟨b, off + j, none⟩ = some (encStr (ss[j]?.getD []))) : GivesB n Bs ss w := by
 intro l J W hW hJ hY h0
 have := vals_in n hn l Bs b off ss.length cap (fun j => ss[j]?.getD []) hreach J hY (fun pre W' hj j hlt => ((hJ pre W' hj).cell (p := ⟨b, off + j, none⟩) hb).trans (hc j hlt)) W ((hW.cell (p := ⟨Bs, 0, none⟩) hBl).trans hBs) h0
 rwa [comeN_all] at this
theorem gives_nil {w : World} {Bs cap n : Nat} {p : Option Addr} (hBl : Bs < w.heap.size) (hBs : w.cell? ⟨Bs, 0, none⟩ = some (.slice p 0 cap)) : GivesB n Bs [] w :=
 fun l J W hW _ _ h0 => vals0_in n l Bs p cap J W ((hW.cell (p := ⟨Bs, 0, none⟩) hBl).trans hBs) h0
set_option maxRecDepth 100000 in
set_option maxHeartbeats 2000000 in
theorem app_in (n : Nat) (hn : 2 ≤ n) (Bs : Nat) (ss : List (List UInt8)) (hN : ss.length ≤ maxLen) (hNb : ss.length * 16 ≤ 140737488355328) (w : World) (hseq : GivesB (n - 1) Bs ss w) :
    CallsIn Fence.wide n Tryz.prog 254 #[.slice none 0 0, .func (.func 170) #[] #[.pointer (some ⟨Bs, 0, none⟩)]] w fun e w' => ∃ (v : Value), e = .returned v ∧ w'.ownsRow w.heap.size 9 1 v ss.length (ss.map encStr) ∧ (v = .slice none 0 0 ↔ ss = []) ∧ Below w.heap.size w w' := by
  have L := Tryz.sorted58
  have h1 : 1 ≤ n := by omega
  refine callsIn_of_wp_marks func254 rfl trivial ?_ rfl
  simp only [ntmps254, List.size_toArray, List.length_cons, List.length_nil, Nat.reduceAdd, Nat.reduceSub, Array.replicate_succ, Array.replicate_zero, List.push_toArray, List.append_toArray, List.nil_append, List.cons_append]
  gi_wp2
  refine wpIn_rangeFunc ?_
  intro fn hfn
  obtain ⟨sv, hsv⟩ : ∃ sv : Value, sv = .func (.func 170) #[] #[.pointer (some ⟨Bs, 0, none⟩)] := ⟨_, rfl⟩
  obtain ⟨W0, hW0⟩ : ∃ W0, w.alloc (.cells #[.slice none 0 0] 25) = W0 := ⟨_, rfl⟩
  have hs0 : W0.heap.size = w.heap.size + 1 := by rw [← hW0]; simp
  have hv0 : W0.heap[w.heap.size]? = some (.cells #[.slice none 0 0] 25 (0, 0)) := by rw [← hW0]; exact World.alloc_heap_new w _
  have hb0 : Below w.heap.size w W0 := by rw [← hW0]; exact (Below.refl _ w).alloc (Nat.le_refl _) _
  rw [hW0]
  obtain ⟨W1, hW1⟩ : ∃ W1, (W0.alloc (.deferred (some []))).alloc (.loop (AnyZ.apRec Tryz.sorted58_ren fn sv w.heap.size W0.heap.size .ready none)) = W1 := ⟨_, rfl⟩
  have hold : ∀ k, k < W0.heap.size → W1.heap[k]? = W0.heap[k]? := fun k hk => by
    rw [← hW1]; exact (Below.heap_alloc _ _ k (by simp; omega)).trans (Below.heap_alloc _ _ k hk)
  have hb1 : Below w.heap.size w W1 := by rw [← hW1]; exact (hb0.alloc hb0.size _).alloc (by have := hb0.size; simp; omega) _
  have hs1 : W1.heap.size = W0.heap.size + 2 := by rw [← hW1]; simp
  have hM : AnyZ.ApAt Tryz.sorted58_ren w fn sv w.heap.size (W0.heap.size + 1) W0.heap.size [] W1 :=
    ⟨⟨_, (hold w.heap.size (by omega)).trans hv0, ⟨rfl, .inl ⟨rfl, rfl⟩⟩, by simp⟩,
     by rw [← hW1]; have := World.alloc_heap_new (W0.alloc (.deferred (some []))) (.loop (AnyZ.apRec Tryz.sorted58_ren fn sv w.heap.size W0.heap.size .ready none)); rwa [World.size_alloc] at this,
     by rw [← hW1]; exact (Below.heap_alloc _ _ _ (by simp)).trans (World.alloc_heap_new W0 _), hb1⟩
  refine ⟨W0.heap.size + 1, [{ target := .collected W0.heap.size, args := #[] }], W1, { target := .fn (.func 170) #[.pointer (some ⟨Bs, 0, none⟩)], args := #[.func (.yield (W0.heap.size + 1)) #[] #[]] }, W1, 170,
    #[.func (.yield (W0.heap.size + 1)) #[] #[]] ++ #[.pointer (some ⟨Bs, 0, none⟩)], W1, ?_, ?_, ?_, ?_, fun _ => h1, ?_⟩
  · rw [← hW1, hsv]; exact run_enterLoop_outer _ _ _ _ _
  · simp [resolve, go_sem]
  · intro f' hf'; trivial
  · simp [invoke, go_sem, enters_of func170 (by kernel_rfl) rfl]
  · refine (hseq (W0.heap.size + 1) (AnyZ.ApAt Tryz.sorted58_ren w fn sv w.heap.size (W0.heap.size + 1) W0.heap.size) W1 hb1 (fun pre W' h => h.below)
      (fun pre x W hJ hl => AnyZ.apYield { L with } Fence.wide (n - 1 - 1) w fn trivial sv w.heap.size (W0.heap.size + 1) W0.heap.size (by omega) (by omega) (by omega) (Nat.le_refl _) (by omega) ss.length hN hNb pre x W hJ hl) hM).mono ?_
    rintro e W2 ⟨⟨v0, rfl⟩, h2⟩
    obtain ⟨v, hv, hrow, hnil⟩ := h2.box
    have hend := run_endLoop (P := Tryz.prog) h2.L (by simp [AnyZ.apRec])
    obtain ⟨W3, hW3⟩ : ∃ W3, W2.putObj (W0.heap.size + 1) (.loop { AnyZ.apRec Tryz.sorted58_ren fn sv w.heap.size W0.heap.size .ready none with state := .exhausted }) = W3 := ⟨_, rfl⟩
    rw [hW3] at hend
    have hg3 : W2.grownBy W3 (some (W0.heap.size + 1)) := by rw [← hW3]; exact grownBy_putObj_a _ _ _
    have hv3 : W3.heap[w.heap.size]? = some (.cells #[v] 25 (0, 0)) := by rw [← hW3]; exact (World.putObj_heap_other (by omega)).trans hv
    have hK3 : W3.heap[W0.heap.size]? = some (.deferred (some [])) := by rw [← hW3]; exact (World.putObj_heap_other (by omega)).trans h2.K
    have hrow3 := hrow.kept hg3 (ownsRow_ne_a hrow h2.L (fun cur e => by cases e))
    have hb3 : Below w.heap.size w W3 := h2.below.grown hg3 h2.below.size (fun k e => by cases e; omega)
    obtain ⟨hc3, hf3⟩ := cell_of_box_a hv3
    clear hW3
    refine ⟨none, W3, hend, ?_⟩
    gi_wp2
    rw [← hs0]
    refine ⟨by simp, .inl ⟨_, _, rfl, run_takeDeferred hK3, ?_⟩⟩
    exact ⟨_, results_tmp rfl _ _ _, v, rfl, hrow3.kept (grownBy_putObj_a _ _ _) (ownsRow_ne_a hrow3 hK3 (fun cur e => by cases e)), hnil, hb3.grown (grownBy_putObj_a _ _ _) hb3.size (fun k e => by cases e; omega)⟩
set_option maxHeartbeats 1000000 in
theorem col_in (n : Nat) (hn : 3 ≤ n) (Bs : Nat) (ss : List (List UInt8)) (hN : ss.length ≤ maxLen) (hNb : ss.length * 16 ≤ 140737488355328) (w : World) (hseq : GivesB (n - 1 - 1) Bs ss w) :
  CallsIn Fence.wide n Tryz.prog 169 #[.func (.func 170) #[] #[.pointer (some ⟨Bs, 0, none⟩)]] w fun e w' => ∃ (v : Value), e = .returned v ∧ w'.ownsRow w.heap.size 9 1 v ss.length (ss.map encStr) ∧ (v = .slice none 0 0 ↔ ss = []) ∧ Below w.heap.size w w' := by
 have h1 : 1 ≤ n := by omega
 have hfS : Fence.wide.fn 254 := trivial
 refine callsIn_of_wp func169 rfl trivial ?_ rfl
 simp only [ntmps169, List.size_toArray, List.length_cons, List.length_nil, Nat.reduceAdd, Nat.reduceSub, Array.replicate_succ, Array.replicate_zero, List.push_toArray, List.append_toArray, List.nil_append, List.cons_append]
 gi_wp2_with (gi_at_call 254; refine (app_in (n - 1) (by omega) Bs ss hN hNb _ hseq).mono ?_; rintro e w' ⟨v, rfl, hrow, hnil, hb⟩)
 go_ret
 exact ⟨v, rfl, hrow, hnil, hb⟩
set_option maxRecDepth 100000 in
set_option maxHeartbeats 2000000 in
theorem sorted_in2 (n : Nat) (hn : 4 ≤ n) (Bs : Nat) (ss : List (List UInt8)) (hN : ss.length ≤ maxLen) (hNb : ss.length * 16 ≤ 140737488355328) (w : World) (hseq : GivesB (n - 1 - 1 - 1) Bs ss w) :
  CallsIn Fence.wide n Tryz.prog 82 #[.func (.func 170) #[] #[.pointer (some ⟨Bs, 0, none⟩)]] w fun e w' => ∃ (v : Value), e = .returned v ∧
   w'.ownsRow w.heap.size 9 1 v ss.length ((ss.mergeSort (fun x y => decide (x ≤ y))).map encStr) ∧ (v = .slice none 0 0 ↔ ss = []) ∧ Below w.heap.size w w' := by
 have h1 : 1 ≤ n := by omega
 have hfC : Fence.wide.fn 169 := trivial
 have hfS : Fence.wide.fn 123 := trivial
 refine callsIn_of_wp func82 rfl trivial ?_ rfl
 simp only [ntmps82, List.size_toArray, List.length_cons, List.length_nil, Nat.reduceAdd, Nat.reduceSub, Array.replicate_succ, Array.replicate_zero, List.push_toArray, List.append_toArray, List.nil_append, List.cons_append]
 gi_wp2_with (gi_at_call 169; refine (col_in (n - 1) (by omega) Bs ss hN hNb _ hseq).mono ?_; rintro e W ⟨v, rfl, hrow, hnil, hb⟩)
 rcases hrow.2 with ⟨rfl, hz⟩ | ⟨gb, cap, cur, rfl, hbase, hgb, r1, r2, r3, r4⟩
 ·have hss : ss = [] := List.eq_nil_of_length_eq_zero hz
  subst hss
  gi_wp2_with (gi_at_call 123; refine (callsIn_wide.2 (Tryz.slices_Sort_string_none none 0 W)).mono ?_; rintro e w' ⟨rfl, rfl⟩)
  go_ret
  exact ⟨.slice none 0 0, rfl, by simpa using hrow, by simp, hb⟩
 ·have hH : Holds encStr W gb 0 ss.toArray := holds_of_block hgb (by simpa using r4)
  have hgl : gb < W.heap.size := (Array.getElem?_eq_some_iff.1 hgb).1
  have hsz : ss.length < 4611686018427387904 := by omega
  have cS := Tryz.slices_Sort_string gb 0 cap ss W hH hgl hsz
  gi_wp2_with (gi_at_call 123; refine (callsIn_wide.2 cS).mono ?_; rintro e w' ⟨rfl, nn, os, rfl⟩)
  go_ret
  exact ⟨_, rfl, ownsRow_sorted (by simp) hbase hgb r1 r2 r3, hnil, hb.grown (grownBy_sorted _) hb.size (fun j hj => by cases hj; exact hbase)⟩
theorem sorted_calls (Bs : Nat) (ss : List (List UInt8)) (hN : ss.length ≤ maxLen) (hNb : ss.length * 16 ≤ 140737488355328) (w : World) (hseq : GivesB 2 Bs ss w) :
  Calls Tryz.prog 82 #[.func (.func 170) #[] #[.pointer (some ⟨Bs, 0, none⟩)]] w fun e w' => ∃ (v : Value), e = .returned v ∧
   w'.ownsRow w.heap.size 9 1 v ss.length ((ss.mergeSort (fun x y => decide (x ≤ y))).map encStr) ∧ (v = .slice none 0 0 ↔ ss = []) ∧ Below w.heap.size w w' :=
 callsIn_wide.1 (sorted_in2 5 (by omega) Bs ss hN hNb w hseq)
end Go.Proofs.YtenpjlghikohmaaGreatDoor
namespace Go.Proofs.YtenpjlghikohmaaGreatDoor
set_option maxRecDepth 4000
open Go Go.Abs Go.Val Go.RowKit Go.Sort Go.Proofs Go.Proofs.Tryz
abbrev oStrs (l : List ByteArray) : AObj := .var 25 (.w (.d (.sl (l.map .str))))
def bytL (l : List ByteArray) : List (List UInt8) := l.map fun s => s.data.toList
def strL (l : List (List UInt8)) : List D := l.map fun b => .str ⟨b.toArray⟩
theorem strL_bytL (l : List ByteArray) : strL (bytL l) = l.map D.str := by
 simp [strL, bytL]
theorem WInv.lend {F : Nat → Prop} {σ : Sg} {ob : List AObj} {w : World} (h : WInv E ⟨fun _ => False, 0, []⟩ F σ ob w) : WInv E ⟨Held w ob σ, 0, []⟩ F σ ob w :=
 ⟨h.flt, h.glob, h.len, fun o x p hx hp => (h.obs o x p hx hp).own fun hl hh => hh.2 ⟨o, x, p, hx, hl, hp, rfl⟩, h.inj, fun i p hi => absurd hi (Nat.not_lt_zero _)⟩
theorem grown_none {w w' : World} (h : Below w.heap.size w w') : w.grownBy w' none := ⟨h.os, h.tape, h.output, h.size, fun k hk _ => h.block k hk⟩
theorem Kept.of_below {w w' : World} {O : Nat → Prop} (h : Below w.heap.size w w') (hO : ∀ k, O k → k < w.heap.size) : Kept O w w' := ⟨h.os, h.tape, h.output, h.size, fun k hk => h.block k (hO k hk), hO⟩
theorem strL_cells (l : List (List UInt8)) : (∀ x ∈ strL l, x.cells.length = 1) ∧ ∀ x ∈ strL l, ∀ c ∈ x.cells, c.one = true := by
 constructor
 ·intro x hx
  obtain ⟨u, -, rfl⟩ := List.mem_map.1 hx
  rfl
 ·intro x hx c hc
  obtain ⟨u, -, rfl⟩ := List.mem_map.1 hx
  rw [show (D.str ⟨u.toArray⟩).cells = [D.str ⟨u.toArray⟩] from rfl, List.mem_singleton] at hc
  subst hc
  rfl
theorem strL_rd {w : World} {F : Nat → Prop} {l : List (List UInt8)} (hl : ∀ b ∈ l, b.length ≤ maxLen) : ∀ (i : Nat) (x : D) (j : Nat) (cd : D), (strL l)[i]? = some x → x.cells[j]? = some cd → ∃ v, (l.map encStr)[i * 1 + j]? = some v ∧ Rd w F cd v := by
 intro i x j cd hx hc
 rw [strL, List.getElem?_map, Option.map_eq_some_iff] at hx
 obtain ⟨b, hb, rfl⟩ := hx
 rw [show (D.str ⟨b.toArray⟩).cells = [D.str ⟨b.toArray⟩] from rfl] at hc
 cases j with
 | zero =>
  simp at hc
  subst hc
  refine ⟨_, by rw [Nat.mul_one, Nat.add_zero, List.getElem?_map, hb]; rfl, Rd.imm _ ?_⟩
  have := hl b (List.mem_of_getElem? hb)
  simpa [Go.Abs.okV, ByteArray.size] using this
 | succ j => simp at hc
def sortU (l : List (List UInt8)) : List (List UInt8) := l.mergeSort fun x y => decide (x ≤ y)
theorem spot_none {w : World} {ad : Addr} {v : Value} (h : w.cell? ad = some v) : ad.spot = none := by
 unfold World.cell? at h
 split at h
 ·split at h
  ·cases h
  ·rename_i hs; simpa using hs
 ·cases h
theorem sorted_evS (l : List ByteArray) (hne : l ≠ []) (hsz : l.length ≤ 1000000) : EvS E 82 [.clo 170 [.ptr 0 0]] [oStrs l] (.own 1) [oStrs l, .row 9 1 (strL (sortU (bytL l)))] := by
 intro w F σ vs hi hl hr
 match vs, hl with
 | [v0], _ =>
  obtain ⟨us, rfl, ul, ur⟩ := hr 0 _ _ rfl rfl
  match us, ul with
  | [u0], _ =>
   obtain ⟨b, c, n, e1, rfl⟩ := ur 0 _ _ rfl rfl
   obtain ⟨cs, g1, g2, g3, g4, g5, g6⟩ := hi.obs 0 _ _ rfl e1
   match cs, g2 with
   | [sv], _ =>
    have hrd : Rd w F (.sl (l.map .str)) sv := g4 0 (.d (.sl (l.map .str))) sv rfl rfl
    have hσ : σ.length = 1 := hi.len
    rcases Rd.sl_inv hrd with ⟨h0, -⟩ | ⟨size, ad, cap, rfl, h1, h2, h3, h4, h5, h6⟩
    ·exact absurd (by simpa using h0) hne
    ·have hsize : size = 1 := by
      obtain ⟨s, r, rfl⟩ := List.exists_cons_of_ne_nil hne
      exact (h4 (.str s) (by simp)).symm
     subst hsize
     have hcell : ∀ j, j < l.length → w.cell? (ad.add j) = some (encStr ((bytL l)[j]?.getD [])) := by
      intro j hj
      obtain ⟨u, q1, q2⟩ := h6 j (.str l[j]) 0 (.str l[j]) (by simp [hj]) rfl
      rw [Nat.mul_one, Nat.add_zero] at q1
      rw [q1, (Rd.imm_inv q2).1]
      simp [bytL, hj, encStr]
     have hlen : (bytL l).length = l.length := by simp [bytL]
     have hlp : 0 < l.length := List.length_pos_iff.2 hne
     have hsp : ad.spot = none := spot_none (by have := hcell 0 hlp; rwa [show ad.add 0 = ad from rfl] at this)
     obtain ⟨ab, ao, asp⟩ := ad
     simp only at hsp
     subst hsp
     have hbl : b < w.heap.size := (Array.getElem?_eq_some_iff.1 g1).1
     have hab : ab < w.heap.size := hi.flt ab (h3 (by simpa using hne))
     have hG : GivesB 2 b (bytL l) w := by
      refine gives_of (off := ao) (b := ab) (cap := cap) (by omega) hbl hab (by omega) ?_ fun j hj => ?_
      ·rw [hlen]
       simp only [World.cell?, g1]
       simp
      ·have := hcell j (by omega)
       rwa [add_mk] at this
     refine (sorted_calls b (bytL l) (by rw [hlen]; unfold maxLen; omega) (by omega) w hG).mono ?_
     rintro e w' ⟨v, rfl, hrow, hnil, hb⟩
     have hv : v ≠ .slice none 0 0 := fun h => hne (by simpa [bytL] using hnil.1 h)
     have hblk : ∀ k, v.ownBlock = some k → w.heap.size ≤ k := fun k hk => (hrow.lt k hk).1
     obtain ⟨zc1, zc2⟩ := strL_cells (sortU (bytL l))
     have hin : ∀ z ∈ sortU (bytL l), z.length ≤ maxLen := by
      intro z hz
      have hz' : z ∈ bytL l := (List.mergeSort_perm _ _).mem_iff.1 hz
      obtain ⟨s, hs, rfl⟩ := List.mem_map.1 hz'
      obtain ⟨j, hj⟩ := List.getElem?_of_mem hs
      obtain ⟨u, -, q2⟩ := h6 j (.str s) 0 (.str s) (by simp [hj]) rfl
      have h9 : s.size ≤ maxLen := of_decide_eq_true (Rd.imm_inv q2).2
      show s.data.toList.length ≤ maxLen
      rw [Array.length_toList]
      exact h9
     obtain ⟨g, cp, rfl, hob⟩ := owns_row (F := F) (σ := σ) (B := Held w [oStrs l] σ) (xs := strL (sortU (bytL l))) (ownsRow_base_a hrow (Nat.zero_le _)) (fun k hk hh => by have := hblk k hk; have := hh.1; omega) hv (by simp [strL, sortU]) zc1 zc2 (strL_rd hin)
      (fun k hk hf => by have := hblk k hk; have := hi.flt k hf; omega)
     have hge := hblk g rfl
     have hob2 : ObOK w' F (σ ++ [(g, cp, (bytL l).length)]) (Held w [oStrs l] σ) (.row 9 1 (strL (sortU (bytL l)))) (g, cp, (bytL l).length) := hob.mono (fun _ h => h) (fun _ _ => rfl) σ_app (fun _ => rfl) fun _ h => h
     refine ⟨_, F, σ ++ [(g, cp, (bytL l).length)], rfl, Kept.of_below hb fun k hk => hk.1, fun _ h => h, fun _ h => .inl h, fun i p hi hp => σ_app _ _ hp, ?_, ⟨g, cp, (bytL l).length, by rw [List.getElem?_append_right (by omega), hσ]; rfl, rfl⟩⟩
     exact (WInv.lend hi).regrow (ob0 := [oStrs l]) (row := none) (fun o x hx hl => ⟨hx, fun p hp => by simp⟩) rfl (grown_none hb) (fun k hk => by cases hk) _ g cp _ (.inr hge) hob2
theorem compact_len (zs : List (List UInt8)) : (Lib.compact zs).length ≤ zs.length := by
 unfold Lib.compact Lib.compactUpTo
 rw [List.length_map]
 refine Nat.le_trans (List.length_filter_le _ _) ?_
 simp
theorem compact_evS (zs : List (List UInt8)) (hin : ∀ z ∈ zs, z.length ≤ maxLen) : EvS E 84 [.own 0] [.row 9 1 (strL zs)] (.own 1) [.dead, .row 9 1 (strL (Lib.compact zs))] := by
 intro w F σ vs hi hl hr
 match vs, hl with
 | [v0], _ =>
  obtain ⟨b, c, n, e1, rfl⟩ := hr 0 _ _ rfl rfl
  have hσ : σ.length = 1 := hi.len
  obtain ⟨cs, g1, g2, g3, g4, g5, g6, g7, g8, g9, g10⟩ := hi.obs 0 _ _ rfl e1
  have hn : n = zs.length := by rw [g3]; simp [strL]
  subst hn
  have ht : cs.take zs.length = zs.map encStr := by
   refine List.ext_getElem? fun j => ?_
   rcases Nat.lt_or_ge j zs.length with hj | hj
   ·obtain ⟨v, q1, q2⟩ := g8 j (.str ⟨zs[j].toArray⟩) 0 (.str ⟨zs[j].toArray⟩) (by simp [strL, hj]) rfl
    rw [Nat.mul_one, Nat.add_zero] at q1
    rw [List.getElem?_take_of_lt hj, q1, (Rd.imm_inv q2).1]
    simp [hj, encStr]
   ·rw [List.getElem?_eq_none (by rw [List.length_take]; omega), List.getElem?_eq_none (by simpa using hj)]
  have hH : Holds encStr w b 0 zs.toArray := holds_of_block g1 (by simpa using ht)
  have hmx : maxLen = 9223372036854775807 := rfl
  refine (Tryz.slices_Compact_string b 0 c zs w hH (by omega) g4).mono ?_
  rintro e w' ⟨rfl, q, rfl⟩
  have hkl := compact_len zs
  have hdl : (Lib.compact zs ++ List.replicate (zs.length - (Lib.compact zs).length) []).length = zs.length := by simp; omega
  have hhp := heap_sorted (n := q) (os := #[]) (Lib.compact zs ++ List.replicate (zs.length - (Lib.compact zs).length) []).toArray g1
  rw [grow_empty] at hhp
  have hgb := grownBy_sorted (w := w) (g := b) (n := q) (os := #[]) (Lib.compact zs ++ List.replicate (zs.length - (Lib.compact zs).length) []).toArray
  rw [grow_empty] at hgb
  have htk := take_putCells cs.toArray (Lib.compact zs ++ List.replicate (zs.length - (Lib.compact zs).length) []) (by rw [hdl]; simp; omega)
  have hin2 : ∀ z ∈ Lib.compact zs, z.length ≤ maxLen := by
   intro z hz
   unfold Lib.compact Lib.compactUpTo at hz
   obtain ⟨j, hj, rfl⟩ := List.mem_map.1 hz
   have hjl : j < zs.length := by simpa using (List.mem_filter.1 hj).1
   have : zs.toArray[j]! = zs[j] := by rw [getElem!_pos _ j (by simpa using hjl)]; simp
   rw [this]
   exact hin _ (List.getElem_mem hjl)
  obtain ⟨zc1, zc2⟩ := strL_cells (Lib.compact zs)
  have hlb : ¬ Held w [.row 9 1 (strL zs)] σ b := fun hh => hh.2 ⟨0, _, _, rfl, rfl, e1, rfl⟩
  have hFb : ¬ F b := g10
  have hob : ObOK (putRow encStr (Sort.ahead w q) b 0 (Lib.compact zs ++ List.replicate (zs.length - (Lib.compact zs).length) []).toArray) F (σ ++ [(b, c, (Lib.compact zs).length)]) (Held w [.row 9 1 (strL zs)] σ) (.row 9 1 (strL (Lib.compact zs))) (b, c, (Lib.compact zs).length) := by
   refine ⟨(putCells encStr 0 (Lib.compact zs ++ List.replicate (zs.length - (Lib.compact zs).length) []).toArray cs.toArray).toList, by simpa using hhp, by simp [putCells, g2], by simp [strL], by omega, g5, zc1, zc2, fun i x j cd hx hc => ?_, hlb, hFb⟩
   obtain ⟨v, r1, r2⟩ := strL_rd (w := putRow encStr (Sort.ahead w q) b 0 (Lib.compact zs ++ List.replicate (zs.length - (Lib.compact zs).length) []).toArray) (F := F) hin2 i x j cd hx hc
   refine ⟨v, ?_, r2⟩
   have hlt : i * 1 + j < (Lib.compact zs).length := by simpa using (List.getElem?_eq_some_iff.1 r1).1
   have h1 := congrArg (fun l => l[i * 1 + j]?) htk
   rw [List.getElem?_take_of_lt (by omega), List.map_append, List.getElem?_append_left (by simpa using hlt)] at h1
   rw [h1, r1]
  refine ⟨_, F, σ ++ [(b, c, (Lib.compact zs).length)], rfl, ⟨hgb.os, hgb.tape, hgb.output, hgb.size, fun k hk => hgb.block k hk.1 (fun e => hlb (by cases e; exact hk)), fun k hk => hk.1⟩, fun _ h => h, fun _ h => .inl h, fun i p hi hp => σ_app _ _ hp, ?_, ⟨b, c, (Lib.compact zs).length, by rw [List.getElem?_append_right (by omega), hσ]; rfl, rfl⟩⟩
  exact (WInv.lend hi).regrow (ob0 := [.dead]) (row := some b) (fun o x hx hl => by
   cases o with
   | zero => simp at hx; subst hx; cases hl
   | succ o => simp at hx) rfl hgb (fun k hk => by cases hk; exact hFb) _ b c _ (.inl rfl) hob
end Go.Proofs.YtenpjlghikohmaaGreatDoor
namespace Go.Proofs.YtenpjlghikohmaaGreatDoor
set_option maxRecDepth 4000
open Go Go.Abs Go.Val Go.Proofs.Tryz
attribute [local irreducible] go SGo HasBody Ev ExtEv EvO EvS PGo RGo ordF
theorem values_evS (l : List ByteArray) : EvS E 83 [.d (.sl (l.map .str))] [] (.clo 170 [.ptr 0 0]) [oStrs l] := by
 refine yn func83 ntmps83 fun _ _ _ _=>?_
 repeat' (first | refine yz ?_ | refine go_makeFunc rfl rfl rfl rfl rfl ?_ | refine retS1 [0] rfl rfl rfl rfl rfl ?_)
 rfl
def ariN (k : Int) : Nat := bif k == 1 then 1 else bif k == 2 then 1 else bif k == 4 then 1 else bif k == 3 then 3 else 0
theorem arityA_ev (k : Int) : Ev E 145 [.int k] (.d (.int (ariN k))) := by
 unfold ariN
 rcases atk_cases k with rfl | rfl | rfl | rfl | ⟨h1, h2, h3, h4⟩
 ·refine ye1 func145 ntmps145 fun _ _ _=>?_
  repeat' (first | refine yz ?_ | exact zD)
 ·refine ye1 func145 ntmps145 fun _ _ _=>?_
  repeat' (first | refine yz ?_ | exact zD)
 ·refine ye1 func145 ntmps145 fun _ _ _=>?_
  repeat' (first | refine yz ?_ | exact zD)
 ·refine ye1 func145 ntmps145 fun _ _ _=>?_
  repeat' (first | refine yz ?_ | exact zD)
 ·rw [h1, h2, h3, h4]
  refine ye1 func145 ntmps145 fun _ _ _=>?_
  repeat' (first | refine yz ?_ | exact zD)
structure SMm (f : Int → Int → Int) (x : Int) (r : List Int) where
 i : Nat
 m : Int
 hi : i ≤ r.length
 hm : inR .i64 m
 ok : r.foldl f x = (r.drop i).foldl f m
theorem minI_ev (x : Int) (r : List Int) : Ev E 146 [.sl (iL (x :: r))] (.d (.int (r.foldl min x))) := Ev.fit fun hfit => by
 obtain ⟨hmax, hel⟩ := fit_map (hfit (.sl (iL (x :: r))) (by simp))
 have hxr := (hel x (by simp)).int
 have hle := iL_len (x :: r)
 simp only [List.length_cons] at hmax hle
 have g0 : decide (((iL (x :: r)).length : Int) < 1) = false := by rw [hle]; simp; omega
 have h0 : (iL (x :: r))[(0 : Int).toNat]? = some (.int x) := rfl
 refine ye1 func146 ntmps146 fun _ _ _=>?_
 repeat' (first | refine yz ?_ | refine yi (.int x) h0 ?_)
 refine go_loop_ (α := SMm min x r) (fun p => ⟨[(0, .d (.sl (iL (x :: r)))), (3, .d (.int p.m)), (4, .d (.int ((p.i + 1 : Nat) : Int)))], []⟩) (fun p => r.length - p.i) ⟨0, x, by omega, hxr, rfl⟩ (zle 0) ?_
 rintro ⟨i, m, hi, hm, ok⟩
 dsimp only
 rcases Nat.lt_or_ge i r.length with hlt | hge
 ·have g1 : decide (((i + 1 : Nat) : Int) < ((iL (x :: r)).length : Int)) = true := by rw [hle]; simp; omega
  have hx0 := List.getElem?_eq_getElem hlt
  generalize r[i] = y at hx0
  have hx : (iL (x :: r))[((i + 1 : Nat) : Int).toNat]? = some (.int y) := iL_get (by simpa using hx0)
  have hyr := (hel y (by simp [List.mem_of_getElem? hx0])).int
  repeat' (first | refine yz ?_ | refine yi (.int y) hx ?_)
  refine go_stop ?_
  refine ⟨⟨i + 1, min m y, hlt, ?_, by rw [ok, drop_at hx0, List.foldl_cons]⟩, by dsimp only; omega, (zle 0)⟩
  simp only [inR, Int.min_def] at hm hyr ⊢
  split <;> assumption
 ·have g1 : decide (((i + 1 : Nat) : Int) < ((iL (x :: r)).length : Int)) = false := by rw [hle]; simp; omega
  rw [ok, List.drop_eq_nil_of_le hge]
  repeat' (first | refine yz ?_ | exact zD)
theorem maxI_ev (x : Int) (r : List Int) : Ev E 81 [.sl (iL (x :: r))] (.d (.int (r.foldl max x))) := Ev.fit fun hfit => by
 obtain ⟨hmax, hel⟩ := fit_map (hfit (.sl (iL (x :: r))) (by simp))
 have hxr := (hel x (by simp)).int
 have hle := iL_len (x :: r)
 simp only [List.length_cons] at hmax hle
 have g0 : decide (((iL (x :: r)).length : Int) < 1) = false := by rw [hle]; simp; omega
 have h0 : (iL (x :: r))[(0 : Int).toNat]? = some (.int x) := rfl
 refine ye1 func81 ntmps81 fun _ _ _=>?_
 repeat' (first | refine yz ?_ | refine yi (.int x) h0 ?_)
 refine go_loop_ (α := SMm max x r) (fun p => ⟨[(0, .d (.sl (iL (x :: r)))), (3, .d (.int p.m)), (4, .d (.int ((p.i + 1 : Nat) : Int)))], []⟩) (fun p => r.length - p.i) ⟨0, x, by omega, hxr, rfl⟩ (zle 0) ?_
 rintro ⟨i, m, hi, hm, ok⟩
 dsimp only
 rcases Nat.lt_or_ge i r.length with hlt | hge
 ·have g1 : decide (((i + 1 : Nat) : Int) < ((iL (x :: r)).length : Int)) = true := by rw [hle]; simp; omega
  have hx0 := List.getElem?_eq_getElem hlt
  generalize r[i] = y at hx0
  have hx : (iL (x :: r))[((i + 1 : Nat) : Int).toNat]? = some (.int y) := iL_get (by simpa using hx0)
  have hyr := (hel y (by simp [List.mem_of_getElem? hx0])).int
  repeat' (first | refine yz ?_ | refine yi (.int y) hx ?_)
  refine go_stop ?_
  refine ⟨⟨i + 1, max m y, hlt, ?_, by rw [ok, drop_at hx0, List.foldl_cons]⟩, by dsimp only; omega, (zle 0)⟩
  simp only [inR, Int.max_def] at hm hyr ⊢
  split <;> assumption
 ·have g1 : decide (((i + 1 : Nat) : Int) < ((iL (x :: r)).length : Int)) = false := by rw [hle]; simp; omega
  rw [ok, List.drop_eq_nil_of_le hge]
  repeat' (first | refine yz ?_ | exact zD)
theorem min_neg : ∀ (r : List Int) (x : Int), decide (r.foldl min x < 0) = (x :: r).any fun v => decide (v < 0)
 | [], x => by simp only [List.foldl_nil, List.any_cons, List.any_nil, Bool.or_false]; rfl
 | y :: r, x => by
  rw [List.foldl_cons, min_neg r (min x y), List.any_cons, List.any_cons, List.any_cons, ← Bool.or_assoc]
  congr 1
  rw [Bool.eq_iff_iff]
  simp only [decide_eq_true_eq, Bool.or_eq_true]
  omega
theorem max_ge (n : Int) : ∀ (r : List Int) (x : Int), decide (r.foldl max x ≥ n) = (x :: r).any fun v => decide (v ≥ n)
 | [], x => by simp only [List.foldl_nil, List.any_cons, List.any_nil, Bool.or_false]; rfl
 | y :: r, x => by
  rw [List.foldl_cons, max_ge n r (max x y), List.any_cons, List.any_cons, List.any_cons, ← Bool.or_assoc]
  congr 1
  rw [Bool.eq_iff_iff]
  simp only [decide_eq_true_eq, Bool.or_eq_true]
  omega
def riseF : List ByteArray → Bool
 | [] => true
 | [_] => true
 | a :: b :: r => Op.bytesLess a.toList b.toList && riseF (b :: r)
theorem bl_ord : ∀ a b : List UInt8, (Op.bytesLess a b = true ∧ Op.bytesLess b a = false ∧ a ≠ b) ∨ (Op.bytesLess a b = false ∧ Op.bytesLess b a = true ∧ a ≠ b) ∨ (Op.bytesLess a b = false ∧ Op.bytesLess b a = false ∧ a = b)
 | [], [] => .inr (.inr ⟨rfl, rfl, rfl⟩)
 | [], _ :: _ => .inl ⟨rfl, rfl, by simp⟩
 | _ :: _, [] => .inr (.inl ⟨rfl, rfl, by simp⟩)
 | x :: a, y :: b => by
  have ih := bl_ord a b
  simp only [Op.bytesLess]
  rcases Nat.lt_trichotomy x.toNat y.toNat with h | h | h
  ·have h1 : x < y := h
   have h2 : ¬ y < x := fun h' => Nat.lt_asymm h h'
   have h3 : x ≠ y := fun e => by subst e; omega
   have h4 : (y == x) = false := by rw [beq_eq_false_iff_ne]; exact fun e => h3 e.symm
   left
   refine ⟨by simp [h1], by simp [h2, h4], fun e => h3 (List.cons.inj e).1⟩
  ·have e : x = y := UInt8.toNat_inj.1 h
   subst e
   have h2 : ¬ x < x := fun h' => Nat.lt_irrefl _ h'
   simp only [h2, decide_false, beq_self_eq_true, Bool.true_and, Bool.false_or]
   rcases ih with ⟨i1, i2, i3⟩ | ⟨i1, i2, i3⟩ | ⟨i1, i2, i3⟩
   ·exact .inl ⟨i1, i2, fun e => i3 (List.cons.inj e).2⟩
   ·exact .inr (.inl ⟨i1, i2, fun e => i3 (List.cons.inj e).2⟩)
   ·exact .inr (.inr ⟨i1, i2, by rw [i3]⟩)
  ·have h1 : y < x := h
   have h2 : ¬ x < y := fun h' => Nat.lt_asymm h h'
   have h3 : x ≠ y := fun e => by subst e; omega
   have h4 : (x == y) = false := by rw [beq_eq_false_iff_ne]; exact h3
   right; left
   refine ⟨by simp [h2, h4], by simp [h1], fun e => h3 (List.cons.inj e).1⟩
theorem leq_not (a b : ByteArray) : (Op.bytesLess b.toList a.toList || b.toList == a.toList) = !Op.bytesLess a.toList b.toList := by
 rcases bl_ord a.toList b.toList with ⟨h1, h2, h3⟩ | ⟨h1, h2, h3⟩ | ⟨h1, h2, h3⟩
 ·rw [h1, h2, show (b.toList == a.toList) = false by rw [beq_eq_false_iff_ne]; exact fun e => h3 e.symm]; rfl
 ·rw [h1, h2]; rfl
 ·rw [h1, h2, h3]; simp
structure SRs (l : List ByteArray) where
 i : Nat
 hi : i + 1 ≤ l.length
 ok : riseF l = riseF (l.drop i)
theorem rise_at {l : List ByteArray} {i : Nat} {a b : ByteArray} (ha : l[i]? = some a) (hb : l[i + 1]? = some b) : riseF (l.drop i) = (Op.bytesLess a.toList b.toList && riseF (l.drop (i + 1))) := by
 rw [drop_at ha, drop_at hb]
 rfl
theorem rise_end {l : List ByteArray} {i : Nat} (h : i + 1 = l.length) : riseF (l.drop i) = true := by
 obtain ⟨a, ha⟩ : ∃ a, l[i]? = some a := ⟨_, List.getElem?_eq_getElem (by omega)⟩
 rw [drop_at ha, List.drop_eq_nil_of_le (by omega)]
 rfl
def nmE (s : ByteArray) : Bool := s.toList == (⟨#[]⟩ : ByteArray).toList
def shapeF (a : AT) : Bool :=
 bif ariN a.k == 0 || a.vs.length != ariN a.k then false else
 bif a.vs.any fun v => decide (v < 0) then false else
 bif (a.k != 3 && decide (a.ty.length > 0)) || ((a.k != 1 && a.k != 2) && !nmE a.nm) then false else
 bif a.k == 2 then plainF a.v else riseF a.ty && ordF a.v vNull == 0
abbrev oAT (a : AT) : AObj := .var 58 (.w (.d (encAT a)))
structure SRt (l : List ByteArray) where
 i : Nat
 hi : i + 1 ≤ l.length ∨ l = []
 ok : riseF l = riseF (l.drop i)
theorem shape_ev (a : AT) : Ev E 57 [encAT a] (.d (.bool (shapeF a))) := Ev.fit fun hfit => by
 obtain ⟨k, vs, nm, ty, v⟩ := a
 have hft := hfit (encAT ⟨k, vs, nm, ty, v⟩) (by simp)
 have hmax := (fit_map (hft.aggs (.sl (ty.map .str)) (by simp))).1
 have hle := iL_len vs
 have hlt : (ty.map D.str).length = ty.length := by simp
 have hpl := Plain_ev ixOK v
 have hor := Order_ev v vNull
 have hna := arityA_ev k
 rcases atk_cases k with rfl | rfl | rfl | rfl | hk
 ·cases hl : vs.length == 3 with
  | false =>
   have g1 : (((iL vs).length : Int) != 3) = true := by rw [hle]; simp at hl ⊢; omega
   have ea : shapeF ⟨3, vs, nm, ty, v⟩ = false := by unfold shapeF; simp [ariN, bne, hl]
   rw [ea]
   refine ye1 func57 ntmps57 fun _ _ _=>?_
   repeat' (first | refine yz ?_ | refine yp b145 hna ?_ | refine yx ?_ | exact zD)
  | true =>
   have hl' : vs.length = 3 := by simpa using hl
   obtain ⟨x, r, rfl⟩ := List.exists_cons_of_ne_nil (fun h : vs = [] => by rw [h] at hl'; simp at hl')
   have g1 : (((iL (x :: r)).length : Int) != 3) = false := by rw [hle, hl']; rfl
   have hmin := minI_ev x r
   have hmn := min_neg r x
   cases hm : decide (r.foldl min x < 0) with
   | true =>
    have ea : shapeF ⟨3, x :: r, nm, ty, v⟩ = false := by unfold shapeF; rw [hm] at hmn; dsimp only; rw [← hmn, hl']; rfl
    rw [ea]
    refine ye1 func57 ntmps57 fun _ _ _=>?_
    repeat' (first | refine yz ?_ | refine yp b145 hna ?_ | refine yp b146 hmin ?_ | refine yx ?_ | exact zD)
   | false =>
    rw [hm] at hmn
    cases hn : nmE nm with
    | false =>
     have g3 : (nm.toList == (⟨#[]⟩ : ByteArray).toList) = false := hn
     have g3n : (!(nm.toList == (⟨#[]⟩ : ByteArray).toList)) = true := by rw [g3]; rfl
     have ea : shapeF ⟨3, x :: r, nm, ty, v⟩ = false := by unfold shapeF; dsimp only; rw [← hmn, hl', hn]; rfl
     rw [ea]
     refine ye1 func57 ntmps57 fun _ _ _=>?_
     repeat' (first | refine yz ?_ | refine yp b145 hna ?_ | refine yp b146 hmin ?_ | refine yx ?_ | exact zD)
    | true =>
     have g3 : (nm.toList == (⟨#[]⟩ : ByteArray).toList) = true := hn
     have g3n : (!(nm.toList == (⟨#[]⟩ : ByteArray).toList)) = false := by rw [g3]; rfl
     have ea : shapeF ⟨3, x :: r, nm, ty, v⟩ = (riseF ty && ordF v vNull == 0) := by unfold shapeF; dsimp only; rw [← hmn, hl', hn]; rfl
     rw [ea]
     refine ye1 func57 ntmps57 fun _ _ _=>?_
     repeat' (first | refine yz ?_ | refine yp b145 hna ?_ | refine yp b146 hmin ?_ | refine yx ?_)
     refine go_loop_ (α := SRt ty) (fun p => ⟨[(1, .ptr 0 0), (4, .d (.int ((p.i + 1 : Nat) : Int)))], [oAT ⟨3, x :: r, nm, ty, v⟩]⟩) (fun p => ty.length - p.i) ⟨0, (by cases ty with | nil => exact .inr rfl | cons _ _ => left; simp), rfl⟩ (zle 1) ?_
     rintro ⟨i, hi, ok⟩
     dsimp only
     rcases Nat.lt_or_ge (i + 1) ty.length with hlt2 | hge
     ·have g4 : decide (((i + 1 : Nat) : Int) < ((ty.map D.str).length : Int)) = true := by rw [hlt]; simp; omega
      have ha0 := List.getElem?_eq_getElem (show i < ty.length by omega)
      have hb0 := List.getElem?_eq_getElem hlt2
      generalize ty[i] = a at ha0
      generalize ty[i + 1] = b at hb0
      have hb := map_at (f := D.str) hb0
      have ha : (ty.map D.str)[(((i + 1 : Nat) : Int) - 1).toNat]? = some (.str a) := by
       rw [show (((i + 1 : Nat) : Int) - 1) = (i : Int) by omega]; exact map_at (f := D.str) ha0
      have hnx := rise_at ha0 hb0
      cases hc : Op.bytesLess a.toList b.toList with
      | true =>
       have hcn : (!Op.bytesLess a.toList b.toList) = false := by rw [hc]; rfl
       rw [hc, Bool.true_and] at hnx
       repeat' (first | refine yz ?_ | refine yi (.str b) hb ?_ | refine yi (.str a) ha ?_)
       refine go_stop ?_
       exact ⟨⟨i + 1, .inl (by omega), ok.trans hnx⟩, by dsimp only; omega, (zle 1)⟩
      | false =>
       have hcn : (!Op.bytesLess a.toList b.toList) = true := by rw [hc]; rfl
       rw [hc, Bool.false_and] at hnx
       rw [ok, hnx]
       repeat' (first | refine yz ?_ | refine yi (.str b) hb ?_ | refine yi (.str a) ha ?_ | exact zD)
     ·have g4 : decide (((i + 1 : Nat) : Int) < ((ty.map D.str).length : Int)) = false := by rw [hlt]; simp; omega
      have he : riseF (ty.drop i) = true := by
       rcases hi with hi | hi
       ·exact rise_end (by omega)
       ·rw [hi]; simp [riseF]
      rw [ok, he, Bool.true_and]
      repeat' (first | refine yz ?_ | refine yp b148 hor ?_ | exact zD)
 ·cases hl : vs.length == 1 with
  | false =>
   have g1 : (((iL vs).length : Int) != 1) = true := by rw [hle]; simp at hl ⊢; omega
   have ea : shapeF ⟨1, vs, nm, ty, v⟩ = false := by unfold shapeF; simp [ariN, bne, hl]
   rw [ea]
   refine ye1 func57 ntmps57 fun _ _ _=>?_
   repeat' (first | refine yz ?_ | refine yp b145 hna ?_ | refine yx ?_ | exact zD)
  | true =>
   have hl' : vs.length = 1 := by simpa using hl
   obtain ⟨x, r, rfl⟩ := List.exists_cons_of_ne_nil (fun h : vs = [] => by rw [h] at hl'; simp at hl')
   have g1 : (((iL (x :: r)).length : Int) != 1) = false := by rw [hle, hl']; rfl
   have hmin := minI_ev x r
   have hmn := min_neg r x
   cases hm : decide (r.foldl min x < 0) with
   | true =>
    have ea : shapeF ⟨1, x :: r, nm, ty, v⟩ = false := by unfold shapeF; rw [hm] at hmn; dsimp only; rw [← hmn, hl']; rfl
    rw [ea]
    refine ye1 func57 ntmps57 fun _ _ _=>?_
    repeat' (first | refine yz ?_ | refine yp b145 hna ?_ | refine yp b146 hmin ?_ | refine yx ?_ | exact zD)
   | false =>
    rw [hm] at hmn
    cases hty : decide (ty.length > 0) with
    | true =>
     have g2 : decide (((ty.map D.str).length : Int) > 0) = true := by rw [hlt]; simpa using hty
     have ea : shapeF ⟨1, x :: r, nm, ty, v⟩ = false := by unfold shapeF; dsimp only; rw [← hmn, hl', hty]; rfl
     rw [ea]
     refine ye1 func57 ntmps57 fun _ _ _=>?_
     repeat' (first | refine yz ?_ | refine yp b145 hna ?_ | refine yp b146 hmin ?_ | refine yx ?_ | exact zD)
    | false =>
     have g2 : decide (((ty.map D.str).length : Int) > 0) = false := by rw [hlt]; simpa using hty
     have hty0 : ty = [] := by simpa using hty
     subst hty0
     have ea : shapeF ⟨1, x :: r, nm, [], v⟩ = (riseF [] && ordF v vNull == 0) := by unfold shapeF; dsimp only; rw [← hmn, hl']; rfl
     rw [ea]
     refine ye1 func57 ntmps57 fun _ _ _=>?_
     repeat' (first | refine yz ?_ | refine yp b145 hna ?_ | refine yp b146 hmin ?_ | refine yx ?_)
     refine go_loop_ (α := Unit) (fun p => ⟨[(1, .ptr 0 0), (4, .d (.int 1))], [oAT ⟨1, x :: r, nm, [], v⟩]⟩) (fun p => 0) () (zle 1) ?_
     rintro -
     have g4 : decide ((1 : Int) < (([] : List D).length : Int)) = false := rfl
     repeat' (first | refine yz ?_ | refine yp b148 hor ?_ | exact zD)
 ·cases hl : vs.length == 1 with
  | false =>
   have g1 : (((iL vs).length : Int) != 1) = true := by rw [hle]; simp at hl ⊢; omega
   have ea : shapeF ⟨2, vs, nm, ty, v⟩ = false := by unfold shapeF; simp [ariN, bne, hl]
   rw [ea]
   refine ye1 func57 ntmps57 fun _ _ _=>?_
   repeat' (first | refine yz ?_ | refine yp b145 hna ?_ | refine yx ?_ | exact zD)
  | true =>
   have hl' : vs.length = 1 := by simpa using hl
   obtain ⟨x, r, rfl⟩ := List.exists_cons_of_ne_nil (fun h : vs = [] => by rw [h] at hl'; simp at hl')
   have g1 : (((iL (x :: r)).length : Int) != 1) = false := by rw [hle, hl']; rfl
   have hmin := minI_ev x r
   have hmn := min_neg r x
   cases hm : decide (r.foldl min x < 0) with
   | true =>
    have ea : shapeF ⟨2, x :: r, nm, ty, v⟩ = false := by unfold shapeF; rw [hm] at hmn; dsimp only; rw [← hmn, hl']; rfl
    rw [ea]
    refine ye1 func57 ntmps57 fun _ _ _=>?_
    repeat' (first | refine yz ?_ | refine yp b145 hna ?_ | refine yp b146 hmin ?_ | refine yx ?_ | exact zD)
   | false =>
    rw [hm] at hmn
    cases hty : decide (ty.length > 0) with
    | true =>
     have g2 : decide (((ty.map D.str).length : Int) > 0) = true := by rw [hlt]; simpa using hty
     have ea : shapeF ⟨2, x :: r, nm, ty, v⟩ = false := by unfold shapeF; dsimp only; rw [← hmn, hl', hty]; rfl
     rw [ea]
     refine ye1 func57 ntmps57 fun _ _ _=>?_
     repeat' (first | refine yz ?_ | refine yp b145 hna ?_ | refine yp b146 hmin ?_ | refine yx ?_ | exact zD)
    | false =>
     have g2 : decide (((ty.map D.str).length : Int) > 0) = false := by rw [hlt]; simpa using hty
     have hty0 : ty = [] := by simpa using hty
     subst hty0
     have ea : shapeF ⟨2, x :: r, nm, [], v⟩ = plainF v := by unfold shapeF; dsimp only; rw [← hmn, hl']; rfl
     rw [ea]
     refine ye1 func57 ntmps57 fun _ _ _=>?_
     repeat' (first | refine yz ?_ | refine yp b145 hna ?_ | refine yp b146 hmin ?_ | refine yp b147 hpl ?_ | refine yx ?_ | exact zD)
 ·cases hl : vs.length == 1 with
  | false =>
   have g1 : (((iL vs).length : Int) != 1) = true := by rw [hle]; simp at hl ⊢; omega
   have ea : shapeF ⟨4, vs, nm, ty, v⟩ = false := by unfold shapeF; simp [ariN, bne, hl]
   rw [ea]
   refine ye1 func57 ntmps57 fun _ _ _=>?_
   repeat' (first | refine yz ?_ | refine yp b145 hna ?_ | refine yx ?_ | exact zD)
  | true =>
   have hl' : vs.length = 1 := by simpa using hl
   obtain ⟨x, r, rfl⟩ := List.exists_cons_of_ne_nil (fun h : vs = [] => by rw [h] at hl'; simp at hl')
   have g1 : (((iL (x :: r)).length : Int) != 1) = false := by rw [hle, hl']; rfl
   have hmin := minI_ev x r
   have hmn := min_neg r x
   cases hm : decide (r.foldl min x < 0) with
   | true =>
    have ea : shapeF ⟨4, x :: r, nm, ty, v⟩ = false := by unfold shapeF; rw [hm] at hmn; dsimp only; rw [← hmn, hl']; rfl
    rw [ea]
    refine ye1 func57 ntmps57 fun _ _ _=>?_
    repeat' (first | refine yz ?_ | refine yp b145 hna ?_ | refine yp b146 hmin ?_ | refine yx ?_ | exact zD)
   | false =>
    rw [hm] at hmn
    cases hty : decide (ty.length > 0) with
    | true =>
     have g2 : decide (((ty.map D.str).length : Int) > 0) = true := by rw [hlt]; simpa using hty
     have ea : shapeF ⟨4, x :: r, nm, ty, v⟩ = false := by unfold shapeF; dsimp only; rw [← hmn, hl', hty]; rfl
     rw [ea]
     refine ye1 func57 ntmps57 fun _ _ _=>?_
     repeat' (first | refine yz ?_ | refine yp b145 hna ?_ | refine yp b146 hmin ?_ | refine yx ?_ | exact zD)
    | false =>
     have g2 : decide (((ty.map D.str).length : Int) > 0) = false := by rw [hlt]; simpa using hty
     have hty0 : ty = [] := by simpa using hty
     subst hty0
     cases hn : nmE nm with
     | false =>
      have g3 : (nm.toList == (⟨#[]⟩ : ByteArray).toList) = false := hn
      have g3n : (!(nm.toList == (⟨#[]⟩ : ByteArray).toList)) = true := by rw [g3]; rfl
      have ea : shapeF ⟨4, x :: r, nm, [], v⟩ = false := by unfold shapeF; dsimp only; rw [← hmn, hl', hn]; rfl
      rw [ea]
      refine ye1 func57 ntmps57 fun _ _ _=>?_
      repeat' (first | refine yz ?_ | refine yp b145 hna ?_ | refine yp b146 hmin ?_ | refine yx ?_ | exact zD)
     | true =>
      have g3 : (nm.toList == (⟨#[]⟩ : ByteArray).toList) = true := hn
      have g3n : (!(nm.toList == (⟨#[]⟩ : ByteArray).toList)) = false := by rw [g3]; rfl
      have ea : shapeF ⟨4, x :: r, nm, [], v⟩ = (riseF [] && ordF v vNull == 0) := by unfold shapeF; dsimp only; rw [← hmn, hl', hn]; rfl
      rw [ea]
      refine ye1 func57 ntmps57 fun _ _ _=>?_
      repeat' (first | refine yz ?_ | refine yp b145 hna ?_ | refine yp b146 hmin ?_ | refine yx ?_)
      refine go_loop_ (α := Unit) (fun p => ⟨[(1, .ptr 0 0), (4, .d (.int 1))], [oAT ⟨4, x :: r, nm, [], v⟩]⟩) (fun p => 0) () (zle 1) ?_
      rintro -
      have g4 : decide ((1 : Int) < (([] : List D).length : Int)) = false := rfl
      repeat' (first | refine yz ?_ | refine yp b148 hor ?_ | exact zD)
 ·obtain ⟨h3, h1, h2, h4⟩ := hk
  have e0 : ariN k = 0 := by unfold ariN; rw [h1, h2, h4, h3]; rfl
  have ea : shapeF ⟨k, vs, nm, ty, v⟩ = false := by unfold shapeF; dsimp only; rw [e0]; rfl
  rw [e0] at hna
  rw [ea]
  refine ye1 func57 ntmps57 fun _ _ _=>?_
  repeat' (first | refine yz ?_ | refine yp b145 hna ?_ | exact zD)
theorem anamed1_ev (s : ByteArray) : Ev E 150 [.str s] (.d (.bool (!nameF s))) := by
 have h := name_ev s
 refine ye1 func150 ntmps150 fun _ _ _=>?_
 repeat' (first | refine yz ?_ | refine yp b122 h ?_ | exact zD)
theorem fi_some {α : Type} {l : List α} {f : α → Bool} {i : Nat} {x : α} (hx : l[i]? = some x) (hc : f x = true) (h : ∀ j, j < i → ∀ y, l[j]? = some y → f y = false) : l.findIdx? f = some i := by
 have hi := (List.getElem?_eq_some_iff.1 hx).1
 rw [List.findIdx?_eq_some_iff_getElem]
 refine ⟨hi, ?_, fun j hj => ?_⟩
 ·rw [List.getElem?_eq_getElem hi] at hx
  cases hx
  exact hc
 ·have := h j hj _ (List.getElem?_eq_getElem (by omega))
  simpa using this
theorem fi_none {α : Type} {l : List α} {f : α → Bool} (h : ∀ j, j < l.length → ∀ y, l[j]? = some y → f y = false) : l.findIdx? f = none := by
 rw [List.findIdx?_eq_none_iff]
 intro x hx
 obtain ⟨j, hj⟩ := List.getElem?_of_mem hx
 exact h j (List.getElem?_eq_some_iff.1 hj).1 x hj
theorem fi_any {α : Type} {l : List α} {f : α → Bool} : decide (optI (l.findIdx? f) ≥ 0) = l.any f := by
 cases h : l.findIdx? f with
 | none =>
  rw [List.findIdx?_eq_none_iff] at h
  have : l.any f = false := by rw [List.any_eq_false]; intro x hx; simpa using h x hx
  rw [this]; rfl
 | some i =>
  obtain ⟨hi, h1, -⟩ := List.findIdx?_eq_some_iff_getElem.1 h
  have : l.any f = true := List.any_eq_true.2 ⟨_, List.getElem_mem hi, h1⟩
  rw [this]
  simp [optI]
structure SFi {α : Type} (l : List α) (f : α → Bool) where
 i : Nat
 hi : i ≤ l.length
 ok : ∀ j, j < i → ∀ y, l[j]? = some y → f y = false
theorem SFi.next {α : Type} {l : List α} {f : α → Bool} {i : Nat} {x : α} (hx : l[i]? = some x) (hc : f x = false) (h : ∀ j, j < i → ∀ y, l[j]? = some y → f y = false) : ∀ j, j < i + 1 → ∀ y, l[j]? = some y → f y = false := by
 intro j hj y hy
 rcases Nat.lt_succ_iff_lt_or_eq.1 hj with h1 | rfl
 ·exact h j h1 y hy
 ·rw [hx] at hy; cases hy; exact hc
theorem indexFuncS_ev (fn : FuncId) (hb : HasBody E fn) (f : ByteArray → Bool) (l : List ByteArray) (hf : ∀ x ∈ l, Ev E fn [.str x] (.d (.bool (f x)))) : Ev E 236 [.sl (l.map .str), .imm (.func (.func fn) #[] #[])] (.d (.int (optI (l.findIdx? f)))) := Ev.fit fun hfit => by
 have hmax := (fit_map (hfit (.sl (l.map .str)) (by simp))).1
 have hle : (l.map D.str).length = l.length := by simp
 refine ye2 func236 ntmps236 fun _ _ _=>?_
 repeat' (refine yz ?_)
 refine go_loop_ (α := SFi l f) (fun p => ⟨[(0, .d (.sl (l.map .str))), (1, .d (.imm (.func (.func fn) #[] #[]))), (7, .d (.int (l.map D.str).length)), (8, .d (.int p.i))], []⟩) (fun p => l.length - p.i) ⟨0, by omega, fun j hj => absurd hj (by omega)⟩ (zle 0) ?_
 rintro ⟨i, hi, ok⟩
 dsimp only
 rcases Nat.lt_or_ge i l.length with hlt | hge
 ·have g1 : decide ((i : Int) < ((l.map D.str).length : Int)) = true := by rw [hle]; simpa using hlt
  have hx0 := List.getElem?_eq_getElem hlt
  generalize l[i] = y at hx0
  have hx := map_at (f := D.str) hx0
  have h := hf y (List.mem_of_getElem? hx0)
  cases hc : f y with
  | true =>
   rw [hc] at h
   rw [fi_some hx0 hc ok]
   repeat' (first | refine yz ?_ | refine yi (.str y) hx ?_ | refine yp hb h ?_ | exact zD)
  | false =>
   rw [hc] at h
   repeat' (first | refine yz ?_ | refine yi (.str y) hx ?_ | refine yp hb h ?_)
   refine go_stop ?_
   exact ⟨⟨i + 1, by omega, SFi.next hx0 hc ok⟩, by dsimp only; omega, (zle 0)⟩
 ·have g1 : decide ((i : Int) < ((l.map D.str).length : Int)) = false := by rw [hle]; simp; omega
  rw [fi_none fun j hj => ok j (by omega)]
  repeat' (first | refine yz ?_ | exact zD)
theorem containsFuncS_ev (fn : FuncId) (hb : HasBody E fn) (f : ByteArray → Bool) (l : List ByteArray) (hf : ∀ x ∈ l, Ev E fn [.str x] (.d (.bool (f x)))) : Ev E 149 [.sl (l.map .str), .imm (.func (.func fn) #[] #[])] (.d (.bool (l.any f))) := by
 have h := indexFuncS_ev fn hb f l hf
 rw [← fi_any]
 refine ye2 func149 ntmps149 fun _ _ _=>?_
 repeat' (first | refine yz ?_ | refine yp b236 h ?_ | exact zD)
def namF28 (a : AT) : Bool := !((a.k == 1 || a.k == 2) && !nameF a.nm) && !(a.ty.any fun t => !nameF t)
theorem anamed_ev (a : AT) : Ev E 58 [encAT a] (.d (.bool (namF28 a))) := by
 obtain ⟨k, vs, nm, ty, v⟩ := a
 have h1 := name_ev nm
 have h2 := containsFuncS_ev 150 b150 (fun t => !nameF t) ty fun x _ => anamed1_ev x
 refine ye1 func58 ntmps58 fun _ _ _=>?_
 repeat' (first | refine yz ?_ | refine yp b122 h1 ?_ | refine yp b149 h2 ?_ | (refine yy ?_ ?_ <;> intro _) | (refine qV rfl ?_ ?_ <;> intro _))
 all_goals (refine congrArg D.bool ?_; clear h1 h2; simp_all [namF28])
def twF (l : List ByteArray) : Bool := (List.range l.length).any fun i => (List.range i).any fun k => match l[i]?, l[k]? with | some a, some b => a.toList == b.toList | _, _ => false
def usdF (l : List AT) (v : Int) : Bool := l.any fun a => a.vs.any fun y => y == v
structure SNo {α : Type} (l : List α) (f : α → Bool) where
 i : Nat
 hi : i ≤ l.length
 ok : l.any f = (l.drop i).any f
theorem any_at {α : Type} {l : List α} {f : α → Bool} {i : Nat} {x : α} (h : l[i]? = some x) : (l.drop i).any f = (f x || (l.drop (i + 1)).any f) := by rw [drop_at h, List.any_cons]
def bL (l : List Bool) : List D := l.map D.bool
theorem indexB_ev (l : List Bool) (x : Bool) : Ev E 171 [.sl (bL l), .bool x] (.d (.int (optI (l.findIdx? fun y => x == y)))) := Ev.fit fun hfit => by
 have hmax := (fit_map (hfit (.sl (bL l)) (by simp))).1
 have hle : (bL l).length = l.length := by simp [bL]
 refine ye2 func171 ntmps171 fun _ _ _=>?_
 repeat' (refine yz ?_)
 refine go_loop_ (α := SFi l fun y => x == y) (fun p => ⟨[(0, .d (.sl (bL l))), (1, .d (.bool x)), (7, .d (.int (bL l).length)), (8, .d (.int p.i))], []⟩) (fun p => l.length - p.i) ⟨0, by omega, fun j hj => absurd hj (by omega)⟩ (zle 0) ?_
 rintro ⟨i, hi, ok⟩
 dsimp only
 rcases Nat.lt_or_ge i l.length with hlt | hge
 ·have g1 : decide ((i : Int) < ((bL l).length : Int)) = true := by rw [hle]; simpa using hlt
  have hx0 := List.getElem?_eq_getElem hlt
  generalize l[i] = y at hx0
  have hx : (bL l)[(i : Int).toNat]? = some (.bool y) := map_at (f := D.bool) hx0
  cases hc : x == y with
  | true =>
   rw [fi_some hx0 hc ok]
   repeat' (first | refine yz ?_ | refine yi (.bool y) hx ?_ | exact zD)
  | false =>
   repeat' (first | refine yz ?_ | refine yi (.bool y) hx ?_)
   refine go_stop ?_
   exact ⟨⟨i + 1, by omega, SFi.next hx0 hc ok⟩, by dsimp only; omega, (zle 0)⟩
 ·have g1 : decide ((i : Int) < ((bL l).length : Int)) = false := by rw [hle]; simp; omega
  rw [fi_none fun j hj => ok j (by omega)]
  repeat' (first | refine yz ?_ | exact zD)
theorem containsB_ev (l : List Bool) (x : Bool) : Ev E 85 [.sl (bL l), .bool x] (.d (.bool (l.any fun y => x == y))) := by
 have h := indexB_ev l x
 rw [← fi_any]
 refine ye2 func85 ntmps85 fun _ _ _=>?_
 repeat' (first | refine yz ?_ | refine yp b171 h ?_ | exact zD)
end Go.Proofs.YtenpjlghikohmaaGreatDoor
namespace Go.Proofs.YtenpjlghikohmaaGreatDoor
set_option maxRecDepth 4000
open Go Go.Abs Go.Val Go.RowKit Go.Sort Go.Proofs Go.Proofs.Tryz
theorem sorted0_evS : EvS E 82 [.clo 170 [.ptr 0 0]] [oStrs []] .nilS [oStrs []] := by
 intro w F σ vs hi hl hr
 match vs, hl with
 | [v0], _ =>
  obtain ⟨us, rfl, ul, ur⟩ := hr 0 _ _ rfl rfl
  match us, ul with
  | [u0], _ =>
   obtain ⟨b, c, n, e1, rfl⟩ := ur 0 _ _ rfl rfl
   obtain ⟨cs, g1, g2, g3, g4, g5, g6⟩ := hi.obs 0 _ _ rfl e1
   match cs, g2 with
   | [sv], _ =>
    have hrd : Rd w F (.sl (([] : List ByteArray).map .str)) sv := g4 0 (.d (.sl (([] : List ByteArray).map .str))) sv rfl rfl
    have hbl : b < w.heap.size := (Array.getElem?_eq_some_iff.1 g1).1
    obtain ⟨p, cap, rfl⟩ : ∃ p cap, sv = .slice p 0 cap := by
     rcases Rd.sl_inv hrd with ⟨-, rfl⟩ | ⟨size, ad, cap, rfl, -⟩
     ·exact ⟨_, _, rfl⟩
     ·exact ⟨_, _, rfl⟩
    have hG : GivesB 2 b [] w := gives_nil (p := p) (cap := cap) hbl (by simp only [World.cell?, g1]; simp)
    refine (sorted_calls b [] (by decide) (by decide) w hG).mono ?_
    rintro e w' ⟨v, rfl, hrow, hnil, hb⟩
    have hv : v = .slice none 0 0 := hnil.2 rfl
    exact ⟨_, F, σ, rfl, Kept.of_below hb fun k hk => hk.1, fun _ h => h, fun _ h => .inl h, fun i p hi hp => hp, (WInv.lend hi).ext (Ext.of_below hb hi.flt), hv⟩
theorem compact0_ev : Ev E 84 [.sl []] (.d (.sl [])) := by
 refine ye1 func84 ntmps84 fun _ _ _=>?_
 repeat' (first | refine yz ?_ | refine yx ?_ | (refine yy ?_ ?_ <;> intro _) | exact zD | exact zL)
theorem filter_len_lt {α : Type} {p : α → Bool} : ∀ {l : List α}, (l.filter p).length < l.length ↔ ∃ x ∈ l, p x = false
 | [] => by simp
 | x :: l => by
  have ih := filter_len_lt (p := p) (l := l)
  have hle := List.length_filter_le p l
  cases h : p x with
  | true =>
   rw [List.filter_cons_of_pos h, List.length_cons, List.length_cons, Nat.add_lt_add_iff_right, ih]
   constructor
   ·rintro ⟨y, hy, hp⟩
    exact ⟨y, List.mem_cons_of_mem _ hy, hp⟩
   ·rintro ⟨y, hy, hp⟩
    rcases List.mem_cons.1 hy with rfl | hy
    ·rw [h] at hp; cases hp
    ·exact ⟨y, hy, hp⟩
  | false =>
   rw [List.filter_cons_of_neg (by rw [h]; decide), List.length_cons]
   exact ⟨fun _ => ⟨x, List.mem_cons_self, h⟩, fun _ => by omega⟩
theorem near_twin {zs : List (List UInt8)} (hs : zs.Pairwise fun x y => x ≤ y) : (∃ j, j < zs.length ∧ Lib.keeps zs.toArray j = false) ↔ ¬ zs.Nodup := by
 have hg : ∀ j, j < zs.length → zs.toArray[j]! = zs[j]! := fun j hj => by simp
 constructor
 ·rintro ⟨j, hj, hk⟩ hn
  simp only [Lib.keeps, decide_eq_false_iff_not, not_or, Classical.not_not] at hk
  obtain ⟨h0, h1⟩ := hk
  rw [hg j hj, hg (j - 1) (by omega), getElem!_pos zs j hj, getElem!_pos zs (j - 1) (by omega)] at h1
  rw [List.Nodup, List.pairwise_iff_getElem] at hn
  exact hn (j - 1) j (by omega) hj (by omega) h1.symm
 ·intro hn
  rw [List.Nodup, List.pairwise_iff_getElem] at hn
  simp only [Classical.not_forall] at hn
  obtain ⟨i, j, hi, hj, hij, he⟩ := hn
  have he : zs[i] = zs[j] := Classical.byContradiction fun h => he h
  refine ⟨i + 1, by omega, ?_⟩
  simp only [Lib.keeps, decide_eq_false_iff_not, not_or]
  refine ⟨by omega, fun h => h ?_⟩
  rw [hg (i + 1) (by omega), hg (i + 1 - 1) (by omega), getElem!_pos zs (i + 1) (by omega), getElem!_pos zs (i + 1 - 1) (by omega)]
  have hp := List.pairwise_iff_getElem.1 hs
  have h1 : zs[i + 1 - 1] ≤ zs[i + 1] := hp _ _ _ _ (by omega)
  refine List.le_antisymm ?_ h1
  have h2 : zs[i + 1] ≤ zs[j] := by
   rcases Nat.lt_or_ge (i + 1) j with h | h
   ·exact hp _ _ _ _ h
   ·have : i + 1 = j := by omega
    subst this
    exact List.le_refl _
  show zs[i + 1] ≤ zs[i]
  rw [he]
  exact h2
theorem tw_nodup (l : List ByteArray) : twF l = true ↔ ¬ (bytL l).Nodup := by
 rw [List.Nodup, List.pairwise_iff_getElem]
 unfold twF
 simp only [List.any_eq_true, List.mem_range]
 constructor
 ·rintro ⟨i, hi, k, hk, h⟩ hn
  rw [List.getElem?_eq_getElem hi, List.getElem?_eq_getElem (show k < l.length by omega)] at h
  have hlen : (bytL l).length = l.length := by simp [bytL]
  refine hn k i (by omega) (by omega) hk ?_
  have h' : l[i].toList = l[k].toList := by simpa using h
  simp only [bytL, List.getElem_map]
  rw [ByteArray.toList_eq, ByteArray.toList_eq] at h'
  exact h'.symm
 ·intro hn
  simp only [Classical.not_forall] at hn
  obtain ⟨i, j, hi, hj, hij, he⟩ := hn
  have he : (bytL l)[i] = (bytL l)[j] := Classical.byContradiction fun h => he h
  have hlen : (bytL l).length = l.length := by simp [bytL]
  refine ⟨j, by omega, i, hij, ?_⟩
  rw [List.getElem?_eq_getElem (show j < l.length by omega), List.getElem?_eq_getElem (show i < l.length by omega)]
  simp only [bytL, List.getElem_map] at he
  simp only [beq_iff_eq]
  rw [ByteArray.toList_eq, ByteArray.toList_eq]
  exact he.symm
theorem compact_twin (l : List ByteArray) : decide (((strL (Lib.compact (sortU (bytL l)))).length : Int) < ((l.map D.str).length : Int)) = twF l := by
 have hlen : (sortU (bytL l)).length = l.length := by simp [sortU, bytL]
 have hsl : (sortU (bytL l)).Pairwise fun x y => x ≤ y := by
  have := List.pairwise_mergeSort (le := fun x y : List UInt8 => decide (x ≤ y)) (fun a b c h1 h2 => by simp only [decide_eq_true_eq] at *; exact List.le_trans h1 h2) (fun a b => by simp only [Bool.or_eq_true, decide_eq_true_eq]; exact List.le_total a b) (bytL l)
  exact this.imp fun h => by simpa using h
 have hnd : (sortU (bytL l)).Nodup ↔ (bytL l).Nodup := (List.mergeSort_perm _ _).nodup_iff
 have hc : (Lib.compact (sortU (bytL l))).length < l.length ↔ ∃ j, j < (sortU (bytL l)).length ∧ Lib.keeps (sortU (bytL l)).toArray j = false := by
  unfold Lib.compact Lib.compactUpTo
  rw [List.length_map]
  have := filter_len_lt (p := Lib.keeps (sortU (bytL l)).toArray) (l := List.range (sortU (bytL l)).length)
  rw [List.length_range, hlen] at this
  rw [hlen]
  simpa [List.mem_range] using this
 rw [Bool.eq_iff_iff, decide_eq_true_eq, tw_nodup, ← hnd, ← near_twin hsl, ← hc]
 simp [strL]
def badF (n : Int) (a : AT) : Bool := !shapeF a || a.vs.any fun v => decide (v ≥ n)
def marksN (n : Nat) (f : Nat → Bool) : List Bool := (List.range n).map f
def chkC (c : CJ) : Int :=
 bif decide (c.vs.length > 24) || decide (c.aq.length > 12) then 4 else
 bif c.aq.any (badF c.vs.length) then 1 else
 bif twF c.vs then 7 else
 bif c.aq.any (fun a => !namF28 a) then 6 else
 bif (List.range c.vs.length).any (fun j => !usdF c.aq j) then 25 else 0
theorem marks_set (n : Nat) (f : Nat → Bool) (v : Int) (h0 : 0 ≤ v) (h1 : v < n) : (bL (marksN n f)).set v.toNat (.bool true) = bL (marksN n fun j => f j || v == (j : Int)) := by
 unfold bL marksN
 rw [← List.map_set]
 congr 1
 apply List.ext_getElem
 ·simp
 ·intro i hi hj
  simp only [List.length_set, List.length_map, List.length_range] at hi
  rw [List.getElem_set]
  simp only [List.getElem_map, List.getElem_range]
  split
  ·rename_i h
   have : v = (i : Int) := by omega
   simp [this]
  ·rename_i h
   have : (v == (i : Int)) = false := by rw [beq_eq_false_iff_ne]; omega
   rw [this, Bool.or_false]
theorem marks_get (n : Nat) (f : Nat → Bool) (v : Int) (h0 : 0 ≤ v) (h1 : v < n) : (bL (marksN n f))[v.toNat]? = some (.bool (f v.toNat)) := by
 unfold bL marksN
 rw [List.getElem?_map, List.getElem?_map, List.getElem?_range (by omega)]
 rfl
theorem marks_any (n : Nat) (f : Nat → Bool) : ((marksN n f).any fun y => false == y) = (List.range n).any fun j => !f j := by
 unfold marksN
 rw [List.any_map]
 congr 1
 funext j
 simp only [Function.comp]
 cases f j <;> rfl
theorem marks_zero (n : Nat) : (List.replicate n (D.bool false)) = bL (marksN n fun _ => false) := by
 unfold bL marksN
 apply List.ext_getElem
 ·simp
 ·intro i hi hj; simp
theorem usd_take {l : List AT} {i : Nat} {a : AT} (h : l[i]? = some a) (v : Int) : usdF (l.take (i + 1)) v = (usdF (l.take i) v || a.vs.any fun y => y == v) := by
 unfold usdF
 have hi := (List.getElem?_eq_some_iff.1 h)
 rw [List.take_add_one, h, Option.toList_some, List.any_append, List.any_cons, List.any_nil, Bool.or_false]
theorem any_take {α : Type} {l : List α} {i : Nat} {x : α} {f : α → Bool} (h : l[i]? = some x) : (l.take (i + 1)).any f = ((l.take i).any f || f x) := by
 rw [List.take_add_one, h, Option.toList_some, List.any_append, List.any_cons, List.any_nil, Bool.or_false]
theorem shape_arity {a : AT} (h : shapeF a = true) : a.vs.length = ariN a.k ∧ ariN a.k ≠ 0 ∧ (a.vs.any fun v => decide (v < 0)) = false := by
 unfold shapeF at h
 cases h1 : (ariN a.k == 0 || a.vs.length != ariN a.k) with
 | true => rw [h1] at h; cases h
 | false =>
  rw [h1] at h
  cases h2 : (a.vs.any fun v => decide (v < 0)) with
  | true => rw [h2] at h; cases h
  | false =>
   rw [Bool.or_eq_false_iff] at h1
   refine ⟨?_, ?_, rfl⟩
   ·simpa using h1.2
   ·simpa using h1.1
theorem ari_le (k : Int) : ariN k ≤ 3 := by
 unfold ariN
 rcases atk_cases k with rfl | rfl | rfl | rfl | ⟨h1, h2, h3, h4⟩
 ·decide
 ·decide
 ·decide
 ·decide
 ·rw [h1, h2, h3, h4]; decide
end Go.Proofs.YtenpjlghikohmaaGreatDoor
namespace Go.Proofs.YtenpjlghikohmaaGreatDoor
set_option maxRecDepth 4000
open Go Go.Abs Go.Val Go.Proofs.Tryz
attribute [local irreducible] go SGo HasBody Ev ExtEv EvO EvS PGo RGo ordF
open Go.RowKit
structure SMk (ats : List AT) (n : Nat) where
 i : Nat
 f : Nat → Bool
 hi : i ≤ ats.length
 hf : ∀ j, f j = usdF (ats.take i) j
 ok : ats.any (fun a => !namF28 a) = (ats.drop i).any fun a => !namF28 a
structure SMv (ats : List AT) (a : AT) (i : Nat) where
 k : Nat
 f : Nat → Bool
 hk : k ≤ a.vs.length
 hf : ∀ j : Nat, f j = (usdF (ats.take i) j || (a.vs.take k).any fun y => y == (j : Int))
theorem bad_ok {ats : List AT} {n : Int} (h : ats.any (badF n) = false) {i : Nat} {a : AT} (ha : ats[i]? = some a) : badF n a = false := by
 have := List.any_eq_false.1 h a (List.mem_of_getElem? ha)
 simpa using this
theorem bad_vs {n : Int} {a : AT} (h : badF n a = false) {k : Nat} {y : Int} (hy : a.vs[k]? = some y) : 0 ≤ y ∧ y < n := by
 unfold badF at h
 rw [Bool.or_eq_false_iff] at h
 obtain ⟨h1, h2⟩ := h
 obtain ⟨-, -, h3⟩ := shape_arity (a := a) (by simpa using h1)
 have h4 := List.any_eq_false.1 h3 y (List.mem_of_getElem? hy)
 have h5 := List.any_eq_false.1 h2 y (List.mem_of_getElem? hy)
 simp at h4 h5
 omega
set_option maxHeartbeats 2000000 in
theorem checkC_ev (c : CJ) : Ev E 30 [encCJ c] (.d (.int (chkC c))) := Ev.fit fun hfit => by
 obtain ⟨vs, ats⟩ := c
 have hft := hfit (encCJ ⟨vs, ats⟩) (by simp)
 obtain ⟨hmv, hev⟩ := fit_map (hft.aggs (.sl (vs.map .str)) (by simp))
 obtain ⟨hma, hea⟩ := fit_map (hft.aggs (.sl (ats.map encAT)) (by simp))
 have hlv : (vs.map D.str).length = vs.length := by simp
 have hla : (ats.map encAT).length = ats.length := by simp
 unfold chkC
 dsimp only
 cases hbig : decide (vs.length > 24) || decide (ats.length > 12) with
 | true =>
  have hb1 : (decide (((vs.map D.str).length : Int) > 24) = true) ∨ (decide (((vs.map D.str).length : Int) > 24) = false ∧ decide (((ats.map encAT).length : Int) > 12) = true) := by
   rw [hlv, hla]; simp at hbig ⊢; omega
  rcases hb1 with g1 | ⟨g1, g2⟩
  ·refine ye1 func30 ntmps30 fun _ _ _=>?_
   repeat' (first | refine yz ?_ | refine yx ?_ | exact zD)
  ·refine ye1 func30 ntmps30 fun _ _ _=>?_
   repeat' (first | refine yz ?_ | refine yx ?_ | exact zD)
 | false =>
  rw [Bool.or_eq_false_iff] at hbig
  have hsm : vs.length ≤ 24 := by have := hbig.1; simp at this; omega
  have g1 : decide (((vs.map D.str).length : Int) > 24) = false := by rw [hlv]; simp; omega
  have g2 : decide (((ats.map encAT).length : Int) > 12) = false := by rw [hla]; have := hbig.2; simp at this ⊢; omega
  simp only [cond_false]
  refine ye1 func30 ntmps30 fun _ _ _=>?_
  repeat' (first | refine yz ?_ | refine yx ?_)
  refine go_loop_ (α := SNo ats (badF vs.length)) (fun p => ⟨[(1, .ptr 0 0), (22, .d (.sl (ats.map encAT))), (23, .d (.int (ats.map encAT).length)), (24, .d (.int p.i))], [oCJ ⟨vs, ats⟩]⟩) (fun p => ats.length - p.i) ⟨0, by omega, rfl⟩ (zle 1) ?_
  rintro ⟨i, hi, ok⟩
  dsimp only at ok ⊢
  rcases Nat.lt_or_ge i ats.length with hlt | hge
  ·have g3 : decide ((i : Int) < ((ats.map encAT).length : Int)) = true := by rw [hla]; simpa using hlt
   have hx0 := List.getElem?_eq_getElem hlt
   generalize ats[i] = a at hx0
   have hx := map_at (f := encAT) hx0
   have hs := shape_ev a
   rw [any_at hx0] at ok
   cases c1 : shapeF a with
   | false =>
    rw [c1] at hs
    rw [show badF vs.length a = true by unfold badF; rw [c1]; rfl] at ok
    rw [ok]
    repeat' (first | refine yz ?_ | refine yi (encAT a) hx ?_ | refine yp b57 hs ?_ | exact zD)
   | true =>
    rw [c1] at hs
    obtain ⟨ha1, ha2, ha3⟩ := shape_arity c1
    obtain ⟨k, ws, nm, ty, v⟩ := a
    dsimp only at ha1 ha2 ha3
    obtain ⟨x, r, rfl⟩ := List.exists_cons_of_ne_nil (fun h : ws = [] => by rw [h] at ha1; simp at ha1; omega)
    have hm := maxI_ev x r
    have hmg := max_ge vs.length r x
    have hb : badF vs.length ⟨k, x :: r, nm, ty, v⟩ = decide (r.foldl max x ≥ vs.length) := by unfold badF; rw [c1, hmg]; rfl
    rw [hb] at ok
    cases c2 : decide (r.foldl max x ≥ (vs.length : Int)) with
    | true =>
     have g4 : decide (r.foldl max x ≥ ((vs.map D.str).length : Int)) = true := by rw [hlv]; exact c2
     rw [c2] at ok
     rw [ok]
     repeat' (first | refine yz ?_ | refine yi (encAT ⟨k, x :: r, nm, ty, v⟩) hx ?_ | refine yp b57 hs ?_ | refine yp b81 hm ?_ | exact zD)
    | false =>
     have g4 : decide (r.foldl max x ≥ ((vs.map D.str).length : Int)) = false := by rw [hlv]; exact c2
     rw [c2] at ok
     repeat' (first | refine yz ?_ | refine yi (encAT ⟨k, x :: r, nm, ty, v⟩) hx ?_ | refine yp b57 hs ?_ | refine yp b81 hm ?_)
     refine go_stop ?_
     exact ⟨⟨i + 1, by omega, by rw [ok]; rfl⟩, by dsimp only; omega, (zle 1)⟩
  ·have g3 : decide ((i : Int) < ((ats.map encAT).length : Int)) = false := by rw [hla]; simp; omega
   rw [List.drop_eq_nil_of_le hge, List.any_nil] at ok
   rw [ok]
   simp only [cond_false]
   by_cases hne : vs = []
   ·subst hne
    have hat : ats = [] := by
     cases ats with
     | nil => rfl
     | cons a r =>
      have hb := bad_ok ok (i := 0) (a := a) rfl
      have hb' := hb
      unfold badF at hb'
      rw [Bool.or_eq_false_iff] at hb'
      obtain ⟨h1, h2, -⟩ := shape_arity (a := a) (by simpa using hb'.1)
      obtain ⟨x, hx⟩ : ∃ x, a.vs[0]? = some x := ⟨_, List.getElem?_eq_getElem (by omega)⟩
      have := bad_vs hb hx
      simp at this
      omega
    subst hat
    have hcb := containsB_ev [] false
    repeat' (first | (refine go_nilD 5 rfl ?_) | refine yz ?_ | refine yc [] b83 (values_evS []) ?_ | refine yc [1] b82 (sorted0_evS) ?_ | refine yp b84 compact0_ev ?_)
    refine go_loop_ (α := Unit) (fun _ => ⟨[(1, .ptr 0 0), (6, .own 2), (57, .d (.sl [])), (58, .d (.int 0)), (59, .d (.int 0))], [oCJ ⟨[], []⟩, oStrs [], .row 4 1 (bL [])]⟩) (fun _ => 0) () (zle 3) ?_
    rintro -
    have g6 : decide ((0 : Int) < 0) = false := rfl
    repeat' (first | (refine go_frz 2 rfl ?_; dsimp only [frzT, frzX, frzO, frzC, List.map, List.set]) | refine yz ?_ | refine yp b85 hcb ?_ | exact zD)
   ·have hz : ∀ z ∈ sortU (bytL vs), z.length ≤ maxLen := by
     intro z hz
     have hz' : z ∈ bytL vs := (List.mergeSort_perm _ _).mem_iff.1 hz
     obtain ⟨s, hs, rfl⟩ := List.mem_map.1 hz'
     exact (hev s hs).str
    have hso := sorted_evS vs hne (by omega)
    have hco := compact_evS (sortU (bytL vs)) hz
    have htw := compact_twin vs
    cases c3 : twF vs with
    | true =>
     rw [c3] at htw
     repeat' (first | refine qErT (id := 10) [1] [2] (by kernel_rfl) (by kernel_rfl) (by repeat (first | exact trivial | refine ⟨⟨rfl, rfl⟩, ?_⟩ | refine ⟨trivial, ?_⟩)) ?_ | refine reF (id := 10) (i := 0) 1 (by kernel_rfl) rfl ?_ | refine reF (id := 10) (i := 2) 1 (by kernel_rfl) rfl ?_ | (refine reV (id := 10) (i := 3) rfl rfl rfl rfl rfl rfl ?_ ?_; (first | exact True.intro | rfl | assumption | omega | (simp only [inR]; omega) | ((show _ ≤ (9223372036854775807 : Nat)); (try simp only [ByteArray.size_append]); omega) | exact tmod_ok (by omega) (by omega) | exact tdiv_ok (by omega) (by omega) | exact ⟨rfl, by decide, by decide⟩)) | (refine reV (id := 10) (i := 4) rfl rfl rfl rfl rfl rfl ?_ ?_; (first | exact True.intro | rfl | assumption | omega | (simp only [inR]; omega) | ((show _ ≤ (9223372036854775807 : Nat)); (try simp only [ByteArray.size_append]); omega) | exact tmod_ok (by omega) (by omega) | exact tdiv_ok (by omega) (by omega) | exact ⟨rfl, by decide, by decide⟩)) | (refine reV (id := 10) (i := 5) rfl rfl rfl rfl rfl rfl ?_ ?_; (first | exact True.intro | rfl | assumption | omega | (simp only [inR]; omega) | ((show _ ≤ (9223372036854775807 : Nat)); (try simp only [ByteArray.size_append]); omega) | exact tmod_ok (by omega) (by omega) | exact tdiv_ok (by omega) (by omega) | exact ⟨rfl, by decide, by decide⟩)) | refine reF (id := 10) (i := 6) 1 (by kernel_rfl) rfl ?_ | refine reN ?_ | refine yz ?_ | refine yc [] b83 (values_evS vs) ?_ | refine yc [1] b82 (hso) ?_ | refine reCallS [2] (id := 10) (i := 1) rfl rfl rfl rfl rfl (FnX.plain _) b84 (hco) rfl rfl rfl rfl rfl (by repeat (first | exact trivial | refine ⟨⟨rfl, rfl⟩, ?_⟩ | refine ⟨trivial, ?_⟩)) ?_ | exact zD)
    | false =>
     rw [c3] at htw
     simp only [cond_false]
     have hmz : List.replicate (vs.map D.str).length (D.bool false) = bL (marksN vs.length fun _ => false) := by rw [hlv]; exact marks_zero vs.length
     repeat' (first | refine qErT (id := 10) [1] [2] (by kernel_rfl) (by kernel_rfl) (by repeat (first | exact trivial | refine ⟨⟨rfl, rfl⟩, ?_⟩ | refine ⟨trivial, ?_⟩)) ?_ | refine reF (id := 10) (i := 0) 1 (by kernel_rfl) rfl ?_ | refine reF (id := 10) (i := 2) 1 (by kernel_rfl) rfl ?_ | (refine reV (id := 10) (i := 3) rfl rfl rfl rfl rfl rfl ?_ ?_; (first | exact True.intro | rfl | assumption | omega | (simp only [inR]; omega) | ((show _ ≤ (9223372036854775807 : Nat)); (try simp only [ByteArray.size_append]); omega) | exact tmod_ok (by omega) (by omega) | exact tdiv_ok (by omega) (by omega) | exact ⟨rfl, by decide, by decide⟩)) | (refine reV (id := 10) (i := 4) rfl rfl rfl rfl rfl rfl ?_ ?_; (first | exact True.intro | rfl | assumption | omega | (simp only [inR]; omega) | ((show _ ≤ (9223372036854775807 : Nat)); (try simp only [ByteArray.size_append]); omega) | exact tmod_ok (by omega) (by omega) | exact tdiv_ok (by omega) (by omega) | exact ⟨rfl, by decide, by decide⟩)) | (refine reV (id := 10) (i := 5) rfl rfl rfl rfl rfl rfl ?_ ?_; (first | exact True.intro | rfl | assumption | omega | (simp only [inR]; omega) | ((show _ ≤ (9223372036854775807 : Nat)); (try simp only [ByteArray.size_append]); omega) | exact tmod_ok (by omega) (by omega) | exact tdiv_ok (by omega) (by omega) | exact ⟨rfl, by decide, by decide⟩)) | refine reF (id := 10) (i := 6) 1 (by kernel_rfl) rfl ?_ | refine reN ?_ | refine yz ?_ | refine yc [] b83 (values_evS vs) ?_ | refine yc [1] b82 (hso) ?_ | refine reCallS [2] (id := 10) (i := 1) rfl rfl rfl rfl rfl (FnX.plain _) b84 (hco) rfl rfl rfl rfl rfl (by repeat (first | exact trivial | refine ⟨⟨rfl, rfl⟩, ?_⟩ | refine ⟨trivial, ?_⟩)) ?_ | (refine qS rfl ⟨rfl, by (show 1 * (vs.map D.str).length ≤ 281474976710656; rw [hlv]; omega), by (show (vs.map D.str).length ≤ _; rw [hlv]; omega)⟩ ?_))
     refine go_loop_ (α := SMk ats vs.length) (fun p => ⟨[(1, .ptr 0 0), (6, .own 4), (57, .d (.sl (ats.map encAT))), (58, .d (.int (ats.map encAT).length)), (59, .d (.int p.i))], [oCJ ⟨vs, ats⟩, oStrs vs, .dead, .row 9 1 (strL (Lib.compact (sortU (bytL vs)))), .row 4 1 (bL (marksN vs.length p.f))]⟩) (fun p => ats.length - p.i) ⟨0, fun _ => false, by omega, fun _ => rfl, rfl⟩ (by rw [← hmz]; exact (zle 5)) ?_
     rintro ⟨j, f, hj, hf, ok2⟩
     dsimp only at hf ok2 ⊢
     rcases Nat.lt_or_ge j ats.length with hlt2 | hge2
     ·have g4 : decide ((j : Int) < ((ats.map encAT).length : Int)) = true := by rw [hla]; simpa using hlt2
      have hx0 := List.getElem?_eq_getElem hlt2
      generalize ats[j] = a at hx0
      have hx := map_at (f := encAT) hx0
      have hn := anamed_ev a
      have hbd := bad_ok ok hx0
      have hmw := (fit_map ((hea a (List.mem_of_getElem? hx0)).aggs (intsD a.vs) (by simp))).1
      have hlw := iL_len a.vs
      rw [any_at hx0] at ok2
      cases c1 : namF28 a with
      | false =>
       rw [c1] at hn ok2
       rw [ok2]
       repeat' (first | refine yz ?_ | refine yi (encAT a) hx ?_ | refine yp b58 hn ?_ | exact zD)
      | true =>
       rw [c1] at hn ok2
       repeat' (first | refine yz ?_ | refine yi (encAT a) hx ?_ | refine yp b58 hn ?_)
       refine go_loop_ (α := SMv ats a j) (fun p => ⟨[(1, .ptr 0 0), (6, .own 4), (57, .d (.sl (ats.map encAT))), (58, .d (.int (ats.map encAT).length)), (59, .d (.int j)), (67, .d (.sl (iL a.vs))), (68, .d (.int (iL a.vs).length)), (69, .d (.int p.k))], [oCJ ⟨vs, ats⟩, oStrs vs, .dead, .row 9 1 (strL (Lib.compact (sortU (bytL vs)))), .row 4 1 (bL (marksN vs.length p.f))]⟩) (fun p => a.vs.length - p.k) ⟨0, f, by omega, fun x => by rw [hf x]; simp⟩ (zle 5) ?_
       rintro ⟨k, f2, hk, hf2⟩
       dsimp only at hf2 ⊢
       rcases Nat.lt_or_ge k a.vs.length with hlt3 | hge3
       ·have g5 : decide ((k : Int) < ((iL a.vs).length : Int)) = true := by rw [hlw]; simpa using hlt3
        have hy0 := List.getElem?_eq_getElem hlt3
        generalize a.vs[k] = y at hy0
        have hy := iL_get hy0
        obtain ⟨hy1, hy2⟩ := bad_vs hbd hy0
        have hlm : (bL (marksN vs.length f2)).length = vs.length := by simp [bL, marksN]
        have hgt := marks_get vs.length f2 y hy1 hy2
        have hms := marks_set vs.length f2 y hy1 hy2
        repeat' (first | refine yz ?_ | refine yi (.int y) hy ?_ | refine qZ (.bool (f2 y.toNat)) rfl rfl rfl rfl rfl rfl hgt rfl rfl rfl ?_)
        refine go_stop ?_
        refine ⟨⟨k + 1, fun x => f2 x || y == (x : Int), by omega, fun x => ?_⟩, by dsimp only; omega, by rw [← hms]; exact (zle 5)⟩
        rw [hf2 x, any_take hy0, Bool.or_assoc]
       ·have g5 : decide ((k : Int) < ((iL a.vs).length : Int)) = false := by rw [hlw]; simp; omega
        repeat' (refine yz ?_)
        refine go_stop ?_
        refine ⟨⟨j + 1, f2, by omega, fun x => ?_, by rw [ok2]; rfl⟩, by dsimp only; omega, (zle 5)⟩
        rw [hf2 x, usd_take hx0, List.take_of_length_le hge3]
     ·have g4 : decide ((j : Int) < ((ats.map encAT).length : Int)) = false := by rw [hla]; simp; omega
      rw [List.drop_eq_nil_of_le hge2, List.any_nil] at ok2
      rw [ok2]
      simp only [cond_false]
      have hcb := containsB_ev (marksN vs.length f) false
      rw [marks_any] at hcb
      have hff : f = fun x : Nat => usdF ats (x : Int) := by
       funext x
       rw [hf x, List.take_of_length_le hge2]
      rw [hff] at hcb ⊢
      cases c5 : (List.range vs.length).any fun j => !usdF ats j with
      | true =>
       rw [c5] at hcb
       repeat' (first | (refine go_frz 4 rfl ?_; dsimp only [frzT, frzX, frzO, frzC, List.map, List.set]) | refine yz ?_ | refine yp b85 hcb ?_ | exact zD)
      | false =>
       rw [c5] at hcb
       repeat' (first | (refine go_frz 4 rfl ?_; dsimp only [frzT, frzX, frzO, frzC, List.map, List.set]) | refine yz ?_ | refine yp b85 hcb ?_ | exact zD)
end Go.Proofs.YtenpjlghikohmaaGreatDoor
