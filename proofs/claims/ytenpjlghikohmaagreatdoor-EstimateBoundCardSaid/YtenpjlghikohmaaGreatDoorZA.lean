/- slices.Sorted over slices.Values: a new slice that holds the integers, sorted; slices.Sorted over slices.Values and slices.Compact at integers, as the engine's contracts; an atom's distinct variables; The distinct integers of a list in rising order: what both texts compute of an atom's variables; An atom's distinct variables, by both texts; the comparison of integers with themselves; Small atoms and conjunctive queries ats the statements' own text measures them; AtomsChecks, given its examples. Conditions: each part's own, as it says. -/
import Derived.Test.YtenpjlghikohmaaGreatDoorGC
import Derived.Test.YtenpjlghikohmaaGreatDoorGS
import Derived.Test.YtenpjlghikohmaaGreatDoorLA
import Derived.Sort.OwnSorted
import Derived.Lib.SlKeysI
import Derived.Shelf.AbstractIn
import Derived.RangeFuncBound
import Derived.OwnWalkIn
import Derived.TacticsInMore
import Derived.LoopNIn
import Derived.LoopIn
import Derived.WalkKit
import Derived.Test.YtenpjlghikohmaaGreatDoorLD
import Derived.Test.YtenpjlghikohmaaGreatDoorMB
set_option linter.unusedVariables false
set_option linter.unusedSimpArgs false
namespace Go.Proofs.YtenpjlghikohmaaGreatDoor
set_option maxRecDepth 4000
open Go Go.RowKit Go.Maps Go.Sort Go.Shelf Go.Proofs Go.Proofs.Tryz
attribute [local go_sem] Oper.semAt_some
def comeNZ (f : Nat → Int) (k : Nat) : List Int := (List.range k).map f
theorem comeN_succZ (f : Nat → Int) (k : Nat) : comeNZ f (k + 1) = comeNZ f k ++ [f k] := by simp [comeNZ, List.range_succ]
theorem comeN_lenZ (f : Nat → Int) (k : Nat) : (comeNZ f k).length = k := by simp [comeNZ]
set_option maxRecDepth 100000 in
set_option maxHeartbeats 2000000 in
theorem vals_inZ (n : Nat) (hn : 1 ≤ n) (l Bs b off len cap : Nat) (f : Nat → Int) (hreach : len * 8 ≤ 140737488351232) (J : List Int → World → Prop)
  (hY : ∀ pre x W, J pre W → pre.length < len → YieldAt Fence.wide (n - 1) Tryz.prog l #[encZ x] W fun e W' => e = .returned (.bool true) ∧ J (pre ++ [x]) W' ∧ KeepsWalks W W')
  (hc : ∀ pre W, J pre W → ∀ j, j < len → W.cell? ⟨b, off + j, none⟩ = some (encZ (f j)))
  (W : World) (hBs : W.cell? ⟨Bs, 0, none⟩ = some (.slice (some ⟨b, off, none⟩) len cap)) (h0 : J [] W) :
  CallsIn Fence.wide n Tryz.prog 228 #[.func (.yield l) #[] #[], .pointer (some ⟨Bs, 0, none⟩)] W fun e W' => (∃ v, e = .returned v) ∧ J (comeNZ f len) W' := by
 refine callsIn_of_wp func228 rfl trivial ?_ rfl
 simp only [ntmps228, List.size_toArray, List.length_cons, List.length_nil, Nat.reduceAdd, Nat.reduceSub, Array.replicate_succ, Array.replicate_zero, List.push_toArray, List.append_toArray, List.nil_append, List.cons_append]
 gi_wp2
 gi_loopw [7] (fun i wr => ∃ k : Nat, k ≤ len ∧ i = .int .i64 k ∧ J (comeNZ f k) wr)
  (fun i _ => len - (intOf i).toNat)
 case atStart => exact ⟨0, Nat.zero_le _, rfl, h0⟩
 case round =>
  obtain ⟨k, hk, rfl, hJs⟩ := hrel
  have hcx : k < len → wr.cell? ⟨b, off + k, none⟩ = some (encZ (f k)) := fun h => hc _ _ hJs k h
  by_cases hlt : k < len
  ·obtain ⟨fn, tmps, assign, body, hy, hR⟩ := hY _ (f k) wr hJs (by rw [comeN_lenZ]; exact hlt)
   have hcx' := hcx hlt
   gi_wp2
   refine hR.mono ?_
   rintro e W3 ⟨rfl, hJ3, hk3⟩
   gi_wp2
   go_roundw
   case rel => exact ⟨k + 1, by omega, by simp, by rw [comeN_succZ]; exact hJ3⟩
   case measure => simp [intOf]; omega
  ·obtain rfl : k = len := by omega
   gi_wp2
   go_end0
   exact ⟨⟨_, rfl⟩, hJs⟩
set_option maxRecDepth 100000 in
set_option maxHeartbeats 2000000 in
theorem vals0_inZ (n : Nat) (l Bs : Nat) (p : Option Addr) (cap : Nat) (J : List Int → World → Prop) (W : World) (hBs : W.cell? ⟨Bs, 0, none⟩ = some (.slice p 0 cap)) (h0 : J [] W) :
  CallsIn Fence.wide n Tryz.prog 228 #[.func (.yield l) #[] #[], .pointer (some ⟨Bs, 0, none⟩)] W fun e W' => (∃ v, e = .returned v) ∧ J [] W' := by
 refine callsIn_of_wp func228 rfl trivial ?_ rfl
 simp only [ntmps228, List.size_toArray, List.length_cons, List.length_nil, Nat.reduceAdd, Nat.reduceSub, Array.replicate_succ, Array.replicate_zero, List.push_toArray, List.append_toArray, List.nil_append, List.cons_append]
 gi_wp2
 gi_loopw [7] (fun i wr => i = .int .i64 0 ∧ J [] wr) (fun _ _ => 0)
 case atStart => exact ⟨rfl, h0⟩
 case round =>
  obtain ⟨rfl, hJs⟩ := hrel
  gi_wp2
  go_end0
  exact ⟨⟨_, rfl⟩, hJs⟩
def GivesBZ (n : Nat) (Bs : Nat) (ss : List Int) (w : World) : Prop :=
 ∀ (l : Nat) (J : List Int → World → Prop) (W : World), Below w.heap.size w W → (∀ pre W', J pre W' → Below w.heap.size w W') →
  (∀ pre x W1, J pre W1 → pre.length < ss.length → YieldAt Fence.wide (n - 1) Tryz.prog l #[encZ x] W1 fun e W' => e = .returned (.bool true) ∧ J (pre ++ [x]) W' ∧ KeepsWalks W1 W') → J [] W →
  CallsIn Fence.wide n Tryz.prog 228 #[.func (.yield l) #[] #[], .pointer (some ⟨Bs, 0, none⟩)] W fun e W' => (∃ v, e = .returned v) ∧ J ss W'
theorem comeN_allZ (ss : List Int) : comeNZ (fun j => ss[j]?.getD 0) ss.length = ss := by
 apply List.ext_getElem
 ·simp [comeNZ]
 ·intro i h1 h2
  simp [comeNZ, h2]
theorem gives_ofZ {w : World} {Bs b off cap n : Nat} {ss : List Int} (hn : 1 ≤ n) (hBl : Bs < w.heap.size) (hb : b < w.heap.size) (hreach : ss.length * 8 ≤ 140737488351232) (hBs : w.cell? ⟨Bs, 0, none⟩ = some (.slice (some ⟨b, off, none⟩) ss.length cap))
  (hc : ∀ j, j < ss.length → w.cell? ⟨b, off + j, none⟩ = some (encZ (ss[j]?.getD 0))) : GivesBZ n Bs ss w := by
 intro l J W hW hJ hY h0
 have := vals_inZ n hn l Bs b off ss.length cap (fun j => ss[j]?.getD 0) hreach J hY (fun pre W' hj j hlt => ((hJ pre W' hj).cell (p := ⟨b, off + j, none⟩) hb).trans (hc j hlt)) W ((hW.cell (p := ⟨Bs, 0, none⟩) hBl).trans hBs) h0
 rwa [comeN_allZ] at this
theorem gives_nilZ {w : World} {Bs cap n : Nat} {p : Option Addr} (hBl : Bs < w.heap.size) (hBs : w.cell? ⟨Bs, 0, none⟩ = some (.slice p 0 cap)) : GivesBZ n Bs [] w :=
 fun l J W hW _ _ h0 => vals0_inZ n l Bs p cap J W ((hW.cell (p := ⟨Bs, 0, none⟩) hBl).trans hBs) h0
set_option maxRecDepth 100000 in
set_option maxHeartbeats 2000000 in
theorem app_inZ (n : Nat) (hn : 2 ≤ n) (Bs : Nat) (ss : List Int) (hN : ss.length ≤ maxLen) (hNb : ss.length * 8 ≤ 140737488355328) (w : World) (hseq : GivesBZ (n - 1) Bs ss w) :
    CallsIn Fence.wide n Tryz.prog 304 #[.slice none 0 0, .func (.func 228) #[] #[.pointer (some ⟨Bs, 0, none⟩)]] w fun e w' => ∃ (v : Value), e = .returned v ∧ w'.ownsRow w.heap.size 3 1 v ss.length (ss.map encZ) ∧ (v = .slice none 0 0 ↔ ss = []) ∧ Below w.heap.size w w' := by
  have L := Tryz.sorted58i
  have h1 : 1 ≤ n := by omega
  refine callsIn_of_wp_marks func304 rfl trivial ?_ rfl
  simp only [ntmps304, List.size_toArray, List.length_cons, List.length_nil, Nat.reduceAdd, Nat.reduceSub, Array.replicate_succ, Array.replicate_zero, List.push_toArray, List.append_toArray, List.nil_append, List.cons_append]
  gi_wp2
  refine wpIn_rangeFunc ?_
  intro fn hfn
  obtain ⟨sv, hsv⟩ : ∃ sv : Value, sv = .func (.func 228) #[] #[.pointer (some ⟨Bs, 0, none⟩)] := ⟨_, rfl⟩
  obtain ⟨W0, hW0⟩ : ∃ W0, w.alloc (.cells #[.slice none 0 0] 46) = W0 := ⟨_, rfl⟩
  have hs0 : W0.heap.size = w.heap.size + 1 := by rw [← hW0]; simp
  have hv0 : W0.heap[w.heap.size]? = some (.cells #[.slice none 0 0] 46 (0, 0)) := by rw [← hW0]; exact World.alloc_heap_new w _
  have hb0 : Below w.heap.size w W0 := by rw [← hW0]; exact (Below.refl _ w).alloc (Nat.le_refl _) _
  rw [hW0]
  obtain ⟨W1, hW1⟩ : ∃ W1, (W0.alloc (.deferred (some []))).alloc (.loop (AnyZI.apRec Tryz.sorted58i_ren fn sv w.heap.size W0.heap.size .ready none)) = W1 := ⟨_, rfl⟩
  have hold : ∀ k, k < W0.heap.size → W1.heap[k]? = W0.heap[k]? := fun k hk => by
    rw [← hW1]; exact (Below.heap_alloc _ _ k (by simp; omega)).trans (Below.heap_alloc _ _ k hk)
  have hb1 : Below w.heap.size w W1 := by rw [← hW1]; exact (hb0.alloc hb0.size _).alloc (by have := hb0.size; simp; omega) _
  have hs1 : W1.heap.size = W0.heap.size + 2 := by rw [← hW1]; simp
  have hM : AnyZI.ApAt Tryz.sorted58i_ren w fn sv w.heap.size (W0.heap.size + 1) W0.heap.size [] W1 :=
    ⟨⟨_, (hold w.heap.size (by omega)).trans hv0, ⟨rfl, .inl ⟨rfl, rfl⟩⟩, by simp⟩,
     by rw [← hW1]; have := World.alloc_heap_new (W0.alloc (.deferred (some []))) (.loop (AnyZI.apRec Tryz.sorted58i_ren fn sv w.heap.size W0.heap.size .ready none)); rwa [World.size_alloc] at this,
     by rw [← hW1]; exact (Below.heap_alloc _ _ _ (by simp)).trans (World.alloc_heap_new W0 _), hb1⟩
  refine ⟨W0.heap.size + 1, [{ target := .collected W0.heap.size, args := #[] }], W1, { target := .fn (.func 228) #[.pointer (some ⟨Bs, 0, none⟩)], args := #[.func (.yield (W0.heap.size + 1)) #[] #[]] }, W1, 228,
    #[.func (.yield (W0.heap.size + 1)) #[] #[]] ++ #[.pointer (some ⟨Bs, 0, none⟩)], W1, ?_, ?_, ?_, ?_, fun _ => h1, ?_⟩
  · rw [← hW1, hsv]; exact run_enterLoop_outer _ _ _ _ _
  · simp [resolve, go_sem]
  · intro f' hf'; trivial
  · simp [invoke, go_sem, enters_of func228 (by kernel_rfl) rfl]
  · refine (hseq (W0.heap.size + 1) (AnyZI.ApAt Tryz.sorted58i_ren w fn sv w.heap.size (W0.heap.size + 1) W0.heap.size) W1 hb1 (fun pre W' h => h.below)
      (fun pre x W hJ hl => AnyZI.apYield { L with } Fence.wide (n - 1 - 1) w fn trivial sv w.heap.size (W0.heap.size + 1) W0.heap.size (by omega) (by omega) (by omega) (Nat.le_refl _) (by omega) ss.length hN hNb pre x W hJ hl) hM).mono ?_
    rintro e W2 ⟨⟨v0, rfl⟩, h2⟩
    obtain ⟨v, hv, hrow, hnil⟩ := h2.box
    have hend := run_endLoop (P := Tryz.prog) h2.L (by simp [AnyZI.apRec])
    obtain ⟨W3, hW3⟩ : ∃ W3, W2.putObj (W0.heap.size + 1) (.loop { AnyZI.apRec Tryz.sorted58i_ren fn sv w.heap.size W0.heap.size .ready none with state := .exhausted }) = W3 := ⟨_, rfl⟩
    rw [hW3] at hend
    have hg3 : W2.grownBy W3 (some (W0.heap.size + 1)) := by rw [← hW3]; exact grownBy_putObj_a _ _ _
    have hv3 : W3.heap[w.heap.size]? = some (.cells #[v] 46 (0, 0)) := by rw [← hW3]; exact (World.putObj_heap_other (by omega)).trans hv
    have hK3 : W3.heap[W0.heap.size]? = some (.deferred (some [])) := by rw [← hW3]; exact (World.putObj_heap_other (by omega)).trans h2.K
    have hrow3 := hrow.kept hg3 (ownsRow_ne_a hrow h2.L (fun cur e => by cases e))
    have hb3 : Below w.heap.size w W3 := h2.below.grown hg3 h2.below.size (fun k e => by cases e; omega)
    obtain ⟨hc3, hf3⟩ := cell_of_box_a hv3
    clear hW3
    refine ⟨none, W3, hend, ?_⟩
    gi_wp2
    rw [← hs0]
    refine ⟨by simp, .inl ⟨_, _, rfl, run_takeDeferred hK3, ?_⟩⟩
    exact ⟨_, results_tmp rfl _ _ _, v, rfl, hrow3.kept (grownBy_putObj_a _ _ _) (ownsRow_ne_a hrow3 hK3 (fun cur e => by cases e)), hnil, hb3.grown (grownBy_putObj_a _ _ _) hb3.size (fun k e => by cases e; omega)⟩
set_option maxHeartbeats 1000000 in
theorem col_inZ (n : Nat) (hn : 3 ≤ n) (Bs : Nat) (ss : List Int) (hN : ss.length ≤ maxLen) (hNb : ss.length * 8 ≤ 140737488355328) (w : World) (hseq : GivesBZ (n - 1 - 1) Bs ss w) :
  CallsIn Fence.wide n Tryz.prog 226 #[.func (.func 228) #[] #[.pointer (some ⟨Bs, 0, none⟩)]] w fun e w' => ∃ (v : Value), e = .returned v ∧ w'.ownsRow w.heap.size 3 1 v ss.length (ss.map encZ) ∧ (v = .slice none 0 0 ↔ ss = []) ∧ Below w.heap.size w w' := by
 have h1 : 1 ≤ n := by omega
 have hfS : Fence.wide.fn 304 := trivial
 refine callsIn_of_wp func226 rfl trivial ?_ rfl
 simp only [ntmps226, List.size_toArray, List.length_cons, List.length_nil, Nat.reduceAdd, Nat.reduceSub, Array.replicate_succ, Array.replicate_zero, List.push_toArray, List.append_toArray, List.nil_append, List.cons_append]
 gi_wp2_with (gi_at_call 304; refine (app_inZ (n - 1) (by omega) Bs ss hN hNb _ hseq).mono ?_; rintro e w' ⟨v, rfl, hrow, hnil, hb⟩)
 go_ret
 exact ⟨v, rfl, hrow, hnil, hb⟩
set_option maxRecDepth 100000 in
set_option maxHeartbeats 2000000 in
theorem sorted_in2Z (n : Nat) (hn : 4 ≤ n) (Bs : Nat) (ss : List Int) (hN : ss.length ≤ maxLen) (hNb : ss.length * 8 ≤ 140737488355328) (w : World) (hseq : GivesBZ (n - 1 - 1 - 1) Bs ss w) :
  CallsIn Fence.wide n Tryz.prog 139 #[.func (.func 228) #[] #[.pointer (some ⟨Bs, 0, none⟩)]] w fun e w' => ∃ (v : Value), e = .returned v ∧
   w'.ownsRow w.heap.size 3 1 v ss.length ((ss.mergeSort (fun x y => decide (x ≤ y))).map encZ) ∧ (v = .slice none 0 0 ↔ ss = []) ∧ Below w.heap.size w w' := by
 have h1 : 1 ≤ n := by omega
 have hfC : Fence.wide.fn 226 := trivial
 have hfS : Fence.wide.fn 227 := trivial
 refine callsIn_of_wp func139 rfl trivial ?_ rfl
 simp only [ntmps139, List.size_toArray, List.length_cons, List.length_nil, Nat.reduceAdd, Nat.reduceSub, Array.replicate_succ, Array.replicate_zero, List.push_toArray, List.append_toArray, List.nil_append, List.cons_append]
 gi_wp2_with (gi_at_call 226; refine (col_inZ (n - 1) (by omega) Bs ss hN hNb _ hseq).mono ?_; rintro e W ⟨v, rfl, hrow, hnil, hb⟩)
 rcases hrow.2 with ⟨rfl, hz⟩ | ⟨gb, cap, cur, rfl, hbase, hgb, r1, r2, r3, r4⟩
 ·have hss : ss = [] := List.eq_nil_of_length_eq_zero hz
  subst hss
  gi_wp2_with (gi_at_call 227; refine (callsIn_wide.2 (Tryz.slices_Sort_int_none none 0 W)).mono ?_; rintro e w' ⟨rfl, rfl⟩)
  go_ret
  exact ⟨.slice none 0 0, rfl, by simpa using hrow, by simp, hb⟩
 ·have hH : Holds encZ W gb 0 ss.toArray := holds_of_block_i hgb (by simpa using r4)
  have hgl : gb < W.heap.size := (Array.getElem?_eq_some_iff.1 hgb).1
  have hsz : ss.length < 4611686018427387904 := by omega
  have cS := Tryz.slices_Sort_int gb 0 cap ss W hH hgl hsz
  gi_wp2_with (gi_at_call 227; refine (callsIn_wide.2 cS).mono ?_; rintro e w' ⟨rfl, nn, os, rfl⟩)
  go_ret
  exact ⟨_, rfl, ownsRow_sorted_i (by simp) hbase hgb r1 r2 r3, hnil, hb.grown (grownBy_sorted_i _) hb.size (fun j hj => by cases hj; exact hbase)⟩
theorem sorted_callsZ (Bs : Nat) (ss : List Int) (hN : ss.length ≤ maxLen) (hNb : ss.length * 8 ≤ 140737488355328) (w : World) (hseq : GivesBZ 2 Bs ss w) :
  Calls Tryz.prog 139 #[.func (.func 228) #[] #[.pointer (some ⟨Bs, 0, none⟩)]] w fun e w' => ∃ (v : Value), e = .returned v ∧
   w'.ownsRow w.heap.size 3 1 v ss.length ((ss.mergeSort (fun x y => decide (x ≤ y))).map encZ) ∧ (v = .slice none 0 0 ↔ ss = []) ∧ Below w.heap.size w w' :=
 callsIn_wide.1 (sorted_in2Z 5 (by omega) Bs ss hN hNb w hseq)
end Go.Proofs.YtenpjlghikohmaaGreatDoor
namespace Go.Proofs.YtenpjlghikohmaaGreatDoor
set_option maxRecDepth 4000
open Go Go.Abs Go.Val Go.RowKit Go.Sort Go.Proofs Go.Proofs.Tryz
abbrev oIntZ (l : List Int) : AObj := .var 46 (.w (.d (.sl (l.map .int))))
def intL (l : List Int) : List D := l.map D.int
theorem intL_cells (l : List Int) : (∀ x ∈ intL l, x.cells.length = 1) ∧ ∀ x ∈ intL l, ∀ c ∈ x.cells, c.one = true := by
 constructor
 ·intro x hx
  obtain ⟨u, -, rfl⟩ := List.mem_map.1 hx
  rfl
 ·intro x hx c hc
  obtain ⟨u, -, rfl⟩ := List.mem_map.1 hx
  rw [show (D.int u).cells = [D.int u] from rfl, List.mem_singleton] at hc
  subst hc
  rfl
theorem intL_rd {w : World} {F : Nat → Prop} {l : List Int} (hl : ∀ b ∈ l, Go.Abs.okV (.int .i64 b) = true) : ∀ (i : Nat) (x : D) (j : Nat) (cd : D), (intL l)[i]? = some x → x.cells[j]? = some cd → ∃ v, (l.map encZ)[i * 1 + j]? = some v ∧ Rd w F cd v := by
 intro i x j cd hx hc
 rw [intL, List.getElem?_map, Option.map_eq_some_iff] at hx
 obtain ⟨b, hb, rfl⟩ := hx
 rw [show (D.int b).cells = [D.int b] from rfl] at hc
 cases j with
 | zero =>
  simp at hc
  subst hc
  exact ⟨_, by rw [Nat.mul_one, Nat.add_zero, List.getElem?_map, hb]; rfl, Rd.imm _ (hl b (List.mem_of_getElem? hb))⟩
 | succ j => simp at hc
def sortZ (l : List Int) : List Int := l.mergeSort fun x y => decide (x ≤ y)
theorem sortedZ_evS (l : List Int) (hne : l ≠ []) (hsz : l.length ≤ 1000000) : EvS E 139 [.clo 228 [.ptr 0 0]] [oIntZ l] (.own 1) [oIntZ l, .row 3 1 (intL (sortZ l))] := by
 intro w F σ vs hi hl hr
 match vs, hl with
 | [v0], _ =>
  obtain ⟨us, rfl, ul, ur⟩ := hr 0 _ _ rfl rfl
  match us, ul with
  | [u0], _ =>
   obtain ⟨b, c, n, e1, rfl⟩ := ur 0 _ _ rfl rfl
   obtain ⟨cs, g1, g2, g3, g4, g5, g6⟩ := hi.obs 0 _ _ rfl e1
   match cs, g2 with
   | [sv], _ =>
    have hrd : Rd w F (.sl (l.map .int)) sv := g4 0 (.d (.sl (l.map .int))) sv rfl rfl
    have hσ : σ.length = 1 := hi.len
    rcases Rd.sl_inv hrd with ⟨h0, -⟩ | ⟨size, ad, cap, rfl, h1, h2, h3, h4, h5, h6⟩
    ·exact absurd (by simpa using h0) hne
    ·have hsize : size = 1 := by
      obtain ⟨s, r, rfl⟩ := List.exists_cons_of_ne_nil hne
      exact (h4 (.int s) (by simp)).symm
     subst hsize
     have hcell : ∀ j, j < l.length → w.cell? (ad.add j) = some (encZ (l[j]?.getD 0)) := by
      intro j hj
      obtain ⟨u, q1, q2⟩ := h6 j (.int l[j]) 0 (.int l[j]) (by simp [hj]) rfl
      rw [Nat.mul_one, Nat.add_zero] at q1
      rw [q1, (Rd.imm_inv q2).1]
      simp [hj]
     have hlp : 0 < l.length := List.length_pos_iff.2 hne
     have hsp : ad.spot = none := spot_none (by have := hcell 0 hlp; rwa [show ad.add 0 = ad from rfl] at this)
     obtain ⟨ab, ao, asp⟩ := ad
     simp only at hsp
     subst hsp
     have hbl : b < w.heap.size := (Array.getElem?_eq_some_iff.1 g1).1
     have hab : ab < w.heap.size := hi.flt ab (h3 (by simpa using hne))
     have hG : GivesBZ 2 b l w := by
      refine gives_ofZ (off := ao) (b := ab) (cap := cap) (by omega) hbl hab (by omega) ?_ fun j hj => ?_
      ·simp only [World.cell?, g1]
       simp
      ·have := hcell j (by omega)
       rwa [add_mk] at this
     refine (sorted_callsZ b l (by unfold maxLen; omega) (by omega) w hG).mono ?_
     rintro e w' ⟨v, rfl, hrow, hnil, hb⟩
     have hv : v ≠ .slice none 0 0 := fun h => hne (hnil.1 h)
     have hblk : ∀ k, v.ownBlock = some k → w.heap.size ≤ k := fun k hk => (hrow.lt k hk).1
     obtain ⟨zc1, zc2⟩ := intL_cells (sortZ l)
     have hin : ∀ z ∈ sortZ l, Go.Abs.okV (.int .i64 z) = true := by
      intro z hz
      have hz' : z ∈ l := (List.mergeSort_perm _ _).mem_iff.1 hz
      obtain ⟨j, hj⟩ := List.getElem?_of_mem hz'
      obtain ⟨u, -, q2⟩ := h6 j (.int z) 0 (.int z) (by simp [hj]) rfl
      exact (Rd.imm_inv q2).2
     obtain ⟨g, cp, rfl, hob⟩ := owns_row (F := F) (σ := σ) (B := Held w [oIntZ l] σ) (xs := intL (sortZ l)) (ownsRow_base_a hrow (Nat.zero_le _)) (fun k hk hh => by have := hblk k hk; have := hh.1; omega) hv (by simp [intL, sortZ]) zc1 zc2 (intL_rd hin)
      (fun k hk hf => by have := hblk k hk; have := hi.flt k hf; omega)
     have hge := hblk g rfl
     have hob2 : ObOK w' F (σ ++ [(g, cp, l.length)]) (Held w [oIntZ l] σ) (.row 3 1 (intL (sortZ l))) (g, cp, l.length) := hob.mono (fun _ h => h) (fun _ _ => rfl) σ_app (fun _ => rfl) fun _ h => h
     refine ⟨_, F, σ ++ [(g, cp, l.length)], rfl, Kept.of_below hb fun k hk => hk.1, fun _ h => h, fun _ h => .inl h, fun i p hi hp => σ_app _ _ hp, ?_, ⟨g, cp, l.length, by rw [List.getElem?_append_right (by omega), hσ]; rfl, rfl⟩⟩
     exact (WInv.lend hi).regrow (ob0 := [oIntZ l]) (row := none) (fun o x hx hl => ⟨hx, fun p hp => by simp⟩) rfl (grown_none hb) (fun k hk => by cases hk) _ g cp _ (.inr hge) hob2
theorem sorted0Z_evS : EvS E 139 [.clo 228 [.ptr 0 0]] [oIntZ []] .nilS [oIntZ []] := by
 intro w F σ vs hi hl hr
 match vs, hl with
 | [v0], _ =>
  obtain ⟨us, rfl, ul, ur⟩ := hr 0 _ _ rfl rfl
  match us, ul with
  | [u0], _ =>
   obtain ⟨b, c, n, e1, rfl⟩ := ur 0 _ _ rfl rfl
   obtain ⟨cs, g1, g2, g3, g4, g5, g6⟩ := hi.obs 0 _ _ rfl e1
   match cs, g2 with
   | [sv], _ =>
    have hrd : Rd w F (.sl (([] : List Int).map .int)) sv := g4 0 (.d (.sl (([] : List Int).map .int))) sv rfl rfl
    have hbl : b < w.heap.size := (Array.getElem?_eq_some_iff.1 g1).1
    obtain ⟨p, cap, rfl⟩ : ∃ p cap, sv = .slice p 0 cap := by
     rcases Rd.sl_inv hrd with ⟨-, rfl⟩ | ⟨size, ad, cap, rfl, -⟩
     ·exact ⟨_, _, rfl⟩
     ·exact ⟨_, _, rfl⟩
    have hG : GivesBZ 2 b [] w := gives_nilZ (p := p) (cap := cap) hbl (by simp only [World.cell?, g1]; simp)
    refine (sorted_callsZ b [] (by decide) (by decide) w hG).mono ?_
    rintro e w' ⟨v, rfl, hrow, hnil, hb⟩
    have hv : v = .slice none 0 0 := hnil.2 rfl
    exact ⟨_, F, σ, rfl, Kept.of_below hb fun k hk => hk.1, fun _ h => h, fun _ h => .inl h, fun i p hi hp => hp, (WInv.lend hi).ext (Ext.of_below hb hi.flt), hv⟩
theorem compactZ_len (zs : List Int) : (Lib.compact zs).length ≤ zs.length := by
 unfold Lib.compact Lib.compactUpTo
 rw [List.length_map]
 refine Nat.le_trans (List.length_filter_le _ _) ?_
 simp
theorem compactZ_evS (zs : List Int) (hin : ∀ z ∈ zs, Go.Abs.okV (.int .i64 z) = true) : EvS E 138 [.own 0] [.row 3 1 (intL zs)] (.own 1) [.dead, .row 3 1 (intL (Lib.compact zs))] := by
 intro w F σ vs hi hl hr
 match vs, hl with
 | [v0], _ =>
  obtain ⟨b, c, n, e1, rfl⟩ := hr 0 _ _ rfl rfl
  have hσ : σ.length = 1 := hi.len
  obtain ⟨cs, g1, g2, g3, g4, g5, g6, g7, g8, g9, g10⟩ := hi.obs 0 _ _ rfl e1
  have hn : n = zs.length := by rw [g3]; simp [intL]
  subst hn
  have ht : cs.take zs.length = zs.map encZ := by
   refine List.ext_getElem? fun j => ?_
   rcases Nat.lt_or_ge j zs.length with hj | hj
   ·obtain ⟨v, q1, q2⟩ := g8 j (.int zs[j]) 0 (.int zs[j]) (by simp [intL, hj]) rfl
    rw [Nat.mul_one, Nat.add_zero] at q1
    rw [List.getElem?_take_of_lt hj, q1, (Rd.imm_inv q2).1]
    simp [hj]
   ·rw [List.getElem?_eq_none (by rw [List.length_take]; omega), List.getElem?_eq_none (by simpa using hj)]
  have hH : Holds encZ w b 0 zs.toArray := holds_of_block_i g1 (by simpa using ht)
  have hmx : maxLen = 9223372036854775807 := rfl
  refine (Tryz.slices_Compact_int b 0 c zs w hH (by omega) g4).mono ?_
  rintro e w' ⟨rfl, q, rfl⟩
  have hkl := compactZ_len zs
  have hdl : (Lib.compact zs ++ List.replicate (zs.length - (Lib.compact zs).length) 0).length = zs.length := by simp; omega
  have hhp := heap_sorted_i (n := q) (os := #[]) (Lib.compact zs ++ List.replicate (zs.length - (Lib.compact zs).length) 0).toArray g1
  rw [grow_empty] at hhp
  have hgb := grownBy_sorted_i (w := w) (g := b) (n := q) (os := #[]) (Lib.compact zs ++ List.replicate (zs.length - (Lib.compact zs).length) 0).toArray
  rw [grow_empty] at hgb
  have htk := take_putCells_i cs.toArray (Lib.compact zs ++ List.replicate (zs.length - (Lib.compact zs).length) 0) (by rw [hdl]; simp; omega)
  have hin2 : ∀ z ∈ Lib.compact zs, Go.Abs.okV (.int .i64 z) = true := by
   intro z hz
   unfold Lib.compact Lib.compactUpTo at hz
   obtain ⟨j, hj, rfl⟩ := List.mem_map.1 hz
   have hjl : j < zs.length := by simpa using (List.mem_filter.1 hj).1
   have : zs.toArray[j]! = zs[j] := by rw [getElem!_pos _ j (by simpa using hjl)]; simp
   rw [this]
   exact hin _ (List.getElem_mem hjl)
  obtain ⟨zc1, zc2⟩ := intL_cells (Lib.compact zs)
  have hlb : ¬ Held w [.row 3 1 (intL zs)] σ b := fun hh => hh.2 ⟨0, _, _, rfl, rfl, e1, rfl⟩
  have hFb : ¬ F b := g10
  have hob : ObOK (putRow encZ (Sort.ahead w q) b 0 (Lib.compact zs ++ List.replicate (zs.length - (Lib.compact zs).length) 0).toArray) F (σ ++ [(b, c, (Lib.compact zs).length)]) (Held w [.row 3 1 (intL zs)] σ) (.row 3 1 (intL (Lib.compact zs))) (b, c, (Lib.compact zs).length) := by
   refine ⟨(putCells encZ 0 (Lib.compact zs ++ List.replicate (zs.length - (Lib.compact zs).length) 0).toArray cs.toArray).toList, by simpa using hhp, by simp [putCells, g2], by simp [intL], by omega, g5, zc1, zc2, fun i x j cd hx hc => ?_, hlb, hFb⟩
   obtain ⟨v, r1, r2⟩ := intL_rd (w := putRow encZ (Sort.ahead w q) b 0 (Lib.compact zs ++ List.replicate (zs.length - (Lib.compact zs).length) 0).toArray) (F := F) hin2 i x j cd hx hc
   refine ⟨v, ?_, r2⟩
   have hlt : i * 1 + j < (Lib.compact zs).length := by simpa using (List.getElem?_eq_some_iff.1 r1).1
   have h1 := congrArg (fun l => l[i * 1 + j]?) htk
   rw [List.getElem?_take_of_lt (by omega), List.map_append, List.getElem?_append_left (by simpa using hlt)] at h1
   rw [h1, r1]
  refine ⟨_, F, σ ++ [(b, c, (Lib.compact zs).length)], rfl, ⟨hgb.os, hgb.tape, hgb.output, hgb.size, fun k hk => hgb.block k hk.1 (fun e => hlb (by cases e; exact hk)), fun k hk => hk.1⟩, fun _ h => h, fun _ h => .inl h, fun i p hi hp => σ_app _ _ hp, ?_, ⟨b, c, (Lib.compact zs).length, by rw [List.getElem?_append_right (by omega), hσ]; rfl, rfl⟩⟩
  exact (WInv.lend hi).regrow (ob0 := [.dead]) (row := some b) (fun o x hx hl => by
   cases o with
   | zero => simp at hx; subst hx; cases hl
   | succ o => simp at hx) rfl hgb (fun k hk => by cases hk; exact hFb) _ b c _ (.inl rfl) hob
end Go.Proofs.YtenpjlghikohmaaGreatDoor
namespace Go.Proofs.YtenpjlghikohmaaGreatDoor
set_option maxRecDepth 4000
open Go Go.Abs Go.Val Go.RowKit Go.Proofs.Tryz
def rz (l : List Int) : Prop := l.Pairwise (· < ·)
def insG (x : Int) : Bool → List Int → List Int
 | d, [] => bif d then [] else [x]
 | d, y :: r => let d1 := d || y == x
  bif decide (y > x) && !d1 then x :: y :: insG x true r else y :: insG x d1 r
def insZ (l : List Int) (x : Int) : List Int := insG x false l
def vrsF (l : List Int) : List Int := l.foldl insZ []
theorem insG_true (x : Int) : ∀ l : List Int, insG x true l = l
 | [] => rfl
 | y :: r => by
  have h := insG_true x r
  unfold insG
  dsimp only
  rw [Bool.true_or, Bool.not_true, Bool.and_false, cond_false, h]
theorem insG_mem (x : Int) : ∀ l : List Int, ∀ z, z ∈ insG x false l ↔ z = x ∨ z ∈ l
 | [], z => by simp [insG]
 | y :: r, z => by
  unfold insG
  dsimp only
  rw [Bool.false_or]
  cases h1 : y == x with
  | true =>
   have e : y = x := by simpa using h1
   rw [Bool.not_true, Bool.and_false, cond_false, insG_true]
   subst e
   simp
  | false =>
   rw [Bool.not_false, Bool.and_true]
   cases h2 : decide (y > x) with
   | true =>
    rw [cond_true, insG_true]
    simp
   | false =>
    rw [cond_false, List.mem_cons, insG_mem x r z, List.mem_cons]
    constructor
    ·rintro (h | h | h)
     ·exact .inr (.inl h)
     ·exact .inl h
     ·exact .inr (.inr h)
    ·rintro (h | h | h)
     ·exact .inr (.inl h)
     ·exact .inl h
     ·exact .inr (.inr h)
theorem insG_rz (x : Int) : ∀ l : List Int, rz l → rz (insG x false l)
 | [], _ => by simp [insG, rz]
 | y :: r, h => by
  have hc := List.pairwise_cons.1 h
  unfold insG
  dsimp only
  rw [Bool.false_or]
  cases h1 : y == x with
  | true =>
   rw [Bool.not_true, Bool.and_false, cond_false, insG_true]
   exact h
  | false =>
   have hne : y ≠ x := by simpa using h1
   rw [Bool.not_false, Bool.and_true]
   cases h2 : decide (y > x) with
   | true =>
    have h2' : y > x := by simpa using h2
    rw [cond_true, insG_true]
    refine List.pairwise_cons.2 ⟨fun z hz => ?_, h⟩
    rcases List.mem_cons.1 hz with rfl | hz
    ·exact h2'
    ·exact Int.lt_trans h2' (hc.1 z hz)
   | false =>
    have h2' : ¬ y > x := by simpa using h2
    rw [cond_false]
    refine List.pairwise_cons.2 ⟨fun z hz => ?_, insG_rz x r hc.2⟩
    rcases (insG_mem x r z).1 hz with rfl | hz
    ·omega
    ·exact hc.1 z hz
theorem vrs_gen : ∀ (l acc : List Int), rz acc → rz (l.foldl insZ acc) ∧ ∀ z, z ∈ l.foldl insZ acc ↔ z ∈ l ∨ z ∈ acc
 | [], acc, h => ⟨h, fun z => by simp⟩
 | x :: r, acc, h => by
  obtain ⟨h1, h2⟩ := vrs_gen r (insZ acc x) (insG_rz x acc h)
  rw [List.foldl_cons]
  refine ⟨h1, fun z => ?_⟩
  rw [h2 z, show insZ acc x = insG x false acc from rfl, insG_mem, List.mem_cons]
  constructor
  ·rintro (h | h | h)
   ·exact .inl (.inr h)
   ·exact .inl (.inl h)
   ·exact .inr h
  ·rintro ((h | h) | h)
   ·exact .inr (.inl h)
   ·exact .inl h
   ·exact .inr (.inr h)
theorem vrs_rz (l : List Int) : rz (vrsF l) := (vrs_gen l [] List.Pairwise.nil).1
theorem vrs_mem (l : List Int) (z : Int) : z ∈ vrsF l ↔ z ∈ l := by
 have := (vrs_gen l [] List.Pairwise.nil).2 z
 unfold vrsF
 simpa using this
theorem rz_ext : ∀ (a b : List Int), rz a → rz b → (∀ z, z ∈ a ↔ z ∈ b) → a = b
 | [], [], _, _, _ => rfl
 | [], y :: r, _, _, h => by have := (h y).2 (by simp); simp at this
 | x :: r, [], _, _, h => by have := (h x).1 (by simp); simp at this
 | x :: r, y :: q, ha, hb, h => by
  have ha' := List.pairwise_cons.1 ha
  have hb' := List.pairwise_cons.1 hb
  have e : x = y := by
   rcases List.mem_cons.1 ((h x).1 (by simp)) with e | hx
   ·exact e
   ·rcases List.mem_cons.1 ((h y).2 (by simp)) with e | hy
    ·exact e.symm
    ·have h1 := hb'.1 x hx
     have h2 := ha'.1 y hy
     omega
  subst e
  congr 1
  refine rz_ext r q ha'.2 hb'.2 fun z => ⟨fun hz => ?_, fun hz => ?_⟩
  ·rcases List.mem_cons.1 ((h z).1 (by simp [hz])) with e | h1
   ·have := ha'.1 z hz; omega
   ·exact h1
  ·rcases List.mem_cons.1 ((h z).2 (by simp [hz])) with e | h1
   ·have := hb'.1 z hz; omega
   ·exact h1
theorem get_bang (l : List Int) {j : Nat} (h : j < l.length) : l.toArray[j]! = l[j] := by rw [getElem!_pos _ j (by simpa using h)]; simp
theorem compact_mem (l : List Int) (z : Int) : z ∈ Lib.compact l ↔ z ∈ l := by
 unfold Lib.compact Lib.compactUpTo
 constructor
 ·intro h
  obtain ⟨j, hj, rfl⟩ := List.mem_map.1 h
  have hjl : j < l.length := by simpa using (List.mem_filter.1 hj).1
  rw [get_bang l hjl]
  exact List.getElem_mem hjl
 ·intro h
  have key : ∀ j, ∀ hj : j < l.length, l[j] = z → ∃ k, k < l.length ∧ Lib.keeps l.toArray k = true ∧ l.toArray[k]! = z := by
   intro j
   induction j with
   | zero => intro hj e; exact ⟨0, hj, by simp [Lib.keeps], by rw [get_bang l hj]; exact e⟩
   | succ j ih =>
    intro hj e
    by_cases he : l[j]'(by omega) = z
    ·exact ih (by omega) he
    ·refine ⟨j + 1, hj, ?_, by rw [get_bang l hj]; exact e⟩
     unfold Lib.keeps
     rw [decide_eq_true_eq]
     right
     rw [get_bang l hj, Nat.add_sub_cancel, get_bang l (by omega), e]
     exact fun h => he h.symm
  obtain ⟨j, hj, e⟩ := List.mem_iff_getElem.1 h
  obtain ⟨k, k1, k2, k3⟩ := key j hj e
  exact List.mem_map.2 ⟨k, List.mem_filter.2 ⟨by simpa using k1, k2⟩, k3⟩
theorem compact_rz (l : List Int) (h : l.Pairwise (· ≤ ·)) : rz (Lib.compact l) := by
 unfold rz Lib.compact Lib.compactUpTo
 rw [List.pairwise_map]
 have h1 : ((List.range l.length).filter (Lib.keeps l.toArray)).Pairwise (· < ·) := List.Pairwise.filter _ List.pairwise_lt_range
 refine List.Pairwise.imp_of_mem ?_ h1
 intro i j hi hj hij
 obtain ⟨hi1, -⟩ := List.mem_filter.1 hi
 obtain ⟨hj1, hj2⟩ := List.mem_filter.1 hj
 have hil : i < l.length := by simpa using hi1
 have hjl : j < l.length := by simpa using hj1
 unfold Lib.keeps at hj2
 rw [decide_eq_true_eq] at hj2
 rcases hj2 with rfl | hj2
 ·omega
 ·rw [get_bang l hjl, get_bang l (by omega)] at hj2
  rw [get_bang l hil, get_bang l hjl]
  have hp := List.pairwise_iff_getElem.1 h
  have a1 : l[j - 1]'(by omega) ≤ l[j] := hp (j - 1) j (by omega) hjl (by omega)
  have a2 : l[i] ≤ l[j - 1]'(by omega) := by
   rcases Nat.lt_or_ge i (j - 1) with h' | h'
   ·exact hp i (j - 1) hil (by omega) h'
   ·have : i = j - 1 := by omega
    subst this
    exact Int.le_refl _
  omega
theorem sortZ_pw (l : List Int) : (sortZ l).Pairwise (· ≤ ·) := by
 have h := List.pairwise_mergeSort (le := fun x y : Int => decide (x ≤ y)) (fun a b c h1 h2 => by simp only [decide_eq_true_eq] at *; omega) (fun a b => by simp only [Bool.or_eq_true, decide_eq_true_eq]; omega) l
 exact List.Pairwise.imp (by intro a b h; simpa using h) h
theorem compact_vrs (l : List Int) : Lib.compact (sortZ l) = vrsF l :=
 rz_ext _ _ (compact_rz _ (sortZ_pw l)) (vrs_rz l) fun z => by
  rw [compact_mem, vrs_mem]
  exact (List.mergeSort_perm _ _).mem_iff
open Go.Proofs
attribute [local irreducible] Ev EvO EvS ExtEv HasBody PGo RGo SGo go
theorem valuesZ_evS (l : List Int) : EvS E 140 [.d (.sl (l.map .int))] [] (.clo 228 [.ptr 0 0]) [oIntZ l] := by
 refine yn func140 ntmps140 fun _ _ _ _=>?_
 repeat' (first | refine yz ?_ | refine go_makeFunc rfl rfl rfl rfl rfl ?_ | refine retS1 [0] rfl rfl rfl rfl rfl ?_)
 rfl
theorem compact0Z_ev : Ev E 138 [.sl []] (.d (.sl [])) := by
 refine ye1 func138 ntmps138 fun _ _ _=>?_
 repeat' (first | refine yz ?_ | exact zD)
theorem avars_ev (a : AT) (hn : a.vs.length ≤ 1000000) : Ev E 53 [encAT a] (.d (.sl ((vrsF a.vs).map D.int))) := Ev.fit fun hfit => by
 obtain ⟨k, vs, nm, ty, v⟩ := a
 obtain ⟨vk, vn, vd, vS, vl⟩ := v
 have hf := (fit_map (f := D.int) ((hfit (encAT ⟨k, vs, nm, ty, .mk vk vn vd vS vl⟩) (by simp)).aggs (.sl (vs.map D.int)) (by simp [encAT, intsD]))).2
 dsimp only at hn ⊢
 match vs, hn, hf with
 | [], hn, hf =>
  refine ye1 func53 ntmps53 fun _ _ _=>?_
  repeat' (first | (refine go_nilD 6 rfl ?_) | refine yz ?_ | refine yc [] b140 (valuesZ_evS []) ?_ | refine yc [1] b139 (sorted0Z_evS) ?_ | refine yp b138 compact0Z_ev ?_ | exact zD)
 | x :: r, hn, hf =>
  have hz : ∀ z ∈ sortZ (x :: r), Go.Abs.okV (.int .i64 z) = true := by
   intro z hz
   have hz' : z ∈ x :: r := (List.mergeSort_perm _ _).mem_iff.1 hz
   have h1 := hf z hz'
   cases h1 with
   | imm _ h => exact h
  have hso := sortedZ_evS (x :: r) (by simp) hn
  have hco := compactZ_evS (sortZ (x :: r)) hz
  rw [compact_vrs] at hco
  generalize vrsF (x :: r) = V at *
  refine ye1 func53 ntmps53 fun _ _ _=>?_
  repeat' (first | refine yz ?_ | refine yc [] b140 (valuesZ_evS (x :: r)) ?_ | refine yc [1] b139 (hso) ?_ | refine yc [2] b138 (hco) ?_)
  refine go_frz 3 rfl ?_
  repeat' (first | refine qL rfl rfl ?_ | exact zD)
theorem insG_nil (x : Int) (d : Bool) : insG x d [] = bif d then [] else [x] := by unfold insG; rfl
theorem insG_cons (x : Int) (d : Bool) (y : Int) (r : List Int) : insG x d (y :: r) = bif decide (y > x) && !(d || y == x) then x :: y :: insG x true r else y :: insG x (d || y == x) r := by
 conv => lhs; unfold insG
theorem insG_len (x : Int) : ∀ (d : Bool) (l : List Int), (insG x d l).length ≤ l.length + 1
 | d, [] => by rw [insG_nil]; cases d <;> simp
 | d, y :: r => by
  have h1 := insG_true x r
  have h2 := insG_len x (d || y == x) r
  rw [insG_cons]
  cases decide (y > x) && !(d || y == x) with
  | true => rw [cond_true, h1]; simp
  | false => rw [cond_false]; simp; omega
theorem fold_len : ∀ (l acc : List Int), (l.foldl insZ acc).length ≤ acc.length + l.length
 | [], acc => by simp
 | x :: r, acc => by
  have h1 := fold_len r (insZ acc x)
  have h2 : (insZ acc x).length ≤ acc.length + 1 := insG_len x false acc
  rw [List.foldl_cons, List.length_cons]
  omega
theorem vrs_len (l : List Int) : (vrsF l).length ≤ l.length := by
 have := fold_len l []
 unfold vrsF
 simpa using this
end Go.Proofs.YtenpjlghikohmaaGreatDoor
namespace Go.Proofs.YtenpjlghikohmaaGreatDoor
set_option maxRecDepth 4000
open Go Go.Abs Go.Val Go.RowKit Go.Proofs.Tryz
attribute [local irreducible] go SGo HasBody Ev ExtEv EvO EvS PGo RGo
end Go.Proofs.YtenpjlghikohmaaGreatDoor
