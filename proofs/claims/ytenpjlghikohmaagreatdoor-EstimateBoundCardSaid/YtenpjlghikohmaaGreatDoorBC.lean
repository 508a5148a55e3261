/- From rows' readings to conjunctive queries; the listed variables as the engine wants them; a world for the witnesses (chapter 28); From rows' readings to graphs, in the seat of chapter 28. Conditions: each part's own, as it says. -/
import Derived.Test.YtenpjlghikohmaaGreatDoorGC
import Derived.Test.YtenpjlghikohmaaGreatDoorLA
import Derived.Test.YtenpjlghikohmaaGreatDoorGB
import Derived.Test.YtenpjlghikohmaaGreatDoorRows
import Derived.Test.YtenpjlghikohmaaGreatDoorTie
import Derived.ProofKit
import Derived.Test.YtenpjlghikohmaaGreatDoorGG
set_option linter.unusedVariables false
set_option linter.unusedSimpArgs false
namespace Go.Proofs.YtenpjlghikohmaaGreatDoor
set_option maxRecDepth 4000
open Go Go.Abs Go.Val Go.RowKit Go.ChangeShapes Go.WideShapes Go.Proofs.Tryz
theorem ty_V : ∀ {t : TypeId} {x : D}, HasTy Tryz.prog t x → (t = 56 → ∃ v, x = enc v) ∧ (t = 54 → ∃ l, x = .sl (encL l)) := by
 intro t x h
 induction h with
 | bool b h => exact ⟨fun e => (by subst e; rw [underlying56] at h; cases h), fun e => (by subst e; rw [underlying54] at h; cases h)⟩
 | int n h => exact ⟨fun e => (by subst e; rw [underlying56] at h; cases h), fun e => (by subst e; rw [underlying54] at h; cases h)⟩
 | str s h => exact ⟨fun e => (by subst e; rw [underlying56] at h; cases h), fun e => (by subst e; rw [underlying54] at h; cases h)⟩
 | arr ps h _ _ => exact ⟨fun e => (by subst e; rw [underlying56] at h; cases h), fun e => (by subst e; rw [underlying54] at h; cases h)⟩
 | sl xs h hx ih =>
  refine ⟨fun e => (by subst e; rw [underlying56] at h; cases h), fun e => ?_⟩
  subst e
  rw [underlying54] at h
  cases h
  have : ∀ ys : List D, (∀ y ∈ ys, ∃ v, y = enc v) → ∃ l, ys = encL l := by
   intro ys
   induction ys with
   | nil => exact fun _ => ⟨[], by simp [encL]⟩
   | cons y r ihr =>
    intro hy
    obtain ⟨v, rfl⟩ := hy y (by simp)
    obtain ⟨l, rfl⟩ := ihr fun z hz => hy z (by simp [hz])
    exact ⟨v :: l, by simp [encL, enc]⟩
  obtain ⟨l, rfl⟩ := this xs fun y hy => (ih y hy).1 rfl
  exact ⟨l, rfl⟩
 | struct parts h hl hp ih =>
  refine ⟨fun e => ?_, fun e => (by subst e; rw [underlying54] at h; cases h)⟩
  subst e
  rw [underlying56] at h
  cases h
  match parts, hl with
  | [p0, p1, p2, p3, p4], _ =>
   obtain ⟨k, rfl⟩ := HasTy.int_inv underlying3 (hp 0 _ p0 rfl rfl)
   obtain ⟨n, rfl⟩ := HasTy.int_inv underlying3 (hp 1 _ p1 rfl rfl)
   obtain ⟨d, rfl⟩ := HasTy.int_inv underlying3 (hp 2 _ p2 rfl rfl)
   obtain ⟨s, rfl⟩ := HasTy.str_inv underlying9 (hp 3 _ p3 rfl rfl)
   obtain ⟨l, rfl⟩ := (ih 4 _ p4 rfl rfl).2 rfl
   exact ⟨.mk k n d s l, rfl⟩
theorem ty_val {x : D} (h : HasTy Tryz.prog 56 x) : ∃ v, x = enc v := (ty_V h).1 rfl
theorem list_of {α : Type} {f : α → D} : ∀ ys : List D, (∀ y ∈ ys, ∃ v, y = f v) → ∃ l : List α, ys = l.map f
 | [], _ => ⟨[], rfl⟩
 | y :: r, hy => by
  obtain ⟨v, rfl⟩ := hy y (by simp)
  obtain ⟨l, rfl⟩ := list_of r fun z hz => hy z (by simp [hz])
  exact ⟨v :: l, rfl⟩
theorem ty_strs {x : D} (h : HasTy Tryz.prog 25 x) : ∃ l : List ByteArray, x = .sl (l.map .str) := by
 obtain ⟨xs, rfl, hx⟩ := HasTy.sl_inv underlying25 h
 obtain ⟨l, rfl⟩ := list_of (f := D.str) xs fun y hy => HasTy.str_inv underlying9 (hx y hy)
 exact ⟨l, rfl⟩
theorem ty_ints {x : D} (h : HasTy Tryz.prog 46 x) : ∃ l : List Int, x = .sl (iL l) := by
 obtain ⟨xs, rfl, hx⟩ := HasTy.sl_inv underlying46 h
 obtain ⟨l, rfl⟩ := list_of (f := D.int) xs fun y hy => HasTy.int_inv underlying3 (hx y hy)
 exact ⟨l, rfl⟩
theorem ty_AT {x : D} (h : HasTy Tryz.prog 58 x) : ∃ a, x = encAT a := by
 obtain ⟨parts, rfl, hl, hp⟩ := HasTy.struct_inv underlying58 h
 match parts, hl with
 | [p0, p1, p2, p3, p4], _ =>
  obtain ⟨k, rfl⟩ := HasTy.int_inv underlying3 (hp 0 _ p0 rfl rfl)
  obtain ⟨vs, rfl⟩ := ty_ints (hp 1 _ p1 rfl rfl)
  obtain ⟨s, rfl⟩ := HasTy.str_inv underlying9 (hp 2 _ p2 rfl rfl)
  obtain ⟨ty, rfl⟩ := ty_strs (hp 3 _ p3 rfl rfl)
  obtain ⟨v, rfl⟩ := ty_val (hp 4 _ p4 rfl rfl)
  obtain ⟨vk, vn, vd, vs', vl⟩ := v
  exact ⟨⟨k, vs, s, ty, .mk vk vn vd vs' vl⟩, rfl⟩
theorem ty_ATs {x : D} (h : HasTy Tryz.prog 26 x) : ∃ l : List AT, x = .sl (l.map encAT) := by
 obtain ⟨xs, rfl, hx⟩ := HasTy.sl_inv underlying26 h
 obtain ⟨l, rfl⟩ := list_of (f := encAT) xs fun y hy => ty_AT (hx y hy)
 exact ⟨l, rfl⟩
theorem ty_CJ {x : D} (h : HasTy Tryz.prog 28 x) : ∃ c, x = encCJ c := by
 obtain ⟨parts, rfl, hl, hp⟩ := HasTy.struct_inv underlying28 h
 match parts, hl with
 | [p0, p1], _ =>
  obtain ⟨vs, rfl⟩ := ty_strs (hp 0 _ p0 rfl rfl)
  obtain ⟨ats, rfl⟩ := ty_ATs (hp 1 _ p1 rfl rfl)
  exact ⟨⟨vs, ats⟩, rfl⟩
def tys : List TypeId := [3, 9, 46, 25, 54, 56, 58, 26, 28, 236]
theorem tys_ok : closedB Tryz.prog tys = true := by kernel_rfl
noncomputable def seatLaid : List (String × DataW Unit) := Rows.estimateBoundRow.laid
theorem gi_of {W : World} (hL : laidMetH Tryz.prog seatLaid W) (hS : W.ShapedOpen Tryz.prog) : E.GI W (F0 W) := by
 rw [MakeChecks.laidMetH_plain _ _ _ (by kernel_rfl)] at hL
 obtain ⟨ps, hLV, -⟩ := hL
 refine ⟨fun e he => ?_, trivial, trivial⟩
 simp only [E, seatG, List.mem_singleton] at he
 subst he
 obtain ⟨x, hm, hs⟩ := listed_D tys tys_ok hLV "graphdb/frac.zero" Rows.laid_graphdb_frac_zero 0 236 (by simp [seatLaid, Rows.estimateBoundRow]) (by kernel_rfl) (by kernel_rfl) (by decide)
 obtain ⟨parts, rfl, hl, hp⟩ := Says.agg_inv hs
 match parts, hl with
 | [p0, p1], _ =>
  have e0 := Says.int_inv (hp 0 _ p0 rfl rfl)
  have e1 := Says.int_inv (hp 1 _ p1 rfl rfl)
  subst e0 e1
  exact hm
noncomputable def wit (os : Os) : World := World.doorLaid Tryz.prog 400 os
set_option maxRecDepth 100000 in
theorem wit_met (os : Os) (args : Array Value) : laidMetH Tryz.prog seatLaid ((wit os).forCall (fun _ _ => 0) ⟨#[], args, []⟩).memory :=
 laidMetH_of_parts3 (fuel := 8) (laidMet_of_run' 8 (by kernel_rfl) (by kernel_rfl)) (by kernel_rfl) (by kernel_rfl)
set_option maxRecDepth 100000 in
theorem wit_shaped (os : Os) (args : Array Value) : ((wit os).forCall (fun _ _ => 0) ⟨#[], args, []⟩).Shaped Tryz.prog := World.shaped_of_RefB (by kernel_rfl) (by kernel_rfl)
theorem seat_own : ownKnob Tryz.prog.godebug = none := by kernel_rfl
theorem seat_out : laidOutB Tryz.prog = true := by kernel_rfl
theorem map_all {α : Type} {f : α → D} : ∀ {ys : List D}, (∀ y ∈ ys, ∃ v, y = f v) → ∃ l : List α, ys = l.map f
 | [], _ => ⟨[], rfl⟩
 | y :: r, h => by
  obtain ⟨v, hv⟩ := h y (by simp)
  obtain ⟨l, hl⟩ := map_all (ys := r) fun z hz => h z (by simp [hz])
  exact ⟨v :: l, by rw [hv, hl]; rfl⟩
theorem ty_pr {x : D} (h : HasTy Tryz.prog 210 x) : ∃ p, x = encPr p := by
 obtain ⟨parts, rfl, hl, hp⟩ := HasTy.struct_inv underlying210 h
 match parts, hl with
 | [p0, p1], _ =>
  obtain ⟨k, rfl⟩ := HasTy.str_inv underlying9 (hp 0 _ p0 rfl rfl)
  obtain ⟨v, rfl⟩ := ty_val (hp 1 _ p1 rfl rfl)
  exact ⟨⟨k, v⟩, rfl⟩
theorem ty_prs {x : D} (h : HasTy Tryz.prog 102 x) : ∃ l : List Pr, x = .sl (l.map encPr) := by
 obtain ⟨xs, rfl, hx⟩ := HasTy.sl_inv underlying102 h
 obtain ⟨l, rfl⟩ := map_all (f := encPr) fun y hy => ty_pr (hx y hy)
 exact ⟨l, rfl⟩
theorem ty_node {x : D} (h : HasTy Tryz.prog 104 x) : ∃ p, x = encNd p := by
 obtain ⟨parts, rfl, hl, hp⟩ := HasTy.struct_inv underlying104 h
 match parts, hl with
 | [p0, p1, p2], _ =>
  obtain ⟨k, rfl⟩ := HasTy.int_inv underlying3 (hp 0 _ p0 rfl rfl)
  obtain ⟨l, rfl⟩ := ty_strs (hp 1 _ p1 rfl rfl)
  obtain ⟨v, rfl⟩ := ty_prs (hp 2 _ p2 rfl rfl)
  exact ⟨⟨k, l, v⟩, rfl⟩
theorem ty_edge {x : D} (h : HasTy Tryz.prog 109 x) : ∃ p, x = encEd p := by
 obtain ⟨parts, rfl, hl, hp⟩ := HasTy.struct_inv underlying109 h
 match parts, hl with
 | [p0, p1, p2, p3, p4], _ =>
  obtain ⟨k, rfl⟩ := HasTy.int_inv underlying3 (hp 0 _ p0 rfl rfl)
  obtain ⟨m, rfl⟩ := HasTy.int_inv underlying3 (hp 1 _ p1 rfl rfl)
  obtain ⟨n, rfl⟩ := HasTy.int_inv underlying3 (hp 2 _ p2 rfl rfl)
  obtain ⟨s, rfl⟩ := HasTy.str_inv underlying9 (hp 3 _ p3 rfl rfl)
  obtain ⟨v, rfl⟩ := ty_prs (hp 4 _ p4 rfl rfl)
  exact ⟨⟨k, m, n, s, v⟩, rfl⟩
theorem ty_GR {x : D} (h : HasTy Tryz.prog 38 x) : ∃ p, x = encGr p := by
 obtain ⟨parts, rfl, hl, hp⟩ := HasTy.struct_inv underlying38 h
 match parts, hl with
 | [p0, p1, p2, p3], _ =>
  obtain ⟨xs, rfl, hx⟩ := HasTy.sl_inv underlying35 (hp 0 _ p0 rfl rfl)
  obtain ⟨l, rfl⟩ := map_all (f := encNd) fun y hy => ty_node (hx y hy)
  obtain ⟨ys, rfl, hy⟩ := HasTy.sl_inv underlying36 (hp 1 _ p1 rfl rfl)
  obtain ⟨m, rfl⟩ := map_all (f := encEd) fun z hz => ty_edge (hy z hz)
  obtain ⟨k, rfl⟩ := HasTy.int_inv underlying3 (hp 2 _ p2 rfl rfl)
  obtain ⟨n, rfl⟩ := HasTy.int_inv underlying3 (hp 3 _ p3 rfl rfl)
  exact ⟨⟨l, m, k, n⟩, rfl⟩
def tysX : List TypeId := [3, 9, 46, 25, 54, 56, 58, 26, 28, 210, 102, 104, 35, 109, 36, 38, 236]
theorem tysX_ok : closedB Tryz.prog tysX = true := by kernel_rfl
end Go.Proofs.YtenpjlghikohmaaGreatDoor
