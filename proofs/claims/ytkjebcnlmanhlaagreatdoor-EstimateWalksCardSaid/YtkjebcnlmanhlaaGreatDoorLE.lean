/- The statements' own words: few, and sets of integers by the specification; What Check leaves; the chapter's examples: what the specifications give there; The chapter's examples hold; The statements on Atom, Rows and Steps; From rows' readings to statistics, atoms and queries; the listed variable as the engine wants it; a world for the witnesses. Conditions: each part's own, as it says. -/
import Derived.Test.YtkjebcnlmanhlaaGreatDoorGC
import Derived.Test.YtkjebcnlmanhlaaGreatDoorLD
import Derived.Test.YtkjebcnlmanhlaaGreatDoorGB
import Derived.Test.YtkjebcnlmanhlaaGreatDoorRows
import Derived.Test.YtkjebcnlmanhlaaGreatDoorTie
import Derived.ProofKit
set_option linter.unusedVariables false
set_option linter.unusedSimpArgs false
/- The statements' own words: few, and sets of integers by the specification. Conditions: lists of at most 100 elements. -/
namespace Go.Proofs.YtkjebcnlmanhlaaGreatDoor
open Go Go.Abs Go.Val
attribute [local irreducible] go SGo HasBody Ev ExtEv EvO EvS PGo RGo ordF

structure SSa (a b : List Int) where
  i : Nat
  hi : i ≤ a.length
  ok : (a == b) = (a.drop i == b.drop i)
theorem same_ev (a b : List Int) : Ev E 15 [.sl (iL a), .sl (iL b)] (.d (.bool (a == b))) := Ev.fit fun hfit => by
  obtain ⟨hm1, -⟩ := fit_map (hfit (.sl (iL a)) (by simp))
  obtain ⟨hm2, -⟩ := fit_map (hfit (.sl (iL b)) (by simp))
  have hl1 := iL_len a
  have hl2 := iL_len b
  by_cases hab : a.length = b.length
  · have g1 : (((iL a).length : Int) != ((iL b).length : Int)) = false := by rw [hl1, hl2, hab]; simp
    refine enter2 Tryz.func15 Tryz.ntmps15 rfl rfl fun w0 F0 O => ?_
    repeat' (first | refine zS rfl ?_ | refine qA ?_ | refine qB rfl ?_ | refine qC (by kernel_rfl) ?_ | refine qD ?_ | refine qE ?_ | refine qF ?_ | refine qG ?_ | refine qH rfl ?_ | refine zT rfl ?_ | refine zU rfl ?_ | refine qL rfl rfl ?_ | refine qM rfl rfl rfl ?_ | refine qO rfl rfl rfl ?_ | refine zX rfl rfl rfl rfl ?_ | refine zW rfl rfl rfl rfl ?_ | (refine qY rfl rfl rfl rfl ?_ ?_ <;> intro _) | exact zD | exact zL)
    refine go_loop_ (α := SSa a b) (fun p => ⟨[(0, .d (.sl (iL a))), (1, .d (.sl (iL b))), (5, .d (.int p.i))], []⟩) (fun p => a.length - p.i) ⟨0, by omega, rfl⟩ ((zle 0)) ?_
    rintro ⟨i, hi, ok⟩
    dsimp only at ok ⊢
    rcases Nat.lt_or_ge i a.length with hlt | hge
    · have g2 : decide ((i : Int) < ((iL a).length : Int)) = true := by rw [hl1]; simpa using hlt
      have hx0 := List.getElem?_eq_getElem hlt
      have hy0 := List.getElem?_eq_getElem (show i < b.length by omega)
      generalize a[i] = x at hx0
      generalize b[i] = y at hy0
      have hx := iL_get hx0
      have hy := iL_get hy0
      have hd : (a.drop i == b.drop i) = (x == y && a.drop (i + 1) == b.drop (i + 1)) := by rw [drop_at hx0, drop_at hy0]; rfl
      rw [hd] at ok
      cases hc : x == y with
      | true =>
        have g3 : (x != y) = false := by unfold bne; rw [hc]; rfl
        rw [hc, Bool.true_and] at ok
        repeat' (first | refine zS rfl ?_ | refine qA ?_ | refine qB rfl ?_ | refine qC (by kernel_rfl) ?_ | refine qD ?_ | refine qE ?_ | refine qF ?_ | refine qG ?_ | refine qH rfl ?_ | refine qI (.int x) rfl (guardX_ok rfl) rfl rfl rfl rfl rfl rfl (by first | omega | decide) hx ?_ | refine qI (.int y) rfl (guardX_ok rfl) rfl rfl rfl rfl rfl rfl (by first | omega | decide) hy ?_ | refine zT rfl ?_ | refine zU rfl ?_ | refine qL rfl rfl ?_ | refine qM rfl rfl rfl ?_ | refine qO rfl rfl rfl ?_ | refine zX rfl rfl rfl rfl ?_ | refine zW rfl rfl rfl rfl ?_ | (refine qY rfl rfl rfl rfl ?_ ?_ <;> intro _) | exact zD | exact zL)
        refine go_stop ?_
        exact ⟨⟨i + 1, by omega, ok⟩, by dsimp only; omega, (zle 0)⟩
      | false =>
        have g3 : (x != y) = true := by unfold bne; rw [hc]; rfl
        rw [hc, Bool.false_and] at ok
        rw [ok]
        repeat' (first | refine zS rfl ?_ | refine qA ?_ | refine qB rfl ?_ | refine qC (by kernel_rfl) ?_ | refine qD ?_ | refine qE ?_ | refine qF ?_ | refine qG ?_ | refine qH rfl ?_ | refine qI (.int x) rfl (guardX_ok rfl) rfl rfl rfl rfl rfl rfl (by first | omega | decide) hx ?_ | refine qI (.int y) rfl (guardX_ok rfl) rfl rfl rfl rfl rfl rfl (by first | omega | decide) hy ?_ | refine zT rfl ?_ | refine zU rfl ?_ | refine qL rfl rfl ?_ | refine qM rfl rfl rfl ?_ | refine qO rfl rfl rfl ?_ | refine zX rfl rfl rfl rfl ?_ | refine zW rfl rfl rfl rfl ?_ | (refine qY rfl rfl rfl rfl ?_ ?_ <;> intro _) | exact zD | exact zL)
    · have g2 : decide ((i : Int) < ((iL a).length : Int)) = false := by rw [hl1]; simp; omega
      rw [ok, List.drop_eq_nil_of_le hge, List.drop_eq_nil_of_le (by omega)]
      repeat' (first | refine zS rfl ?_ | refine qA ?_ | refine qB rfl ?_ | refine qC (by kernel_rfl) ?_ | refine qD ?_ | refine qE ?_ | refine qF ?_ | refine qG ?_ | refine qH rfl ?_ | refine zT rfl ?_ | refine zU rfl ?_ | refine qL rfl rfl ?_ | refine qM rfl rfl rfl ?_ | refine qO rfl rfl rfl ?_ | refine zX rfl rfl rfl rfl ?_ | refine zW rfl rfl rfl rfl ?_ | (refine qY rfl rfl rfl rfl ?_ ?_ <;> intro _) | exact zD | exact zL)
  · have g1 : (((iL a).length : Int) != ((iL b).length : Int)) = true := by rw [hl1, hl2]; simp; omega
    have e : (a == b) = false := by
      rw [beq_eq_false_iff_ne]
      rintro rfl
      exact hab rfl
    rw [e]
    refine enter2 Tryz.func15 Tryz.ntmps15 rfl rfl fun w0 F0 O => ?_
    repeat' (first | refine zS rfl ?_ | refine qA ?_ | refine qB rfl ?_ | refine qC (by kernel_rfl) ?_ | refine qD ?_ | refine qE ?_ | refine qF ?_ | refine qG ?_ | refine qH rfl ?_ | refine zT rfl ?_ | refine zU rfl ?_ | refine qL rfl rfl ?_ | refine qM rfl rfl rfl ?_ | refine qO rfl rfl rfl ?_ | refine zX rfl rfl rfl rfl ?_ | refine zW rfl rfl rfl rfl ?_ | (refine qY rfl rfl rfl rfl ?_ ?_ <;> intro _) | exact zD | exact zL)
end Go.Proofs.YtkjebcnlmanhlaaGreatDoor

/- What Check leaves; the chapter's examples: what the specifications give there. Conditions: none. -/
namespace Go.Proofs.YtkjebcnlmanhlaaGreatDoor
open Go Go.Abs Go.Val

theorem chk_okc {c : CJ} (h : chkF c = 0) : OkC c := by
  unfold chkF at h
  cases h1 : decide (c.vs.length > 24) || decide (c.as.length > 12) with
  | true => rw [h1] at h; simp at h
  | false =>
    rw [h1, cond_false] at h
    cases h2 : c.as.any (badF c.vs.length) with
    | true => rw [h2] at h; simp at h
    | false =>
      rw [Bool.or_eq_false_iff] at h1
      refine ⟨by have := h1.2; simp at this; omega, fun a ha => ?_⟩
      have hb := List.any_eq_false.1 h2 a ha
      unfold badF at hb
      have hb' : (!shapeF a || a.vs.any fun v => decide (v ≥ (c.vs.length : Int))) = false := by simpa using hb
      rw [Bool.or_eq_false_iff] at hb'
      obtain ⟨s1, s2, -⟩ := shape_arity (a := a) (by simpa using hb'.1)
      have := ari_le a.k
      omega
def lvS : ST := ⟨10, 20, [⟨⟨#[65]⟩, 3⟩], [⟨⟨#[84]⟩, 20⟩], [[4]], [[5]]⟩
def lvL : AT := ⟨1, [0], ⟨#[65]⟩, [], vNull⟩
def lvE : AT := ⟨3, [0, 1, 2], ⟨#[]⟩, [⟨#[84]⟩], vNull⟩
def lvC : CJ := ⟨[⟨#[97]⟩, ⟨#[101]⟩, ⟨#[98]⟩], [lvL, lvE]⟩
def lvD : CJ := ⟨[⟨#[97]⟩], []⟩
theorem lv1 : atomF lvS lvE [0, 2] = 4 := by kernel_rfl
theorem lv2 : atomF lvS lvE [2] = 5 := by kernel_rfl
theorem lv3 : atomF lvS lvE [1] = 1 := by kernel_rfl
theorem lv4 : atomF lvS lvE [] = 20 := by kernel_rfl
theorem lv5 : atomF lvS lvL [0] = 1 := by kernel_rfl
theorem lv6 : chkF lvC = 0 := by kernel_rfl
theorem lv7 : chkF lvD = 25 := by kernel_rfl
theorem lv8 : rowV lvS lvC 0 = 12 := by kernel_rfl
theorem lv9 : ordV lvS lvC 0 = [0, 1] := by kernel_rfl
theorem lv10 : stpN lvS [⟨#[84]⟩, ⟨#[84]⟩, ⟨#[84]⟩] = 320 := by kernel_rfl
theorem lv11 : stpB lvS [⟨#[84]⟩, ⟨#[84]⟩, ⟨#[84]⟩] = true := by kernel_rfl
theorem lv12 : stpB lvS [] = false := by kernel_rfl
end Go.Proofs.YtkjebcnlmanhlaaGreatDoor

/- The chapter's examples hold. Conditions: none. -/
namespace Go.Proofs.YtkjebcnlmanhlaaGreatDoor
open Go Go.Abs Go.Val
attribute [local irreducible] go SGo HasBody Ev ExtEv EvO EvS PGo RGo ordF

set_option maxHeartbeats 2000000 in
theorem lives_ev : Ev E 5 [] (.d (.bool true)) := by
  have hR : Ev E 14 [encST lvS, encCJ lvC] (.tup [natD 12, .int 0]) := by
    have := rows_ev lvS lvC (chkF lvC) (check_ev lvC) fun h => ⟨chk_okc h, by decide⟩
    rw [lv6, lv8] at this
    exact this
  have hO : Ev E 16 [encST lvS, encCJ lvC] (.d (.sl (iL [0, 1]))) := by
    have := order_ev3 lvS lvC (chkF lvC) (check_ev lvC) fun h => ⟨chk_okc h, by decide⟩
    rw [lv6, lv9] at this
    exact this
  have hD : Ev E 14 [encST lvS, encCJ lvD] (.tup [natD 0, .int 25]) := by
    have := rows_ev lvS lvD (chkF lvD) (check_ev lvD) fun h => ⟨chk_okc h, by decide⟩
    rw [lv7] at this
    exact this
  have hS : Ev E 6 [encST lvS, .sl ([⟨#[84]⟩, ⟨#[84]⟩, ⟨#[84]⟩].map .str)] (.tup [natD 320, .bool true]) := by
    have := steps_ev lvS [⟨#[84]⟩, ⟨#[84]⟩, ⟨#[84]⟩]
    rw [lv10, lv11] at this
    exact this
  have hS0 : Ev E 6 [encST lvS, .sl []] (.tup [natD 0, .bool false]) := by
    have := steps_ev lvS []
    rw [lv12] at this
    exact this
  have hA1 : Ev E 17 [encST lvS, encAT lvE, .sl (iL [0, 2])] (.d (.int 4)) := by have := atom_ev lvS lvE [0, 2]; rwa [lv1] at this
  have hA2 : Ev E 17 [encST lvS, encAT lvE, .sl (iL [2])] (.d (.int 5)) := by have := atom_ev lvS lvE [2]; rwa [lv2] at this
  have hA3 : Ev E 17 [encST lvS, encAT lvE, .sl (iL [1])] (.d (.int 1)) := by have := atom_ev lvS lvE [1]; rwa [lv3] at this
  have hA4 : Ev E 17 [encST lvS, encAT lvE, .sl []] (.d (.int 20)) := by have := atom_ev lvS lvE []; rwa [lv4] at this
  have hA5 : Ev E 17 [encST lvS, encAT lvL, .sl (iL [0])] (.d (.int 1)) := by have := atom_ev lvS lvL [0]; rwa [lv5] at this
  have hN1 : Ev E 8 [.int 12] (.d (natD 12)) := nof_ev 12
  have hN2 : Ev E 8 [.int 320] (.d (natD 320)) := nof_ev 320
  have hC1 : Ev E 7 [natD 12, natD 12] (.d (.int 0)) := by
    have := ncmp_ev 12 12 (Nat.le_trans (lim_small (by decide)) (by decide)) (Nat.le_trans (lim_small (by decide)) (by decide))
    rwa [show cmpN 12 12 = 0 from rfl] at this
  have hC2 : Ev E 7 [natD 320, natD 320] (.d (.int 0)) := by
    have := ncmp_ev 320 320 (Nat.le_trans (lim_small (by decide)) (by decide)) (Nat.le_trans (lim_small (by decide)) (by decide))
    rwa [show cmpN 320 320 = 0 from rfl] at this
  have hM : Ev E 15 [.sl (iL [0, 1]), .sl (iL [0, 1])] (.d (.bool true)) := same_ev [0, 1] [0, 1]
  refine enter0 Tryz.func5 Tryz.ntmps5 rfl rfl fun w0 F0 O => ?_
  repeat' (first | refine zS rfl ?_ | refine qA ?_ | refine qB rfl ?_ | refine qC (by kernel_rfl) ?_ | refine qD ?_ | refine qE ?_ | refine qF ?_ | refine qG ?_ | refine qH rfl ?_ | refine qP (d := 37) rfl rfl rfl rfl rfl rfl b14 (hR) ?_ | refine qP (d := 43) rfl rfl rfl rfl rfl rfl b6 (hS) ?_ | refine qP (d := 48) rfl rfl rfl rfl rfl rfl b6 (hS0) ?_ | refine qP (d := 55) rfl rfl rfl rfl rfl rfl b14 (hD) ?_ | refine qP (d := 62) rfl rfl rfl rfl rfl rfl b8 (hN1) ?_ | refine qP (d := 63) rfl rfl rfl rfl rfl rfl b7 (hC1) ?_ | refine qP (d := 69) rfl rfl rfl rfl rfl rfl b16 (hO) ?_ | refine qP (d := 71) rfl rfl rfl rfl rfl rfl b15 (hM) ?_ | refine qP (d := 78) rfl rfl rfl rfl rfl rfl b8 (hN2) ?_ | refine qP (d := 79) rfl rfl rfl rfl rfl rfl b7 (hC2) ?_ | refine qP (d := 94) rfl rfl rfl rfl rfl rfl b17 (hA1) ?_ | refine qP (d := 101) rfl rfl rfl rfl rfl rfl b17 (hA2) ?_ | refine qP (d := 108) rfl rfl rfl rfl rfl rfl b17 (hA3) ?_ | refine qP (d := 114) rfl rfl rfl rfl rfl rfl b17 (hA4) ?_ | refine qP (d := 121) rfl rfl rfl rfl rfl rfl b17 (hA5) ?_ | refine zT rfl ?_ | refine zU rfl ?_ | refine qL rfl rfl ?_ | refine qM rfl rfl rfl ?_ | refine qO rfl rfl rfl ?_ | refine zX rfl rfl rfl rfl ?_ | refine zW rfl rfl rfl rfl ?_ | (refine qY rfl rfl rfl rfl ?_ ?_ <;> intro _) | exact zD | exact zL)
end Go.Proofs.YtkjebcnlmanhlaaGreatDoor

/- The statements on Atom, Rows and Steps. Conditions: none. -/
namespace Go.Proofs.YtkjebcnlmanhlaaGreatDoor
open Go Go.Abs Go.Val
attribute [local irreducible] go SGo HasBody Ev ExtEv EvO EvS PGo RGo ordF

end Go.Proofs.YtkjebcnlmanhlaaGreatDoor

/- From rows' readings to statistics, atoms and queries; the listed variable as the engine wants it; a world for the witnesses. Conditions: none. -/
namespace Go.Proofs.YtkjebcnlmanhlaaGreatDoor
open Go Go.Abs Go.Val Go.RowKit Go.ChangeShapes Go.WideShapes

theorem ty_V : ∀ {t : TypeId} {x : D}, HasTy Tryz.prog t x → (t = 55 → ∃ v, x = enc v) ∧ (t = 53 → ∃ l, x = .sl (encL l)) := by
  intro t x h
  induction h with
  | bool b h => exact ⟨fun e => (by subst e; rw [Tryz.underlying55] at h; cases h), fun e => (by subst e; rw [Tryz.underlying53] at h; cases h)⟩
  | int n h => exact ⟨fun e => (by subst e; rw [Tryz.underlying55] at h; cases h), fun e => (by subst e; rw [Tryz.underlying53] at h; cases h)⟩
  | str s h => exact ⟨fun e => (by subst e; rw [Tryz.underlying55] at h; cases h), fun e => (by subst e; rw [Tryz.underlying53] at h; cases h)⟩
  | arr ps h _ _ => exact ⟨fun e => (by subst e; rw [Tryz.underlying55] at h; cases h), fun e => (by subst e; rw [Tryz.underlying53] at h; cases h)⟩
  | sl xs h hx ih =>
    refine ⟨fun e => (by subst e; rw [Tryz.underlying55] at h; cases h), fun e => ?_⟩
    subst e
    rw [Tryz.underlying53] at h
    cases h
    have : ∀ ys : List D, (∀ y ∈ ys, ∃ v, y = enc v) → ∃ l, ys = encL l := by
      intro ys
      induction ys with
      | nil => exact fun _ => ⟨[], by simp [encL]⟩
      | cons y r ihr =>
        intro hy
        obtain ⟨v, rfl⟩ := hy y (by simp)
        obtain ⟨l, rfl⟩ := ihr fun z hz => hy z (by simp [hz])
        exact ⟨v :: l, by simp [encL, enc]⟩
    obtain ⟨l, rfl⟩ := this xs fun y hy => (ih y hy).1 rfl
    exact ⟨l, rfl⟩
  | struct parts h hl hp ih =>
    refine ⟨fun e => ?_, fun e => (by subst e; rw [Tryz.underlying53] at h; cases h)⟩
    subst e
    rw [Tryz.underlying55] at h
    cases h
    match parts, hl with
    | [p0, p1, p2, p3, p4], _ =>
      obtain ⟨k, rfl⟩ := HasTy.int_inv Tryz.underlying3 (hp 0 _ p0 rfl rfl)
      obtain ⟨n, rfl⟩ := HasTy.int_inv Tryz.underlying3 (hp 1 _ p1 rfl rfl)
      obtain ⟨d, rfl⟩ := HasTy.int_inv Tryz.underlying3 (hp 2 _ p2 rfl rfl)
      obtain ⟨s, rfl⟩ := HasTy.str_inv Tryz.underlying9 (hp 3 _ p3 rfl rfl)
      obtain ⟨l, rfl⟩ := (ih 4 _ p4 rfl rfl).2 rfl
      exact ⟨.mk k n d s l, rfl⟩
theorem ty_val {x : D} (h : HasTy Tryz.prog 55 x) : ∃ v, x = enc v := (ty_V h).1 rfl
theorem list_of {α : Type} {f : α → D} : ∀ ys : List D, (∀ y ∈ ys, ∃ v, y = f v) → ∃ l : List α, ys = l.map f
  | [], _ => ⟨[], rfl⟩
  | y :: r, hy => by
    obtain ⟨v, rfl⟩ := hy y (by simp)
    obtain ⟨l, rfl⟩ := list_of r fun z hz => hy z (by simp [hz])
    exact ⟨v :: l, rfl⟩
theorem ty_strs {x : D} (h : HasTy Tryz.prog 26 x) : ∃ l : List ByteArray, x = .sl (l.map .str) := by
  obtain ⟨xs, rfl, hx⟩ := HasTy.sl_inv Tryz.underlying26 h
  obtain ⟨l, rfl⟩ := list_of (f := D.str) xs fun y hy => HasTy.str_inv Tryz.underlying9 (hx y hy)
  exact ⟨l, rfl⟩
/-- The types that the laws' arguments and the listed variable are made of. -/
def tys : List TypeId := [3, 9, 35, 28, 26, 27, 51, 30, 53, 55, 57, 58, 60, 157]
theorem tys_ok : closedB Tryz.prog tys = true := by kernel_rfl
/-- The rows' list of listed variables. -/
noncomputable def seatLaid : List (String × DataW Unit) := Rows.estimateWalksRow.laid
theorem gi_of {W : World} (hL : laidMetH Tryz.prog seatLaid W) (hS : W.ShapedOpen Tryz.prog) : E.GI W (F0 W) := by
  rw [MakeChecks.laidMetH_plain _ _ _ (by kernel_rfl)] at hL
  obtain ⟨ps, hLV, -⟩ := hL
  refine ⟨fun e he => ?_, trivial, trivial⟩
  simp only [E, seatG, List.mem_singleton] at he
  subst he
  obtain ⟨x, hm, hs⟩ := listed_D tys tys_ok hLV "graphdb/frac.zero" Rows.laid_graphdb_frac_zero 0 157 (by simp [seatLaid, Rows.estimateWalksRow]) (by kernel_rfl) (by kernel_rfl) (by decide)
  obtain ⟨parts, rfl, hl, hp⟩ := Says.agg_inv hs
  match parts, hl with
  | [p0, p1], _ =>
    have e0 := Says.int_inv (hp 0 _ p0 rfl rfl)
    have e1 := Says.int_inv (hp 1 _ p1 rfl rfl)
    subst e0 e1
    exact hm
/-- A world in which the listed variable is as listed. -/
noncomputable def wit (os : Os) : World := World.doorLaid Tryz.prog 400 os
set_option maxRecDepth 100000 in
theorem wit_met (os : Os) (args : Array Value) : laidMetH Tryz.prog seatLaid ((wit os).forCall (fun _ _ => 0) ⟨#[], args, []⟩).memory :=
  laidMetH_of_parts3 (fuel := 8) (laidMet_of_run' 8 (by kernel_rfl) (by kernel_rfl)) (by kernel_rfl) (by kernel_rfl)
set_option maxRecDepth 100000 in
theorem wit_shaped (os : Os) (args : Array Value) : ((wit os).forCall (fun _ _ => 0) ⟨#[], args, []⟩).Shaped Tryz.prog := World.shaped_of_RefB (by kernel_rfl) (by kernel_rfl)
theorem seat_own : ownKnob Tryz.prog.godebug = none := by kernel_rfl
theorem seat_out : laidOutB Tryz.prog = true := by kernel_rfl
end Go.Proofs.YtkjebcnlmanhlaaGreatDoor
