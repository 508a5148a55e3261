/- The statements' own words: few, and sets of integers by the specification; What Check leaves; the chapter's examples: what the specifications give there; The chapter's examples hold. Conditions: each part's own, as it says. -/
import Derived.Test.YtenpjlghikohmaaGreatDoorGC
import Derived.Test.YtenpjlghikohmaaGreatDoorLD
set_option linter.unusedVariables false
set_option linter.unusedSimpArgs false
namespace Go.Proofs.YtenpjlghikohmaaGreatDoor
set_option maxRecDepth 4000
open Go Go.Abs Go.Val Go.Proofs.Tryz
attribute [local irreducible] go SGo HasBody Ev ExtEv EvO EvS PGo RGo ordF
structure SSa (a b : List Int) where
 i : Nat
 hi : i ≤ a.length
 ok : (a == b) = (a.drop i == b.drop i)
theorem sameI_ev (a b : List Int) : Ev E 47 [.sl (iL a), .sl (iL b)] (.d (.bool (a == b))) := Ev.fit fun hfit => by
 obtain ⟨hm1, -⟩ := fit_map (hfit (.sl (iL a)) (by simp))
 obtain ⟨hm2, -⟩ := fit_map (hfit (.sl (iL b)) (by simp))
 have hl1 := iL_len a
 have hl2 := iL_len b
 by_cases hab : a.length = b.length
 ·have g1 : (((iL a).length : Int) != ((iL b).length : Int)) = false := by rw [hl1, hl2, hab]; simp
  refine ye2 func47 ntmps47 fun _ _ _=>?_
  repeat' (first | refine yz ?_ | refine yx ?_ | (refine yy ?_ ?_ <;> intro _) | exact zD | exact zL)
  refine go_loop_ (α := SSa a b) (fun p => ⟨[(0, .d (.sl (iL a))), (1, .d (.sl (iL b))), (5, .d (.int p.i))], []⟩) (fun p => a.length - p.i) ⟨0, by omega, rfl⟩ (zle 0) ?_
  rintro ⟨i, hi, ok⟩
  dsimp only at ok ⊢
  rcases Nat.lt_or_ge i a.length with hlt | hge
  ·have g2 : decide ((i : Int) < ((iL a).length : Int)) = true := by rw [hl1]; simpa using hlt
   have hx0 := List.getElem?_eq_getElem hlt
   have hy0 := List.getElem?_eq_getElem (show i < b.length by omega)
   generalize a[i] = x at hx0
   generalize b[i] = y at hy0
   have hx := iL_get hx0
   have hy := iL_get hy0
   have hd : (a.drop i == b.drop i) = (x == y && a.drop (i + 1) == b.drop (i + 1)) := by rw [drop_at hx0, drop_at hy0]; rfl
   rw [hd] at ok
   cases hc : x == y with
   | true =>
    have g3 : (x != y) = false := by unfold bne; rw [hc]; rfl
    rw [hc, Bool.true_and] at ok
    repeat' (first | refine yz ?_ | refine yi (.int x) hx ?_ | refine yi (.int y) hy ?_ | refine yx ?_ | (refine yy ?_ ?_ <;> intro _) | exact zD | exact zL)
    refine go_stop ?_
    exact ⟨⟨i + 1, by omega, ok⟩, by dsimp only; omega, (zle 0)⟩
   | false =>
    have g3 : (x != y) = true := by unfold bne; rw [hc]; rfl
    rw [hc, Bool.false_and] at ok
    rw [ok]
    repeat' (first | refine yz ?_ | refine yi (.int x) hx ?_ | refine yi (.int y) hy ?_ | refine yx ?_ | (refine yy ?_ ?_ <;> intro _) | exact zD | exact zL)
  ·have g2 : decide ((i : Int) < ((iL a).length : Int)) = false := by rw [hl1]; simp; omega
   rw [ok, List.drop_eq_nil_of_le hge, List.drop_eq_nil_of_le (by omega)]
   repeat' (first | refine yz ?_ | refine yx ?_ | (refine yy ?_ ?_ <;> intro _) | exact zD | exact zL)
 ·have g1 : (((iL a).length : Int) != ((iL b).length : Int)) = true := by rw [hl1, hl2]; simp; omega
  have e : (a == b) = false := by
   rw [beq_eq_false_iff_ne]
   rintro rfl
   exact hab rfl
  rw [e]
  refine ye2 func47 ntmps47 fun _ _ _=>?_
  repeat' (first | refine yz ?_ | refine yx ?_ | (refine yy ?_ ?_ <;> intro _) | exact zD | exact zL)
end Go.Proofs.YtenpjlghikohmaaGreatDoor
namespace Go.Proofs.YtenpjlghikohmaaGreatDoor
set_option maxRecDepth 4000
open Go Go.Abs Go.Val Go.Proofs.Tryz
theorem chk_okc {c : CJ} (h : chkC c = 0) : OkC c := by
 unfold chkC at h
 cases h1 : decide (c.vs.length > 24) || decide (c.aq.length > 12) with
 | true => rw [h1] at h; simp at h
 | false =>
  rw [h1, cond_false] at h
  cases h2 : c.aq.any (badF c.vs.length) with
  | true => rw [h2] at h; simp at h
  | false =>
   rw [Bool.or_eq_false_iff] at h1
   refine ⟨by have := h1.2; simp at this; omega, fun a ha => ?_⟩
   have hb := List.any_eq_false.1 h2 a ha
   unfold badF at hb
   have hb' : (!shapeF a || a.vs.any fun v => decide (v ≥ (c.vs.length : Int))) = false := by simpa using hb
   rw [Bool.or_eq_false_iff] at hb'
   obtain ⟨s1, s2, -⟩ := shape_arity (a := a) (by simpa using hb'.1)
   have := ari_le a.k
   omega
def lvS : STA := ⟨10, 20, [⟨⟨#[65]⟩, 3⟩], [⟨⟨#[84]⟩, 20⟩], [[4]], [[5]]⟩
def lvL : AT := ⟨1, [0], ⟨#[65]⟩, [], vNull⟩
def lvE : AT := ⟨3, [0, 1, 2], ⟨#[]⟩, [⟨#[84]⟩], vNull⟩
def lvC : CJ := ⟨[⟨#[97]⟩, ⟨#[101]⟩, ⟨#[98]⟩], [lvL, lvE]⟩
def lvD : CJ := ⟨[⟨#[97]⟩], []⟩
theorem lv1 : atomF lvS lvE [0, 2] = 4 := by kernel_rfl
theorem lv2 : atomF lvS lvE [2] = 5 := by kernel_rfl
theorem lv3 : atomF lvS lvE [1] = 1 := by kernel_rfl
theorem lv4 : atomF lvS lvE [] = 20 := by kernel_rfl
theorem lv5 : atomF lvS lvL [0] = 1 := by kernel_rfl
theorem lv6 : chkC lvC = 0 := by kernel_rfl
theorem lv7 : chkC lvD = 25 := by kernel_rfl
theorem lv8 : rowV lvS lvC 0 = 12 := by kernel_rfl
theorem lv9 : ordV lvS lvC 0 = [0, 1] := by kernel_rfl
theorem lv10 : stpN lvS [⟨#[84]⟩, ⟨#[84]⟩, ⟨#[84]⟩] = 320 := by kernel_rfl
theorem lv11 : stpB lvS [⟨#[84]⟩, ⟨#[84]⟩, ⟨#[84]⟩] = true := by kernel_rfl
theorem lv12 : stpB lvS [] = false := by kernel_rfl
attribute [local irreducible] Ev EvO EvS ExtEv HasBody PGo RGo SGo go ordF
set_option maxHeartbeats 2000000 in
theorem lives_ev : Ev E 15 [] (.d (.bool true)) := by
 have hR : Ev E 16 [encST lvS, encCJ lvC] (.tup [natD 12, .int 0]) := by
  have := rows_ev lvS lvC (chkC lvC) (checkC_ev lvC) fun h => ⟨chk_okc h, by decide⟩
  rw [lv6, lv8] at this
  exact this
 have hO : Ev E 48 [encST lvS, encCJ lvC] (.d (.sl (iL [0, 1]))) := by
  have := order_ev3 lvS lvC (chkC lvC) (checkC_ev lvC) fun h => ⟨chk_okc h, by decide⟩
  rw [lv6, lv9] at this
  exact this
 have hD : Ev E 16 [encST lvS, encCJ lvD] (.tup [natD 0, .int 25]) := by
  have := rows_ev lvS lvD (chkC lvD) (checkC_ev lvD) fun h => ⟨chk_okc h, by decide⟩
  rw [lv7] at this
  exact this
 have hS : Ev E 46 [encST lvS, .sl ([⟨#[84]⟩, ⟨#[84]⟩, ⟨#[84]⟩].map .str)] (.tup [natD 320, .bool true]) := by
  have := steps_ev lvS [⟨#[84]⟩, ⟨#[84]⟩, ⟨#[84]⟩]
  rw [lv10, lv11] at this
  exact this
 have hS0 : Ev E 46 [encST lvS, .sl []] (.tup [natD 0, .bool false]) := by
  have := steps_ev lvS []
  rw [lv12] at this
  exact this
 have hA1 : Ev E 49 [encST lvS, encAT lvE, .sl (iL [0, 2])] (.d (.int 4)) := by have := atom_ev lvS lvE [0, 2]; rwa [lv1] at this
 have hA2 : Ev E 49 [encST lvS, encAT lvE, .sl (iL [2])] (.d (.int 5)) := by have := atom_ev lvS lvE [2]; rwa [lv2] at this
 have hA3 : Ev E 49 [encST lvS, encAT lvE, .sl (iL [1])] (.d (.int 1)) := by have := atom_ev lvS lvE [1]; rwa [lv3] at this
 have hA4 : Ev E 49 [encST lvS, encAT lvE, .sl []] (.d (.int 20)) := by have := atom_ev lvS lvE []; rwa [lv4] at this
 have hA5 : Ev E 49 [encST lvS, encAT lvL, .sl (iL [0])] (.d (.int 1)) := by have := atom_ev lvS lvL [0]; rwa [lv5] at this
 have hN1 : Ev E 18 [.int 12] (.d (natD 12)) := nof_ev 12
 have hN2 : Ev E 18 [.int 320] (.d (natD 320)) := nof_ev 320
 have hC1 : Ev E 17 [natD 12, natD 12] (.d (.int 0)) := by
  have := ncmp_ev 12 12 (Nat.le_trans (lim_small (by decide)) (by decide)) (Nat.le_trans (lim_small (by decide)) (by decide))
  rwa [show cmpN 12 12 = 0 from rfl] at this
 have hC2 : Ev E 17 [natD 320, natD 320] (.d (.int 0)) := by
  have := ncmp_ev 320 320 (Nat.le_trans (lim_small (by decide)) (by decide)) (Nat.le_trans (lim_small (by decide)) (by decide))
  rwa [show cmpN 320 320 = 0 from rfl] at this
 have hM : Ev E 47 [.sl (iL [0, 1]), .sl (iL [0, 1])] (.d (.bool true)) := sameI_ev [0, 1] [0, 1]
 refine enter0 func15 ntmps15 rfl rfl fun w0 F0 O => ?_
 repeat' (first | refine yz ?_ | refine qP (d := 37) rfl rfl rfl rfl rfl rfl b16 (hR) ?_ | refine qP (d := 43) rfl rfl rfl rfl rfl rfl b46 (hS) ?_ | refine qP (d := 48) rfl rfl rfl rfl rfl rfl b46 (hS0) ?_ | refine qP (d := 55) rfl rfl rfl rfl rfl rfl b16 (hD) ?_ | refine qP (d := 62) rfl rfl rfl rfl rfl rfl b18 (hN1) ?_ | refine qP (d := 63) rfl rfl rfl rfl rfl rfl b17 (hC1) ?_ | refine qP (d := 69) rfl rfl rfl rfl rfl rfl b48 (hO) ?_ | refine qP (d := 71) rfl rfl rfl rfl rfl rfl b47 (hM) ?_ | refine qP (d := 78) rfl rfl rfl rfl rfl rfl b18 (hN2) ?_ | refine qP (d := 79) rfl rfl rfl rfl rfl rfl b17 (hC2) ?_ | refine qP (d := 94) rfl rfl rfl rfl rfl rfl b49 (hA1) ?_ | refine qP (d := 101) rfl rfl rfl rfl rfl rfl b49 (hA2) ?_ | refine qP (d := 108) rfl rfl rfl rfl rfl rfl b49 (hA3) ?_ | refine qP (d := 114) rfl rfl rfl rfl rfl rfl b49 (hA4) ?_ | refine qP (d := 121) rfl rfl rfl rfl rfl rfl b49 (hA5) ?_ | refine yx ?_ | (refine yy ?_ ?_ <;> intro _) | exact zD | exact zL)
end Go.Proofs.YtenpjlghikohmaaGreatDoor
