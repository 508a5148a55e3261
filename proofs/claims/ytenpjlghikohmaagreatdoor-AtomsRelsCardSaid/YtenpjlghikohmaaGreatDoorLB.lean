/- Comparison of numbers of many limbs, by both texts; Statistics: the counts, by both texts; Statistics: the greatest degrees, by both texts; The bound for an atom, by both texts; The bound for an atom, by both texts: the functions themselves; The specification's bound for an atom; The factors and the variables of a set of atoms, by both texts. Conditions: each part's own, as it says. -/
import Derived.Test.YtenpjlghikohmaaGreatDoorLA
import Derived.Test.YtenpjlghikohmaaGreatDoorMA
import Derived.Test.YtenpjlghikohmaaGreatDoorGC
import Derived.Test.YtenpjlghikohmaaGreatDoorGG
set_option linter.unusedVariables false
set_option linter.unusedSimpArgs false
namespace Go.Proofs.YtenpjlghikohmaaGreatDoor
set_option maxRecDepth 4000
open Go Go.Abs Go.Val Go.Proofs.Tryz
attribute [local irreducible] go SGo HasBody Ev ExtEv EvO EvS
attribute [local irreducible] PGo
def optI (o : Option Nat) : Int := match o with | some i => (i : Int) | none => -1
structure SHi (l : List Int) (f : Int → Bool) where
 i : Nat
 hi : i ≤ l.length
 ok : ∀ j, j < i → ∀ y, l[j]? = some y → f y = false
theorem fx_none {l : List Int} {f : Int → Bool} (h : ∀ j, j < l.length → ∀ y, l[j]? = some y → f y = false) : l.findIdx? f = none := by
 rw [List.findIdx?_eq_none_iff]
 intro x hx
 obtain ⟨j, hj⟩ := List.getElem?_of_mem hx
 exact h j (List.getElem?_eq_some_iff.1 hj).1 x hj
theorem fx_some {l : List Int} {f : Int → Bool} {i : Nat} {x : Int} (hx : l[i]? = some x) (hc : f x = true) (h : ∀ j, j < i → ∀ y, l[j]? = some y → f y = false) : l.findIdx? f = some i := by
 have hi := (List.getElem?_eq_some_iff.1 hx).1
 rw [List.findIdx?_eq_some_iff_getElem]
 refine ⟨hi, ?_, fun j hj => ?_⟩
 ·rw [List.getElem?_eq_getElem hi] at hx
  cases hx
  exact hc
 ·have := h j hj _ (List.getElem?_eq_getElem (by omega))
  simpa using this
theorem SHi.next {l : List Int} {f : Int → Bool} {i : Nat} {x : Int} (hx : l[i]? = some x) (hc : f x = false) (h : ∀ j, j < i → ∀ y, l[j]? = some y → f y = false) : ∀ j, j < i + 1 → ∀ y, l[j]? = some y → f y = false := by
 intro j hj y hy
 rcases Nat.lt_succ_iff_lt_or_eq.1 hj with h1 | rfl
 ·exact h j h1 y hy
 ·rw [hx] at hy; cases hy; exact hc
theorem indexI_ev (l : List Int) (x : Int) : Ev E 151 [.sl (iL l), .int x] (.d (.int (optI (l.findIdx? fun y => x == y)))) := Ev.fit fun hfit => by
 have hmax := (fit_map (hfit (.sl (iL l)) (by simp))).1
 have hle := iL_len l
 refine ye2 func151 ntmps151 fun _ _ _=>?_
 repeat' (first | refine yz ?_ | refine yx ?_ | (refine yy ?_ ?_ <;> intro _) | exact zD | exact zL)
 refine go_loop_ (α := SHi l fun y => x == y) (fun p => ⟨[(0, .d (.sl (iL l))), (1, .d (.int x)), (7, .d (.int (iL l).length)), (8, .d (.int p.i))], []⟩) (fun p => l.length - p.i) ⟨0, by omega, fun j hj => absurd hj (by omega)⟩ (zle 0) ?_
 rintro ⟨i, hi, ok⟩
 dsimp only
 rcases Nat.lt_or_ge i l.length with hlt | hge
 ·have g1 : decide ((i : Int) < ((iL l).length : Int)) = true := by rw [hle]; simpa using hlt
  have hx0 := List.getElem?_eq_getElem hlt
  generalize l[i] = y at hx0
  have hx := iL_get hx0
  cases hc : x == y with
  | true =>
   rw [fx_some hx0 hc ok]
   repeat' (first | refine yz ?_ | refine yi (.int y) hx ?_ | refine yx ?_ | (refine yy ?_ ?_ <;> intro _) | exact zD | exact zL)
  | false =>
   repeat' (first | refine yz ?_ | refine yi (.int y) hx ?_ | refine yx ?_ | (refine yy ?_ ?_ <;> intro _) | exact zD | exact zL)
   refine go_stop ?_
   exact ⟨⟨i + 1, by omega, SHi.next hx0 hc ok⟩, by dsimp only; omega, (zle 0)⟩
 ·have g1 : decide ((i : Int) < ((iL l).length : Int)) = false := by rw [hle]; simp; omega
  rw [fx_none fun j hj => ok j (by omega)]
  repeat' (first | refine yz ?_ | refine yx ?_ | (refine yy ?_ ?_ <;> intro _) | exact zD | exact zL)
theorem atk_cases (k : Int) : k = 3 ∨ k = 1 ∨ k = 2 ∨ k = 4 ∨ ((k == 3) = false ∧ (k == 1) = false ∧ (k == 2) = false ∧ (k == 4) = false) := by
 simp only [beq_eq_false_iff_ne, ne_eq]; omega
structure SAl (vs b : List Int) where
 i : Nat
 c : Bool
 hi : i ≤ vs.length
 ok : vs.all (fun v => b.contains v) = (c && (vs.drop i).all fun v => b.contains v)
theorem SAl.next {vs b : List Int} {i : Nat} {c : Bool} {x : Int} (hx : vs[i]? = some x) (ok : vs.all (fun v => b.contains v) = (c && (vs.drop i).all fun v => b.contains v)) :
  vs.all (fun v => b.contains v) = ((c && b.contains x) && (vs.drop (i + 1)).all fun v => b.contains v) := by
 rw [ok, drop_at hx, List.all_cons, Bool.and_assoc]
attribute [local irreducible] RGo
theorem iL_nil (l : List Int) : iL l = [] ↔ l = [] := by simp [iL]
end Go.Proofs.YtenpjlghikohmaaGreatDoor
