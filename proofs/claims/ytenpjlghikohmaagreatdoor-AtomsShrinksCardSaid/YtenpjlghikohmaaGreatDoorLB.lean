/- Comparison of numbers of many limbs, by both texts; Statistics: the counts, by both texts; Statistics: the greatest degrees, by both texts; The bound for an atom, by both texts; The bound for an atom, by both texts: the functions themselves; The specification's bound for an atom; The factors and the variables of a set of atoms, by both texts. Conditions: each part's own, as it says. -/
import Derived.Test.YtenpjlghikohmaaGreatDoorLA
import Derived.Test.YtenpjlghikohmaaGreatDoorMA
import Derived.Test.YtenpjlghikohmaaGreatDoorGC
import Derived.Test.YtenpjlghikohmaaGreatDoorGG
set_option linter.unusedVariables false
set_option linter.unusedSimpArgs false
namespace Go.Proofs.YtenpjlghikohmaaGreatDoor
set_option maxRecDepth 4000
open Go Go.Abs Go.Val Go.Proofs.Tryz
attribute [local irreducible] go SGo an2 Ev aw2 EvO EvS
attribute [local irreducible] PGo
def dj4 (o : Option Nat) : Int := match o with | some i => (i : Int) | none => -1
structure SHi (l : List Int) (f : Int → Bool) where
 i : Nat
 hi : i ≤ l.length
 ok : ∀ j, j < i → ∀ y, l[j]? = some y → f y = false
theorem dj5 {l : List Int} {f : Int → Bool} (h : ∀ j, j < l.length → ∀ y, l[j]? = some y → f y = false) : l.findIdx? f = none := by
 rw [fh4];intro x hx;obtain ⟨j, hj⟩ := fb0 hx;exact h j (ez7.1 hj).1 x hj
theorem dj6 {l : List Int} {f : Int → Bool} {i : Nat} {x : Int} (hx : l[i]? = some x) (hc : f x = true) (h : ∀ j, j < i → ∀ y, l[j]? = some y → f y = false) : l.findIdx? f = some i := by
 have hi := (ez7.1 hx).1;rw [fj8];refine ⟨hi, ?_, fun j hj => ?_⟩
 ·rw [ez5 hi] at hx
  cases hx
  exact hc
 ·have := h j hj _ (ez5 (by omega));simpa using this
theorem SHi.next {l : List Int} {f : Int → Bool} {i : Nat} {x : Int} (hx : l[i]? = some x) (hc : f x = false) (h : ∀ j, j < i → ∀ y, l[j]? = some y → f y = false) : ∀ j, j < i + 1 → ∀ y, l[j]? = some y → f y = false := by
 intro j hj y hy;rcases fl7.1 hj with h1 | rfl
 ·exact h j h1 y hy
 ·rw [hx] at hy; cases hy; exact hc
theorem dj7 (l : List Int) (x : Int) : Ev E 151 [.sl (iL l), .int x] (.d (.int (dj4 (l.findIdx? fun y => x == y)))) := Ev.fit fun hfit => by
 have hmax := (cy4 (hfit (.sl (iL l)) (by simp))).1;have hle := di9 l;refine ye2 func151 ntmps151 fun _ _ _=>?_
 repeat' (first | refine yz ?_ | refine yx ?_ | (refine yy ?_ ?_ <;> intro _) | exact zD | exact zL)
 refine ac7 (α := SHi l fun y => x == y) (fun p => ⟨[(0, .d (.sl (iL l))), (1, .d (.int x)), (7, .d (.int (iL l).length)), (8, .d (.int p.i))], []⟩) (fun p => l.length - p.i) ⟨0, by omega, fun j hj => absurd hj (by omega)⟩ (zle 0) ?_;rintro ⟨i, hi, ok⟩;dsimp only;rcases ez6 i l.length with hlt | hge
 ·have g1 : decide ((i : Int) < ((iL l).length : Int)) = true := by rw [hle]; simpa using hlt
  have hx0 := ez5 hlt;generalize l[i] = y at hx0;have hx := dj0 hx0
  cases hc : x == y with
  | true =>
   rw [dj6 hx0 hc ok]
   repeat' (first | refine yz ?_ | refine yi (.int y) hx ?_ | refine yx ?_ | (refine yy ?_ ?_ <;> intro _) | exact zD | exact zL)
  | false =>
   repeat' (first | refine yz ?_ | refine yi (.int y) hx ?_ | refine yx ?_ | (refine yy ?_ ?_ <;> intro _) | exact zD | exact zL)
   refine ac1 ?_;exact ⟨⟨i + 1, by omega, SHi.next hx0 hc ok⟩, by dsimp only; omega, (zle 0)⟩
 ·have g1 : decide ((i : Int) < ((iL l).length : Int)) = false := by rw [hle]; simp; omega
  rw [dj5 fun j hj => ok j (by omega)]
  repeat' (first | refine yz ?_ | refine yx ?_ | (refine yy ?_ ?_ <;> intro _) | exact zD | exact zL)
theorem dj8 {l : List Int} {f : Int → Bool} : decide (dj4 (l.findIdx? f) ≥ 0) = l.any f := by
 cases h : l.findIdx? f with
 | none =>
  rw [fh4] at h;have : l.any f = false := by rw [fh3]; intro x hx; simpa using h x hx
  rw [this]; rfl
 | some i =>
  obtain ⟨hi, h1, -⟩ := fj8.1 h;have : l.any f = true := fj9.2 ⟨_, fc9 hi, h1⟩;rw [this];simp [dj4]
theorem dj9 (l : List Int) (x : Int) : l.contains x = l.any fun y => x == y := by
 rw [List.contains_eq_any_beq]
theorem dk0 (l : List Int) (x : Int) : Ev E 132 [.sl (iL l), .int x] (.d (.bool (l.contains x))) := by
 have h := dj7 l x;rw [dj9, ← dj8];refine ye2 func132 ntmps132 fun _ _ _=>?_
 repeat' (first | refine yz ?_ | refine yp bv1 h ?_ | refine yx ?_ | (refine yy ?_ ?_ <;> intro _) | exact zD | exact zL)
theorem dk1 (k : Int) : k = 3 ∨ k = 1 ∨ k = 2 ∨ k = 4 ∨ ((k == 3) = false ∧ (k == 1) = false ∧ (k == 2) = false ∧ (k == 4) = false) := by
 simp only [beq_eq_false_iff_ne, ne_eq]; omega
structure SAl (vs b : List Int) where
 i : Nat
 c : Bool
 hi : i ≤ vs.length
 ok : vs.all (fun v => b.contains v) = (c && (vs.drop i).all fun v => b.contains v)
theorem SAl.next {vs b : List Int} {i : Nat} {c : Bool} {x : Int} (hx : vs[i]? = some x) (ok : vs.all (fun v => b.contains v) = (c && (vs.drop i).all fun v => b.contains v)) :
  vs.all (fun v => b.contains v) = ((c && b.contains x) && (vs.drop (i + 1)).all fun v => b.contains v) := by
 rw [ok, bz2 hx, fe0, Bool.and_assoc]
attribute [local irreducible] RGo
theorem dk2 (l : List Int) : iL l = [] ↔ l = [] := by simp [iL]
end Go.Proofs.YtenpjlghikohmaaGreatDoor
