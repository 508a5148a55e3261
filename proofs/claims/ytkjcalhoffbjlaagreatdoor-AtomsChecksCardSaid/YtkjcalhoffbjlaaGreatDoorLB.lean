/- Comparison of numbers of many limbs, by both texts; Statistics: the counts, by both texts; Statistics: the greatest degrees, by both texts; The bound for an atom, by both texts; The bound for an atom, by both texts: the functions themselves; The specification's bound for an atom; The factors and the variables of a set of atoms, by both texts. Conditions: each part's own, as it says. -/
import Derived.Test.YtkjcalhoffbjlaaGreatDoorLA
import Derived.Test.YtkjcalhoffbjlaaGreatDoorMA
import Derived.Test.YtkjcalhoffbjlaaGreatDoorGC
import Derived.Test.YtkjcalhoffbjlaaGreatDoorGG
set_option linter.unusedVariables false
set_option linter.unusedSimpArgs false
namespace Go.Proofs.YtkjcalhoffbjlaaGreatDoor
set_option maxRecDepth 4000
open Go Go.Abs Go.Val
attribute [local irreducible] go SGo HasBody Ev ExtEv EvO EvS
attribute [local irreducible] PGo
def optI (o : Option Nat) : Int := match o with | some i => (i : Int) | none => -1
structure SHi (l : List Int) (f : Int → Bool) where
 i : Nat
 hi : i ≤ l.length
 ok : ∀ j, j < i → ∀ y, l[j]? = some y → f y = false
theorem SHi.next {l : List Int} {f : Int → Bool} {i : Nat} {x : Int} (hx : l[i]? = some x) (hc : f x = false) (h : ∀ j, j < i → ∀ y, l[j]? = some y → f y = false) : ∀ j, j < i + 1 → ∀ y, l[j]? = some y → f y = false := by
 intro j hj y hy
 rcases Nat.lt_succ_iff_lt_or_eq.1 hj with h1 | rfl
 ·exact h j h1 y hy
 ·rw [hx] at hy; cases hy; exact hc
theorem atk_cases (k : Int) : k = 3 ∨ k = 1 ∨ k = 2 ∨ k = 4 ∨ ((k == 3) = false ∧ (k == 1) = false ∧ (k == 2) = false ∧ (k == 4) = false) := by
 simp only [beq_eq_false_iff_ne, ne_eq]; omega
structure SAl (vs b : List Int) where
 i : Nat
 c : Bool
 hi : i ≤ vs.length
 ok : vs.all (fun v => b.contains v) = (c && (vs.drop i).all fun v => b.contains v)
theorem SAl.next {vs b : List Int} {i : Nat} {c : Bool} {x : Int} (hx : vs[i]? = some x) (ok : vs.all (fun v => b.contains v) = (c && (vs.drop i).all fun v => b.contains v)) :
  vs.all (fun v => b.contains v) = ((c && b.contains x) && (vs.drop (i + 1)).all fun v => b.contains v) := by
 rw [ok, drop_at hx, List.all_cons, Bool.and_assoc]
attribute [local irreducible] RGo
end Go.Proofs.YtkjcalhoffbjlaaGreatDoor
