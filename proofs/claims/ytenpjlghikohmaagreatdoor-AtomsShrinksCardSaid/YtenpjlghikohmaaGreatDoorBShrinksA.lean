/- AtomsShrinks: an additional atom adds no tuples and the order of the atoms does not matter, and the chapter's example holds. The tied card. Conditions: none beyond the card's own. -/
import Derived.Test.YtenpjlghikohmaaGreatDoorGC
import Derived.Test.YtenpjlghikohmaaGreatDoorBB
import Derived.Test.YtenpjlghikohmaaGreatDoorQB
import Derived.Test.YtenpjlghikohmaaGreatDoorCards
set_option linter.unusedVariables false
set_option linter.unusedSimpArgs false
namespace Go.Proofs.YtenpjlghikohmaaGreatDoor
set_option maxRecDepth 4000
open Go Go.Abs Go.Val Go.RowKit Go.ChangeShapes Go.WideShapes
attribute [local irreducible] go SGo an2 Ev aw2 EvO EvS RGo
theorem ez4 (g : Gr) (c : CJ) (a : AT) : Ev E 6 [cy2 g, di8 c, di7 a] (.d (.bool true)) := ez3 ep2 g c a
set_option maxRecDepth 100000 in
theorem shrinks_lifted (os : Os) (started : os.Started) (H : Type) (enc : TypeId × Value → H) :
    ReturnsInHanded {} Tryz.checked os 6 .any (fun w args => (Rows.atomsShrinksSpec.pre enc Tryz.prog Tryz.f6 [] false w args ∧ laidMetH Tryz.prog eq0 w) ∧ sizedMet enc Tryz.prog Tryz.f6 (OpenSpec.ofChange Rows.atomsShrinksSpec) false w args)
      (Rows.atomsShrinksSpec.post enc Tryz.prog Tryz.f6 false true false false) := by
  refine bb0 (C := Tryz.checked) (laid := eq0) (tb := 4) tysX eq3 started (by kernel_rfl) Tryz.func6
    (ChangeSpec.witness_shaped (enc := enc) (C := Tryz.checked) (os := os) (X := fun w _ => laidMetH Tryz.prog eq0 w) false (wit os) #[.agg #[.slice none 0 0, .slice none 0 0, .int .i64 0, .int .i64 0], .agg #[.slice none 0 0, .slice none 0 0], .agg #[.int .i64 0, .slice none 0 0, .string ⟨#[]⟩, .slice none 0 0, .int .i64 0, .int .i64 0, .int .i64 0, .string ⟨#[]⟩, .slice none 0 0]] 8 rfl (eq2 os _) (by kernel_rfl) (by kernel_rfl) (by kernel_rfl) (eq1 os _))
    rfl rfl Tryz.underlying4 (fun ds hl => ?_) eq4 (by kernel_rfl) eq9 (by kernel_rfl) (fun W args xs hL hS hx hsz hr hty => ?_)
  · match ds, hl with
    | [_, _, _], _ => rfl
  · have hsz' : args.size = 3 := hsz;rw [hsz'] at hx
    match xs, hx with
    | [x0, x1, x2], _ =>
      obtain ⟨a0, rfl⟩ := ty_GR (hty 0 _ x0 rfl rfl);obtain ⟨a1, rfl⟩ := ty_CJ (hty 1 _ x1 rfl rfl);obtain ⟨a2, rfl⟩ := ep7 (hty 2 _ x2 rfl rfl);exact ba9 (gi_of hL hS) (ez4 a0 a1 a2) (by simp [hsz']) hr
theorem shrinks_q0 : (laidOutB Tryz.prog) = true := by kernel_rfl
theorem shrinks_q1 : (mapsRowed Tryz.prog) = true := by kernel_rfl
theorem shrinks_q2 : ((Rows.atomsShrinksRow.inPlace == Tryz.prog.inPlace 6)) = true := by kernel_rfl
theorem shrinks_q3 : ((Rows.atomsShrinksRow.unfollowed == Tryz.prog.unfollowed 6)) = true := by kernel_rfl
theorem shrinks_q4 : ((Rows.atomsShrinksRow.recurses == Tryz.prog.recurses 6)) = true := by kernel_rfl
theorem shrinks_q5 : ((Rows.atomsShrinksRow.named == Tryz.prog.varsNamed 6)) = true := by kernel_rfl
theorem shrinks_q6 : ((Rows.atomsShrinksRow.loops == (Tryz.f6.params.toList ++ Rows.atomsShrinksSpec.plain.varTypes Tryz.prog).any (Tryz.prog.loopsFrom ·))) = true := by kernel_rfl
theorem shrinks_q7 : (Tryz.prog.stopsHeard) = true := by kernel_rfl
theorem shrinks_q8 : (Tryz.prog.mayEnter) = true := by kernel_rfl
theorem shrinks_q9 : ((Rows.atomsShrinksRow.lifted == Tryz.prog.liftsFinal)) = true := by kernel_rfl
theorem shrinks_closed : joinedFacts Tryz.prog 6 Tryz.f6 Rows.atomsShrinksSpec Rows.atomsShrinksRow = true := by
  unfold joinedFacts
  rw [shrinks_q0, shrinks_q1, shrinks_q2, shrinks_q3, shrinks_q4, shrinks_q5, shrinks_q6, shrinks_q7, shrinks_q8, shrinks_q9]
  kernel_rfl
end Go.Proofs.YtenpjlghikohmaaGreatDoor
