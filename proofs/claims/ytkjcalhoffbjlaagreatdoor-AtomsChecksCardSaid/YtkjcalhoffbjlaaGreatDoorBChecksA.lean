/- AtomsChecks: Check and Vars answer as the document's, and the chapter's example holds. The tied card. Conditions: none beyond the card's own. -/
import Derived.Test.YtkjcalhoffbjlaaGreatDoorGC
import Derived.Test.YtkjcalhoffbjlaaGreatDoorBB
import Derived.Test.YtkjcalhoffbjlaaGreatDoorZA
import Derived.Test.YtkjcalhoffbjlaaGreatDoorCards
set_option linter.unusedVariables false
set_option linter.unusedSimpArgs false
namespace Go.Proofs.YtkjcalhoffbjlaaGreatDoor
set_option maxRecDepth 4000
open Go Go.Abs Go.Val Go.RowKit Go.ChangeShapes Go.WideShapes
attribute [local irreducible] go SGo HasBody Ev ExtEv EvO EvS RGo
theorem achecks_ev (c : CJ) : Ev E 4 [encCJ c] (.d (.bool true)) := law_checks alive28_ev c
set_option maxRecDepth 100000 in
theorem checks_lifted (os : Os) (started : os.Started) (H : Type) (enc : TypeId × Value → H) :
    ReturnsInHanded {} Tryz.checked os 4 .any (fun w args => (Rows.atomsChecksSpec.pre enc Tryz.prog Tryz.f4 [] false w args ∧ laidMetH Tryz.prog seatLaid w) ∧ sizedMet enc Tryz.prog Tryz.f4 (OpenSpec.ofChange Rows.atomsChecksSpec) false w args)
      (Rows.atomsChecksSpec.post enc Tryz.prog Tryz.f4 false true false false) := by
  refine lift_true (C := Tryz.checked) (laid := seatLaid) (tb := 4) tys seat_own started (by kernel_rfl) Tryz.func4
    (ChangeSpec.witness_shaped (enc := enc) (C := Tryz.checked) (os := os) (X := fun w _ => laidMetH Tryz.prog seatLaid w) false (wit os) #[.agg #[.slice none 0 0, .slice none 0 0]] 8 rfl (wit_shaped os _) (by kernel_rfl) (by kernel_rfl) (by kernel_rfl) (wit_met os _))
    rfl rfl Tryz.underlying4 (fun ds hl => ?_) seat_out (by kernel_rfl) tys_ok (by kernel_rfl) (fun W args xs hL hS hx hsz hr hty => ?_)
  · match ds, hl with
    | [_], _ => rfl
  · have hsz' : args.size = 1 := hsz
    rw [hsz'] at hx
    match xs, hx with
    | [x0], _ =>
      obtain ⟨a0, rfl⟩ := ty_CJ (hty 0 _ x0 rfl rfl)
      exact calls_of_ev (gi_of hL hS) (achecks_ev a0) (by simp [hsz']) hr
theorem checks_q0 : (laidOutB Tryz.prog) = true := by kernel_rfl
theorem checks_q1 : (mapsRowed Tryz.prog) = true := by kernel_rfl
theorem checks_q2 : ((Rows.atomsChecksRow.inPlace == Tryz.prog.inPlace 4)) = true := by kernel_rfl
theorem checks_q3 : ((Rows.atomsChecksRow.unfollowed == Tryz.prog.unfollowed 4)) = true := by kernel_rfl
theorem checks_q4 : ((Rows.atomsChecksRow.recurses == Tryz.prog.recurses 4)) = true := by kernel_rfl
theorem checks_q5 : ((Rows.atomsChecksRow.named == Tryz.prog.varsNamed 4)) = true := by kernel_rfl
theorem checks_q6 : ((Rows.atomsChecksRow.loops == (Tryz.f4.params.toList ++ Rows.atomsChecksSpec.plain.varTypes Tryz.prog).any (Tryz.prog.loopsFrom ·))) = true := by kernel_rfl
theorem checks_q7 : (Tryz.prog.stopsHeard) = true := by kernel_rfl
theorem checks_q8 : (Tryz.prog.mayEnter) = true := by kernel_rfl
theorem checks_q9 : ((Rows.atomsChecksRow.lifted == Tryz.prog.liftsFinal)) = true := by kernel_rfl
theorem checks_closed : joinedFacts Tryz.prog 4 Tryz.f4 Rows.atomsChecksSpec Rows.atomsChecksRow = true := by
  unfold joinedFacts
  rw [checks_q0, checks_q1, checks_q2, checks_q3, checks_q4, checks_q5, checks_q6, checks_q7, checks_q8, checks_q9]
  kernel_rfl
end Go.Proofs.YtkjcalhoffbjlaaGreatDoor
