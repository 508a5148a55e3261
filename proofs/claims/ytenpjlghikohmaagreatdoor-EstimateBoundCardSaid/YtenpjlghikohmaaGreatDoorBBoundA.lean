/- EstimateBound: no conjunctive query has more rows than Rows, and the chapter's examples hold. The tied card. Conditions: none beyond the card's own. -/
import Derived.Test.YtenpjlghikohmaaGreatDoorGC
import Derived.Test.YtenpjlghikohmaaGreatDoorBC
import Derived.Test.YtenpjlghikohmaaGreatDoorQC
import Derived.Test.YtenpjlghikohmaaGreatDoorCards
set_option linter.unusedVariables false
set_option linter.unusedSimpArgs false
namespace Go.Proofs.YtenpjlghikohmaaGreatDoor
set_option maxRecDepth 4000
open Go Go.Abs Go.Val Go.RowKit Go.ChangeShapes Go.WideShapes
attribute [local irreducible] go SGo HasBody Ev ExtEv EvO EvS RGo
set_option maxRecDepth 100000 in
theorem bound_lifted (os : Os) (started : os.Started) (H : Type) (enc : TypeId × Value → H) :
    ReturnsInHanded {} Tryz.checked os 4 .any (fun w args => (Rows.estimateBoundSpec.pre enc Tryz.prog Tryz.f4 [] false w args ∧ laidMetH Tryz.prog seatLaid w) ∧ sizedMet enc Tryz.prog Tryz.f4 (OpenSpec.ofChange Rows.estimateBoundSpec) false w args)
      (Rows.estimateBoundSpec.post enc Tryz.prog Tryz.f4 false true false false) := by
  refine lift_true (C := Tryz.checked) (laid := seatLaid) (tb := 4) tysX seat_own started (by kernel_rfl) Tryz.func4
    (ChangeSpec.witness_shaped (enc := enc) (C := Tryz.checked) (os := os) (X := fun w _ => laidMetH Tryz.prog seatLaid w) false (wit os) #[.agg #[.slice none 0 0, .slice none 0 0, .int .i64 0, .int .i64 0], .agg #[.slice none 0 0, .slice none 0 0]] 8 rfl (wit_shaped os _) (by kernel_rfl) (by kernel_rfl) (by kernel_rfl) (wit_met os _))
    rfl rfl Tryz.underlying4 (fun ds hl => ?_) seat_out (by kernel_rfl) tysX_ok (by kernel_rfl) (fun W args xs hL hS hx hsz hr hty => ?_)
  · match ds, hl with
    | [_, _], _ => rfl
  · have hsz' : args.size = 2 := hsz
    rw [hsz'] at hx
    match xs, hx with
    | [x0, x1], _ =>
      obtain ⟨a0, rfl⟩ := ty_GR (hty 0 _ x0 rfl rfl)
      obtain ⟨a1, rfl⟩ := ty_CJ (hty 1 _ x1 rfl rfl)
      exact calls_of_ev (gi_of hL hS) (eb_ev a0 a1) (by simp [hsz']) hr
theorem bound_q0 : (laidOutB Tryz.prog) = true := by kernel_rfl
theorem bound_q1 : (mapsRowed Tryz.prog) = true := by kernel_rfl
theorem bound_q2 : ((Rows.estimateBoundRow.inPlace == Tryz.prog.inPlace 4)) = true := by kernel_rfl
theorem bound_q3 : ((Rows.estimateBoundRow.unfollowed == Tryz.prog.unfollowed 4)) = true := by kernel_rfl
theorem bound_q4 : ((Rows.estimateBoundRow.recurses == Tryz.prog.recurses 4)) = true := by kernel_rfl
theorem bound_q5 : ((Rows.estimateBoundRow.named == Tryz.prog.varsNamed 4)) = true := by kernel_rfl
theorem bound_q6 : ((Rows.estimateBoundRow.loops == (Tryz.f4.params.toList ++ Rows.estimateBoundSpec.plain.varTypes Tryz.prog).any (Tryz.prog.loopsFrom ·))) = true := by kernel_rfl
theorem bound_q7 : (Tryz.prog.stopsHeard) = true := by kernel_rfl
theorem bound_q8 : (Tryz.prog.mayEnter) = true := by kernel_rfl
theorem bound_q9 : ((Rows.estimateBoundRow.lifted == Tryz.prog.liftsFinal)) = true := by kernel_rfl
theorem bound_closed : joinedFacts Tryz.prog 4 Tryz.f4 Rows.estimateBoundSpec Rows.estimateBoundRow = true := by
  unfold joinedFacts
  rw [bound_q0, bound_q1, bound_q2, bound_q3, bound_q4, bound_q5, bound_q6, bound_q7, bound_q8, bound_q9]
  kernel_rfl
end Go.Proofs.YtenpjlghikohmaaGreatDoor
