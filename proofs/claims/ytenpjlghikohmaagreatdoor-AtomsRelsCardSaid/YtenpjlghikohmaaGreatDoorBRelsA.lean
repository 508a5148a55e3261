/- AtomsRels: Rel answers as the document's for all small graphs and atoms, and the chapter's example holds. The tied card. Conditions: none beyond the card's own. -/
import Derived.Test.YtenpjlghikohmaaGreatDoorGC
import Derived.Test.YtenpjlghikohmaaGreatDoorBB
import Derived.Test.YtenpjlghikohmaaGreatDoorRB
import Derived.Test.YtenpjlghikohmaaGreatDoorCards
set_option linter.unusedVariables false
set_option linter.unusedSimpArgs false
namespace Go.Proofs.YtenpjlghikohmaaGreatDoor
set_option maxRecDepth 4000
open Go Go.Abs Go.Val Go.RowKit Go.ChangeShapes Go.WideShapes
attribute [local irreducible] go SGo HasBody Ev ExtEv EvO EvS RGo
theorem arels_ev (g : Gr) (a : AT) : Ev E 5 [encGr g, encAT a] (.d (.bool true)) := law_rels alive28_ev g a
set_option maxRecDepth 100000 in
theorem rels_lifted (os : Os) (started : os.Started) (H : Type) (enc : TypeId × Value → H) :
    ReturnsInHanded {} Tryz.checked os 5 .any (fun w args => (Rows.atomsRelsSpec.pre enc Tryz.prog Tryz.f5 [] false w args ∧ laidMetH Tryz.prog seatLaid w) ∧ sizedMet enc Tryz.prog Tryz.f5 (OpenSpec.ofChange Rows.atomsRelsSpec) false w args)
      (Rows.atomsRelsSpec.post enc Tryz.prog Tryz.f5 false true false false) := by
  refine lift_true (C := Tryz.checked) (laid := seatLaid) (tb := 4) tysX seat_own started (by kernel_rfl) Tryz.func5
    (ChangeSpec.witness_shaped (enc := enc) (C := Tryz.checked) (os := os) (X := fun w _ => laidMetH Tryz.prog seatLaid w) false (wit os) #[.agg #[.slice none 0 0, .slice none 0 0, .int .i64 0, .int .i64 0], .agg #[.int .i64 0, .slice none 0 0, .string ⟨#[]⟩, .slice none 0 0, .int .i64 0, .int .i64 0, .int .i64 0, .string ⟨#[]⟩, .slice none 0 0]] 8 rfl (wit_shaped os _) (by kernel_rfl) (by kernel_rfl) (by kernel_rfl) (wit_met os _))
    rfl rfl Tryz.underlying4 (fun ds hl => ?_) seat_out (by kernel_rfl) tysX_ok (by kernel_rfl) (fun W args xs hL hS hx hsz hr hty => ?_)
  · match ds, hl with
    | [_, _], _ => rfl
  · have hsz' : args.size = 2 := hsz
    rw [hsz'] at hx
    match xs, hx with
    | [x0, x1], _ =>
      obtain ⟨a0, rfl⟩ := ty_GR (hty 0 _ x0 rfl rfl)
      obtain ⟨a1, rfl⟩ := ty_AT (hty 1 _ x1 rfl rfl)
      exact calls_of_ev (gi_of hL hS) (arels_ev a0 a1) (by simp [hsz']) hr
theorem rels_q0 : (laidOutB Tryz.prog) = true := by kernel_rfl
theorem rels_q1 : (mapsRowed Tryz.prog) = true := by kernel_rfl
theorem rels_q2 : ((Rows.atomsRelsRow.inPlace == Tryz.prog.inPlace 5)) = true := by kernel_rfl
theorem rels_q3 : ((Rows.atomsRelsRow.unfollowed == Tryz.prog.unfollowed 5)) = true := by kernel_rfl
theorem rels_q4 : ((Rows.atomsRelsRow.recurses == Tryz.prog.recurses 5)) = true := by kernel_rfl
theorem rels_q5 : ((Rows.atomsRelsRow.named == Tryz.prog.varsNamed 5)) = true := by kernel_rfl
theorem rels_q6 : ((Rows.atomsRelsRow.loops == (Tryz.f5.params.toList ++ Rows.atomsRelsSpec.plain.varTypes Tryz.prog).any (Tryz.prog.loopsFrom ·))) = true := by kernel_rfl
theorem rels_q7 : (Tryz.prog.stopsHeard) = true := by kernel_rfl
theorem rels_q8 : (Tryz.prog.mayEnter) = true := by kernel_rfl
theorem rels_q9 : ((Rows.atomsRelsRow.lifted == Tryz.prog.liftsFinal)) = true := by kernel_rfl
theorem rels_closed : joinedFacts Tryz.prog 5 Tryz.f5 Rows.atomsRelsSpec Rows.atomsRelsRow = true := by
  unfold joinedFacts
  rw [rels_q0, rels_q1, rels_q2, rels_q3, rels_q4, rels_q5, rels_q6, rels_q7, rels_q8, rels_q9]
  kernel_rfl
end Go.Proofs.YtenpjlghikohmaaGreatDoor
