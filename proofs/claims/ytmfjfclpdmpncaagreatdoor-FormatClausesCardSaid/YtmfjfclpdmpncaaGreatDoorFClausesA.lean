/- FormatClauses: the canonical text of a small clause, or the error, is the document's; and the chapter's examples hold. The tied card. Conditions: none beyond the card's own. -/
import Derived.Test.YtmfjfclpdmpncaaGreatDoorGC
import Derived.Test.YtmfjfclpdmpncaaGreatDoorDC
import Derived.Test.YtmfjfclpdmpncaaGreatDoorCards
set_option linter.unusedVariables false
set_option linter.unusedSimpArgs false
namespace Go.Proofs.YtmfjfclpdmpncaaGreatDoor
set_option maxRecDepth 4000
open Go Go.Abs Go.Val Go.RowKit Go.ChangeShapes Go.WideShapes
attribute [local irreducible] go SGo HasBody Ev ExtEv EvO EvS RGo

theorem law_clauses (c : CL) : Ev E 4 [encCL c] (.d (.bool true)) := by
  have h1 := lclause_ev c
  have h2 := alive_ev
  cases hl : lcB c with
  | false =>
    rw [hl] at h1
    refine enter1 Tryz.func4 Tryz.ntmps4 rfl rfl fun w0 F0 O => ?_
    repeat' (first | refine zS rfl ?_ | refine qA ?_ | refine qB rfl ?_ | refine qC (by kernel_rfl) ?_ | refine qD ?_ | refine qE ?_ | refine qF ?_ | refine qG ?_ | refine qH rfl ?_ | refine qP rfl rfl rfl rfl rfl rfl b16 (h1) ?_ | refine qP rfl rfl rfl rfl rfl rfl b17 (h2) ?_ | refine zT rfl ?_ | refine zU rfl ?_ | refine qL rfl rfl ?_ | refine qM rfl rfl rfl ?_ | refine qO rfl rfl rfl ?_ | refine zX rfl rfl rfl rfl ?_ | refine zW rfl rfl rfl rfl ?_ | (refine qY rfl rfl rfl rfl ?_ ?_ <;> intro _) | exact zD | exact zL)
  | true =>
    rw [hl] at h1
    have h3 := fClause_ev c (lcB_ok hl)
    have h4 := rClause_ev c (lcB_ok hl)
    have t1 : ((rTC c).toList == (rTC c).toList) = true := beq_self_eq_true _
    have t2 : (clauF c == clauF c) = true := beq_self_eq_true _
    generalize rTC c = t at *
    generalize clauF c = z at *
    clear hl
    refine enter1 Tryz.func4 Tryz.ntmps4 rfl rfl fun w0 F0 O => ?_
    repeat' (first | refine zS rfl ?_ | refine qA ?_ | refine qB rfl ?_ | refine qC (by kernel_rfl) ?_ | refine qD ?_ | refine qE ?_ | refine qF ?_ | refine qG ?_ | refine qH rfl ?_ | refine qP rfl rfl rfl rfl rfl rfl b16 (h1) ?_ | refine qP rfl rfl rfl rfl rfl rfl b17 (h2) ?_ | refine qP rfl rfl rfl rfl rfl rfl b18 (h3) ?_ | refine qP rfl rfl rfl rfl rfl rfl b19 (h4) ?_ | refine zT rfl ?_ | refine zU rfl ?_ | refine qL rfl rfl ?_ | refine qM rfl rfl rfl ?_ | refine qO rfl rfl rfl ?_ | refine zX rfl rfl rfl rfl ?_ | refine zW rfl rfl rfl rfl ?_ | (refine qY rfl rfl rfl rfl ?_ ?_ <;> intro _) | exact zD | exact zL)
set_option maxRecDepth 100000 in
theorem clauses_lifted (os : Os) (started : os.Started) (H : Type) (enc : TypeId × Value → H) :
    ReturnsInHanded {} Tryz.checked os 4 .any (fun w args => (Rows.formatClausesSpec.pre enc Tryz.prog Tryz.f4 [] false w args ∧ laidMetH Tryz.prog seatLaid w) ∧ sizedMet enc Tryz.prog Tryz.f4 (OpenSpec.ofChange Rows.formatClausesSpec) false w args)
      (Rows.formatClausesSpec.post enc Tryz.prog Tryz.f4 false true false false) := by
  refine lift_true (C := Tryz.checked) (laid := seatLaid) (tb := 4) tys seat_own started (by kernel_rfl) Tryz.func4
    (ChangeSpec.witness_shaped (enc := enc) (C := Tryz.checked) (os := os) (X := fun w _ => laidMetH Tryz.prog seatLaid w) false (wit os) #[.agg #[.int .i64 0, .bool false, .bool false, .slice none 0 0, .slice none 0 0, .int .i64 0, .int .i64 0, .int .i64 0, .int .i64 0, .string ⟨#[]⟩, .slice none 0 0, .string ⟨#[]⟩, .bool false, .slice none 0 0, .string ⟨#[]⟩, .slice none 0 0, .slice none 0 0, .int .i64 0, .int .i64 0, .slice none 0 0, .slice none 0 0]] 8 rfl (wit_shaped os _) (by kernel_rfl) (by kernel_rfl) (by kernel_rfl) (wit_met os _))
    rfl rfl Tryz.underlying4 (fun ds hl => ?_) seat_out (by kernel_rfl) tys_ok (by kernel_rfl) (fun W args xs hL hS hx hsz hr hty => ?_)
  · match ds, hl with
    | [_], _ => rfl
  · have hsz' : args.size = 1 := hsz
    rw [hsz'] at hx
    match xs, hx with
    | [x0], _ =>
      obtain ⟨a0, rfl⟩ := ty_CL (hty 0 _ x0 rfl rfl)
      exact calls_of_ev (gi_of hL hS) (law_clauses a0) (by simp [hsz']) hr
theorem clauses_q0 : (laidOutB Tryz.prog) = true := by kernel_rfl
theorem clauses_q1 : (mapsRowed Tryz.prog) = true := by kernel_rfl
theorem clauses_q2 : ((Rows.formatClausesRow.inPlace == Tryz.prog.inPlace 4)) = true := by kernel_rfl
theorem clauses_q3 : ((Rows.formatClausesRow.unfollowed == Tryz.prog.unfollowed 4)) = true := by kernel_rfl
theorem clauses_q4 : ((Rows.formatClausesRow.recurses == Tryz.prog.recurses 4)) = true := by kernel_rfl
theorem clauses_q5 : ((Rows.formatClausesRow.named == Tryz.prog.varsNamed 4)) = true := by kernel_rfl
theorem clauses_q6 : ((Rows.formatClausesRow.loops == (Tryz.f4.params.toList ++ Rows.formatClausesSpec.plain.varTypes Tryz.prog).any (Tryz.prog.loopsFrom ·))) = true := by kernel_rfl
theorem clauses_q7 : (Tryz.prog.stopsHeard) = true := by kernel_rfl
theorem clauses_q8 : (Tryz.prog.mayEnter) = true := by kernel_rfl
theorem clauses_q9 : ((Rows.formatClausesRow.lifted == Tryz.prog.liftsFinal)) = true := by kernel_rfl
theorem clauses_closed : joinedFacts Tryz.prog 4 Tryz.f4 Rows.formatClausesSpec Rows.formatClausesRow = true := by
  unfold joinedFacts
  rw [clauses_q0, clauses_q1, clauses_q2, clauses_q3, clauses_q4, clauses_q5, clauses_q6, clauses_q7, clauses_q8, clauses_q9]
  kernel_rfl
end Go.Proofs.YtmfjfclpdmpncaaGreatDoor
