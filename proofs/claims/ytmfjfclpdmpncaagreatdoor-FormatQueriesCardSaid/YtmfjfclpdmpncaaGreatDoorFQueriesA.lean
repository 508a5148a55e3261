/- FormatQueries: the canonical text of a small query, or the error, is the document's; and the chapter's examples hold. The tied card. Conditions: none beyond the card's own. -/
import Derived.Test.YtmfjfclpdmpncaaGreatDoorGC
import Derived.Test.YtmfjfclpdmpncaaGreatDoorDC
import Derived.Test.YtmfjfclpdmpncaaGreatDoorCards
set_option linter.unusedVariables false
set_option linter.unusedSimpArgs false
namespace Go.Proofs.YtmfjfclpdmpncaaGreatDoor
set_option maxRecDepth 4000
open Go Go.Abs Go.Val Go.RowKit Go.ChangeShapes Go.WideShapes
attribute [local irreducible] go SGo HasBody Ev ExtEv EvO EvS RGo

theorem lqB_ok {q : List CL} (h : lqB q = true) : LtQ q := by
  unfold lqB at h
  simp only [Bool.and_eq_true, Bool.not_eq_true', decide_eq_false_iff_not, List.all_eq_true] at h
  exact ⟨by omega, fun c hc => lcB_ok (h.2 c hc)⟩
theorem law_queries (q : List CL) : Ev E 5 [encQU q] (.d (.bool true)) := by
  have h1 := light_q q
  have h2 := alive_ev
  cases hl : lqB q with
  | false =>
    rw [hl] at h1
    refine enter1 Tryz.func5 Tryz.ntmps5 rfl rfl fun w0 F0 O => ?_
    repeat' (first | refine zS rfl ?_ | refine qA ?_ | refine qB rfl ?_ | refine qC (by kernel_rfl) ?_ | refine qD ?_ | refine qE ?_ | refine qF ?_ | refine qG ?_ | refine qH rfl ?_ | refine qP rfl rfl rfl rfl rfl rfl b20 (h1) ?_ | refine qP rfl rfl rfl rfl rfl rfl b17 (h2) ?_ | refine zT rfl ?_ | refine zU rfl ?_ | refine qL rfl rfl ?_ | refine qM rfl rfl rfl ?_ | refine qO rfl rfl rfl ?_ | refine zX rfl rfl rfl rfl ?_ | refine zW rfl rfl rfl rfl ?_ | (refine qY rfl rfl rfl rfl ?_ ?_ <;> intro _) | exact zD | exact zL)
  | true =>
    rw [hl] at h1
    have h3 := fQuery_ev q (lqB_ok hl)
    have h4 := rQuery_ev q (lqB_ok hl)
    have t1 : ((rTQ q).toList == (rTQ q).toList) = true := beq_self_eq_true _
    have t2 : ((queF q).2 == (queF q).2) = true := beq_self_eq_true _
    generalize rTQ q = t at *
    generalize (queF q).2 = z at *
    clear hl
    refine enter1 Tryz.func5 Tryz.ntmps5 rfl rfl fun w0 F0 O => ?_
    repeat' (first | refine zS rfl ?_ | refine qA ?_ | refine qB rfl ?_ | refine qC (by kernel_rfl) ?_ | refine qD ?_ | refine qE ?_ | refine qF ?_ | refine qG ?_ | refine qH rfl ?_ | refine qP rfl rfl rfl rfl rfl rfl b20 (h1) ?_ | refine qP rfl rfl rfl rfl rfl rfl b17 (h2) ?_ | refine qP rfl rfl rfl rfl rfl rfl b21 (h3) ?_ | refine qP rfl rfl rfl rfl rfl rfl b22 (h4) ?_ | refine zT rfl ?_ | refine zU rfl ?_ | refine qL rfl rfl ?_ | refine qM rfl rfl rfl ?_ | refine qO rfl rfl rfl ?_ | refine zX rfl rfl rfl rfl ?_ | refine zW rfl rfl rfl rfl ?_ | (refine qY rfl rfl rfl rfl ?_ ?_ <;> intro _) | exact zD | exact zL)
set_option maxRecDepth 100000 in
theorem queries_lifted (os : Os) (started : os.Started) (H : Type) (enc : TypeId × Value → H) :
    ReturnsInHanded {} Tryz.checked os 5 .any (fun w args => (Rows.formatQueriesSpec.pre enc Tryz.prog Tryz.f5 [] false w args ∧ laidMetH Tryz.prog seatLaid w) ∧ sizedMet enc Tryz.prog Tryz.f5 (OpenSpec.ofChange Rows.formatQueriesSpec) false w args)
      (Rows.formatQueriesSpec.post enc Tryz.prog Tryz.f5 false true false false) := by
  refine lift_true (C := Tryz.checked) (laid := seatLaid) (tb := 4) tys seat_own started (by kernel_rfl) Tryz.func5
    (ChangeSpec.witness_shaped (enc := enc) (C := Tryz.checked) (os := os) (X := fun w _ => laidMetH Tryz.prog seatLaid w) false (wit os) #[.agg #[.slice none 0 0]] 8 rfl (wit_shaped os _) (by kernel_rfl) (by kernel_rfl) (by kernel_rfl) (wit_met os _))
    rfl rfl Tryz.underlying4 (fun ds hl => ?_) seat_out (by kernel_rfl) tys_ok (by kernel_rfl) (fun W args xs hL hS hx hsz hr hty => ?_)
  · match ds, hl with
    | [_], _ => rfl
  · have hsz' : args.size = 1 := hsz
    rw [hsz'] at hx
    match xs, hx with
    | [x0], _ =>
      obtain ⟨a0, rfl⟩ := ty_QU (hty 0 _ x0 rfl rfl)
      exact calls_of_ev (gi_of hL hS) (law_queries a0) (by simp [hsz']) hr
theorem queries_q0 : (laidOutB Tryz.prog) = true := by kernel_rfl
theorem queries_q1 : (mapsRowed Tryz.prog) = true := by kernel_rfl
theorem queries_q2 : ((Rows.formatQueriesRow.inPlace == Tryz.prog.inPlace 5)) = true := by kernel_rfl
theorem queries_q3 : ((Rows.formatQueriesRow.unfollowed == Tryz.prog.unfollowed 5)) = true := by kernel_rfl
theorem queries_q4 : ((Rows.formatQueriesRow.recurses == Tryz.prog.recurses 5)) = true := by kernel_rfl
theorem queries_q5 : ((Rows.formatQueriesRow.named == Tryz.prog.varsNamed 5)) = true := by kernel_rfl
theorem queries_q6 : ((Rows.formatQueriesRow.loops == (Tryz.f5.params.toList ++ Rows.formatQueriesSpec.plain.varTypes Tryz.prog).any (Tryz.prog.loopsFrom ·))) = true := by kernel_rfl
theorem queries_q7 : (Tryz.prog.stopsHeard) = true := by kernel_rfl
theorem queries_q8 : (Tryz.prog.mayEnter) = true := by kernel_rfl
theorem queries_q9 : ((Rows.formatQueriesRow.lifted == Tryz.prog.liftsFinal)) = true := by kernel_rfl
theorem queries_closed : joinedFacts Tryz.prog 5 Tryz.f5 Rows.formatQueriesSpec Rows.formatQueriesRow = true := by
  unfold joinedFacts
  rw [queries_q0, queries_q1, queries_q2, queries_q3, queries_q4, queries_q5, queries_q6, queries_q7, queries_q8, queries_q9]
  kernel_rfl
end Go.Proofs.YtmfjfclpdmpncaaGreatDoor
