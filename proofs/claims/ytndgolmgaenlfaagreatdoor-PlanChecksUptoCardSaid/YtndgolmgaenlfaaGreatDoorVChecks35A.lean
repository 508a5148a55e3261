/- PlanChecks: Check and Size agree with the specification for all plans, within the row's bound; and the chapter's examples hold. The tied card of the second form. Conditions: none beyond the card's own. -/
import Derived.Test.YtndgolmgaenlfaaGreatDoorGC
import Derived.Test.YtndgolmgaenlfaaGreatDoorTB
import Derived.Test.YtndgolmgaenlfaaGreatDoorTD
import Derived.Test.YtndgolmgaenlfaaGreatDoorCards
set_option linter.unusedVariables false
set_option linter.unusedSimpArgs false
namespace Go.Proofs.YtndgolmgaenlfaaGreatDoor
set_option maxRecDepth 4000
open Go Go.Abs Go.Val Go.RowKit Go.ChangeShapes Go.WideShapes
attribute [local irreducible] go SGo an1 Ev au8 EvO EvS
theorem checks_all (p : Pl) (h : bg6 [dl6 p] ≤ 1048576) : Ev E 3 [dl6 p] (.d (.bool true)) := law_checks35 fh9 p h
set_option maxRecDepth 100000 in
theorem checks_lifted (os : Os) (started : os.Started) (H : Type) (enc : TypeId × Value → H) (F : Stop.Interp) :
    ReturnsInHanded {} Tryz.checked os 3 .any ((Rows.OpenSpec.upto Rows.planChecksSpec).preRow enc Tryz.prog Tryz.f3 [] false seatLaid)
      (((Rows.OpenSpec.upto Rows.planChecksSpec).at F).post enc Tryz.prog Tryz.f3 false true false false) := by
  refine bg4 (C := Tryz.checked) (s0 := Rows.planChecksSpec) (kf := Rows.uptoSmall) (laid := seatLaid) (tb := 4) F tys2 rfl rfl rfl seat_own started (by kernel_rfl) Tryz.func3
    (witness_cond (kf := Rows.uptoSmall) rfl (wit os) #[.agg #[.int .i64 0, .slice none 0 0, .slice none 0 0, .slice none 0 0, .int .i64 0, .bool false, .bool false, .slice none 0 0, .slice none 0 0, .int .i64 0, .int .i64 0, .int .i64 0, .int .i64 0, .string ⟨#[]⟩, .slice none 0 0, .string ⟨#[]⟩, .bool false, .slice none 0 0, .string ⟨#[]⟩, .slice none 0 0, .slice none 0 0, .int .i64 0, .int .i64 0, .slice none 0 0, .slice none 0 0, .int .i64 0, .int .i64 0, .int .i64 0, .int .i64 0, .string ⟨#[]⟩, .slice none 0 0, .string ⟨#[]⟩, .bool false, .slice none 0 0, .string ⟨#[]⟩, .slice none 0 0, .slice none 0 0, .int .i64 0, .int .i64 0]] 8 rfl (wit_shaped os _) (by kernel_rfl) (by kernel_rfl) (by kernel_rfl) (wit_met os _))
    rfl rfl Tryz.underlying4 (fun ds hl => ?_) seat_out (by kernel_rfl) tys2_ok (by kernel_rfl) (fun W args xs ds hL hS hx hsz hr hty hdl hk => ?_)
  · match ds, hl with
    | [_], _ => rfl
  · have hsz' : args.size = 1 := hsz
    have hbk := fj6 ds xs (by rw [hdl, hx, hsz]) fun i d x hd hxi => (hty i _ x (by
      rw [fs7];exact Array.getElem?_eq_getElem (by rw [← hsz, ← hx]; exact (fk2.1 hxi).1)) hxi).2 d hd
    have hsm : Rows.uptoBulkAll ds ≤ 1048576 := of_decide_eq_true hk;rw [hsz'] at hx
    match xs, hx with
    | [x0], _ =>
      obtain ⟨a0, rfl⟩ := fj4 (hty 0 _ x0 rfl rfl).1;exact ay8 (gi_of hL hS) (checks_all a0 (fo2 hbk hsm)) (by simp [hsz']) hr
theorem checks_q0 : (laidOutB Tryz.prog) = true := by kernel_rfl
theorem checks_q1 : (mapsRowed Tryz.prog) = true := by kernel_rfl
theorem checks_q2 : ((Rows.planChecksUptoRow.inPlace == Tryz.prog.inPlace 3)) = true := by kernel_rfl
theorem checks_q3 : ((Rows.planChecksUptoRow.unfollowed == Tryz.prog.unfollowed 3)) = true := by kernel_rfl
theorem checks_q4 : ((Rows.planChecksUptoRow.recurses == Tryz.prog.recurses 3)) = true := by kernel_rfl
theorem checks_q5 : ((Rows.planChecksUptoRow.named == Tryz.prog.varsNamed 3)) = true := by kernel_rfl
theorem checks_q6 : ((Rows.planChecksUptoRow.loops == (Tryz.f3.params.toList ++ (Rows.OpenSpec.upto Rows.planChecksSpec).bare.plain.varTypes Tryz.prog).any (Tryz.prog.loopsFrom ·))) = true := by kernel_rfl
theorem checks_q7 : (Tryz.prog.stopsHeard) = true := by kernel_rfl
theorem checks_q8 : (Tryz.prog.mayEnter) = true := by kernel_rfl
theorem checks_q9 : ((Rows.planChecksUptoRow.lifted == Tryz.prog.liftsFinal)) = true := by kernel_rfl
theorem checks_closed : joinedFacts Tryz.prog 3 Tryz.f3 (Rows.OpenSpec.upto Rows.planChecksSpec).bare Rows.planChecksUptoRow = true := by
  unfold joinedFacts
  rw [checks_q0, checks_q1, checks_q2, checks_q3, checks_q4, checks_q5, checks_q6, checks_q7, checks_q8, checks_q9]
  kernel_rfl
end Go.Proofs.YtndgolmgaenlfaaGreatDoor
