/- PlanParts: the columns of a plan differ, the children of a checked plan are checked and its text has a line for each operator, within the row's bound; and the chapter's examples hold. The tied card of the second form. Conditions: none beyond the card's own. -/
import Derived.Test.YtndgolmgaenlfaaGreatDoorGC
import Derived.Test.YtndgolmgaenlfaaGreatDoorTB
import Derived.Test.YtndgolmgaenlfaaGreatDoorTC
import Derived.Test.YtndgolmgaenlfaaGreatDoorTD
import Derived.Test.YtndgolmgaenlfaaGreatDoorCards
set_option linter.unusedVariables false
set_option linter.unusedSimpArgs false
namespace Go.Proofs.YtndgolmgaenlfaaGreatDoor
set_option maxRecDepth 4000
open Go Go.Abs Go.Val Go.RowKit Go.ChangeShapes Go.WideShapes
attribute [local irreducible] go SGo an1 Ev au7 EvO EvS
theorem parts_all (p : Pl) (h : bg4 [dd6 p] ≤ 1048576) : Ev E 5 [dd6 p] (.d (.bool true)) := law_parts35 ev5 p h
set_option maxRecDepth 100000 in
theorem parts_lifted (os : Os) (started : os.Started) (H : Type) (enc : TypeId × Value → H) (F : Stop.Interp) :
    ReturnsInHanded {} Tryz.checked os 5 .any ((Rows.OpenSpec.upto Rows.planPartsSpec).preRow enc Tryz.prog Tryz.f5 [] false seatLaid)
      (((Rows.OpenSpec.upto Rows.planPartsSpec).at F).post enc Tryz.prog Tryz.f5 false true false false) := by
  refine bg2 (C := Tryz.checked) (s0 := Rows.planPartsSpec) (kf := Rows.uptoSmall) (laid := seatLaid) (tb := 4) F tys2 rfl rfl rfl seat_own started (by kernel_rfl) Tryz.func5
    (witness_cond (kf := Rows.uptoSmall) rfl (wit os) #[.agg #[.int .i64 0, .slice none 0 0, .slice none 0 0, .slice none 0 0, .int .i64 0, .bool false, .bool false, .slice none 0 0, .slice none 0 0, .int .i64 0, .int .i64 0, .int .i64 0, .int .i64 0, .string ⟨#[]⟩, .slice none 0 0, .string ⟨#[]⟩, .bool false, .slice none 0 0, .string ⟨#[]⟩, .slice none 0 0, .slice none 0 0, .int .i64 0, .int .i64 0, .slice none 0 0, .slice none 0 0, .int .i64 0, .int .i64 0, .int .i64 0, .int .i64 0, .string ⟨#[]⟩, .slice none 0 0, .string ⟨#[]⟩, .bool false, .slice none 0 0, .string ⟨#[]⟩, .slice none 0 0, .slice none 0 0, .int .i64 0, .int .i64 0]] 8 rfl (wit_shaped os _) (by kernel_rfl) (by kernel_rfl) (by kernel_rfl) (wit_met os _))
    rfl rfl Tryz.underlying4 (fun ds hl => ?_) seat_out (by kernel_rfl) tys2_ok (by kernel_rfl) (fun W args xs ds hL hS hx hsz hr hty hdl hk => ?_)
  · match ds, hl with
    | [_], _ => rfl
  · have hsz' : args.size = 1 := hsz
    have hbk := ex5 ds xs (by rw [hdl, hx, hsz]) fun i d x hd hxi => (hty i _ x (by
      rw [fg3];exact Array.getElem?_eq_getElem (by rw [← hsz, ← hx]; exact (ey1.1 hxi).1)) hxi).2 d hd
    have hsm : Rows.uptoBulkAll ds ≤ 1048576 := of_decide_eq_true hk;rw [hsz'] at hx
    match xs, hx with
    | [x0], _ =>
      obtain ⟨a0, rfl⟩ := ex3 (hty 0 _ x0 rfl rfl).1;exact ay6 (gi_of hL hS) (parts_all a0 (fb4 hbk hsm)) (by simp [hsz']) hr
theorem parts_q0 : (laidOutB Tryz.prog) = true := by kernel_rfl
theorem parts_q1 : (mapsRowed Tryz.prog) = true := by kernel_rfl
theorem parts_q2 : ((Rows.planPartsUptoRow.inPlace == Tryz.prog.inPlace 5)) = true := by kernel_rfl
theorem parts_q3 : ((Rows.planPartsUptoRow.unfollowed == Tryz.prog.unfollowed 5)) = true := by kernel_rfl
theorem parts_q4 : ((Rows.planPartsUptoRow.recurses == Tryz.prog.recurses 5)) = true := by kernel_rfl
theorem parts_q5 : ((Rows.planPartsUptoRow.named == Tryz.prog.varsNamed 5)) = true := by kernel_rfl
theorem parts_q6 : ((Rows.planPartsUptoRow.loops == (Tryz.f5.params.toList ++ (Rows.OpenSpec.upto Rows.planPartsSpec).bare.plain.varTypes Tryz.prog).any (Tryz.prog.loopsFrom ·))) = true := by kernel_rfl
theorem parts_q7 : (Tryz.prog.stopsHeard) = true := by kernel_rfl
theorem parts_q8 : (Tryz.prog.mayEnter) = true := by kernel_rfl
theorem parts_q9 : ((Rows.planPartsUptoRow.lifted == Tryz.prog.liftsFinal)) = true := by kernel_rfl
theorem parts_closed : joinedFacts Tryz.prog 5 Tryz.f5 (Rows.OpenSpec.upto Rows.planPartsSpec).bare Rows.planPartsUptoRow = true := by
  unfold joinedFacts
  rw [parts_q0, parts_q1, parts_q2, parts_q3, parts_q4, parts_q5, parts_q6, parts_q7, parts_q8, parts_q9]
  kernel_rfl
end Go.Proofs.YtndgolmgaenlfaaGreatDoor
