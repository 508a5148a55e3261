/- RewriteFold: Fold agrees with the reference for every expression within the row's bound; and the chapter's examples hold. The tied card of the second form. Conditions: none beyond the card's own. -/
import Derived.Test.YtibfalecohlngaaGreatDoorGC
import Derived.Test.YtibfalecohlngaaGreatDoorUC
import Derived.Test.YtibfalecohlngaaGreatDoorCards
set_option linter.unusedVariables false
set_option linter.unusedSimpArgs false
namespace Go.Proofs.YtibfalecohlngaaGreatDoor
set_option maxRecDepth 4000
open Go Go.Abs Go.Val Go.RowKit Go.ChangeShapes Go.WideShapes
attribute [local irreducible] go SGo an2 Ev aw0 EvO EvS
set_option maxRecDepth 100000 in
theorem fold_lifted (os : Os) (started : os.Started) (H : Type) (enc : TypeId × Value → H) (F : Stop.Interp) :
    ReturnsInHanded {} Tryz.checked os 3 .any ((Rows.OpenSpec.upto Rows.rewriteFoldSpec).preRow enc Tryz.prog Tryz.f3 [] false seatLaid)
      (((Rows.OpenSpec.upto Rows.rewriteFoldSpec).at F).post enc Tryz.prog Tryz.f3 false true false false) := by
  refine bj1 (C := Tryz.checked) (s0 := Rows.rewriteFoldSpec) (kf := Rows.uptoSmall) (laid := seatLaid) (tb := 4) F tys2 rfl rfl rfl seat_own started (by kernel_rfl) Tryz.func3
    (witness_cond (kf := Rows.uptoSmall) rfl (wit os) #[.agg #[.int .i64 0, .int .i64 0, .int .i64 0, .int .i64 0, .string ⟨#[]⟩, .slice none 0 0, .string ⟨#[]⟩, .bool false, .slice none 0 0]] 8 rfl (wit_shaped os _) (by kernel_rfl) (by kernel_rfl) (by kernel_rfl) (wit_met os _))
    rfl rfl Tryz.underlying4 (fun ds hl => ?_) seat_out (by kernel_rfl) tys2_ok (by kernel_rfl) (fun W args xs ds hL hS hx hsz hr hty hdl hk => ?_)
  · match ds, hl with
    | [_], _ => rfl
  · have hsz' : args.size = 1 := hsz
    have hbk := ee1 ds xs (by rw [hdl, hx, hsz]) fun i d x hd hxi => (hty i _ x (by
      rw [fo1];exact Array.getElem?_eq_getElem (by rw [← hsz, ← hx]; exact (fg8.1 hxi).1)) hxi).2 d hd
    have hsm : Rows.uptoBulkAll ds ≤ 1048576 := of_decide_eq_true hk;rw [hsz'] at hx
    match xs, hx with
    | [x0], _ =>
      obtain ⟨a0, rfl⟩ := ej6 (hty 0 _ x0 rfl rfl).1;exact ba6 (cu7 hL hS) (law_fold36 a0 (fl5 hbk hsm)) (by simp [hsz']) hr
theorem fold_q0 : (laidOutB Tryz.prog) = true := by kernel_rfl
theorem fold_q1 : (mapsRowed Tryz.prog) = true := by kernel_rfl
theorem fold_q2 : ((Rows.rewriteFoldUptoRow.inPlace == Tryz.prog.inPlace 3)) = true := by kernel_rfl
theorem fold_q3 : ((Rows.rewriteFoldUptoRow.unfollowed == Tryz.prog.unfollowed 3)) = true := by kernel_rfl
theorem fold_q4 : ((Rows.rewriteFoldUptoRow.recurses == Tryz.prog.recurses 3)) = true := by kernel_rfl
theorem fold_q5 : ((Rows.rewriteFoldUptoRow.named == Tryz.prog.varsNamed 3)) = true := by kernel_rfl
theorem fold_q6 : ((Rows.rewriteFoldUptoRow.loops == (Tryz.f3.params.toList ++ (Rows.OpenSpec.upto Rows.rewriteFoldSpec).bare.plain.varTypes Tryz.prog).any (Tryz.prog.loopsFrom ·))) = true := by kernel_rfl
theorem fold_q7 : (Tryz.prog.stopsHeard) = true := by kernel_rfl
theorem fold_q8 : (Tryz.prog.mayEnter) = true := by kernel_rfl
theorem fold_q9 : ((Rows.rewriteFoldUptoRow.lifted == Tryz.prog.liftsFinal)) = true := by kernel_rfl
theorem fold_closed : joinedFacts Tryz.prog 3 Tryz.f3 (Rows.OpenSpec.upto Rows.rewriteFoldSpec).bare Rows.rewriteFoldUptoRow = true := by
  unfold joinedFacts
  rw [fold_q0, fold_q1, fold_q2, fold_q3, fold_q4, fold_q5, fold_q6, fold_q7, fold_q8, fold_q9]
  kernel_rfl
end Go.Proofs.YtibfalecohlngaaGreatDoor
