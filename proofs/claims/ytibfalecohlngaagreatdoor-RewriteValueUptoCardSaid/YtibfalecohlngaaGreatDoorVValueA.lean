/- RewriteValue: folding preserves the value for every graph and environment within the row's bound, a folded expression is valid, no larger and not folded further; conjuncts joined again have the same truth; and the chapter's examples hold. The tied card of the second form. Conditions: none beyond the card's own. -/
import Derived.Test.YtibfalecohlngaaGreatDoorGC
import Derived.Test.YtibfalecohlngaaGreatDoorUC
import Derived.Test.YtibfalecohlngaaGreatDoorCards
set_option linter.unusedVariables false
set_option linter.unusedSimpArgs false
namespace Go.Proofs.YtibfalecohlngaaGreatDoor
set_option maxRecDepth 4000
open Go Go.Abs Go.Val Go.RowKit Go.ChangeShapes Go.WideShapes
attribute [local irreducible] go SGo an2 Ev aw0 EvO EvS
set_option maxRecDepth 100000 in
theorem value_lifted (os : Os) (started : os.Started) (H : Type) (enc : TypeId × Value → H) (F : Stop.Interp) :
    ReturnsInHanded {} Tryz.checked os 5 .any ((Rows.OpenSpec.upto Rows.rewriteValueSpec).preRow enc Tryz.prog Tryz.f5 [] false seatLaid)
      (((Rows.OpenSpec.upto Rows.rewriteValueSpec).at F).post enc Tryz.prog Tryz.f5 false true false false) := by
  refine bj1 (C := Tryz.checked) (s0 := Rows.rewriteValueSpec) (kf := Rows.uptoSmall) (laid := seatLaid) (tb := 4) F tys2 rfl rfl rfl seat_own started (by kernel_rfl) Tryz.func5
    (witness_cond (kf := Rows.uptoSmall) rfl (wit os) #[.agg #[.slice none 0 0, .slice none 0 0, .int .i64 0, .int .i64 0], .agg #[.int .i64 0, .int .i64 0, .int .i64 0, .int .i64 0, .string ⟨#[]⟩, .slice none 0 0, .string ⟨#[]⟩, .bool false, .slice none 0 0], .slice none 0 0] 8 rfl (wit_shaped os _) (by kernel_rfl) (by kernel_rfl) (by kernel_rfl) (wit_met os _))
    rfl rfl Tryz.underlying4 (fun ds hl => ?_) seat_out (by kernel_rfl) tys2_ok (by kernel_rfl) (fun W args xs ds hL hS hx hsz hr hty hdl hk => ?_)
  · match ds, hl with
    | [_, _, _], _ => rfl
  · have hsz' : args.size = 3 := hsz
    have hbk := ee1 ds xs (by rw [hdl, hx, hsz]) fun i d x hd hxi => (hty i _ x (by
      rw [fo1];exact Array.getElem?_eq_getElem (by rw [← hsz, ← hx]; exact (fg8.1 hxi).1)) hxi).2 d hd
    have hsm : Rows.uptoBulkAll ds ≤ 1048576 := of_decide_eq_true hk;rw [hsz'] at hx
    match xs, hx with
    | [x0, x1, x2], _ =>
      obtain ⟨a0, rfl⟩ := ek4 (hty 0 _ x0 rfl rfl).1;obtain ⟨a1, rfl⟩ := ej6 (hty 1 _ x1 rfl rfl).1;obtain ⟨a2, rfl⟩ := ek1 (hty 2 _ x2 rfl rfl).1;exact ba6 (cu7 hL hS) (law_value a0 a1 a2 (fl5 hbk hsm)) (by simp [hsz']) hr
theorem value_q0 : (laidOutB Tryz.prog) = true := by kernel_rfl
theorem value_q1 : (mapsRowed Tryz.prog) = true := by kernel_rfl
theorem value_q2 : ((Rows.rewriteValueUptoRow.inPlace == Tryz.prog.inPlace 5)) = true := by kernel_rfl
theorem value_q3 : ((Rows.rewriteValueUptoRow.unfollowed == Tryz.prog.unfollowed 5)) = true := by kernel_rfl
theorem value_q4 : ((Rows.rewriteValueUptoRow.recurses == Tryz.prog.recurses 5)) = true := by kernel_rfl
theorem value_q5 : ((Rows.rewriteValueUptoRow.named == Tryz.prog.varsNamed 5)) = true := by kernel_rfl
theorem value_q6 : ((Rows.rewriteValueUptoRow.loops == (Tryz.f5.params.toList ++ (Rows.OpenSpec.upto Rows.rewriteValueSpec).bare.plain.varTypes Tryz.prog).any (Tryz.prog.loopsFrom ·))) = true := by kernel_rfl
theorem value_q7 : (Tryz.prog.stopsHeard) = true := by kernel_rfl
theorem value_q8 : (Tryz.prog.mayEnter) = true := by kernel_rfl
theorem value_q9 : ((Rows.rewriteValueUptoRow.lifted == Tryz.prog.liftsFinal)) = true := by kernel_rfl
theorem value_closed : joinedFacts Tryz.prog 5 Tryz.f5 (Rows.OpenSpec.upto Rows.rewriteValueSpec).bare Rows.rewriteValueUptoRow = true := by
  unfold joinedFacts
  rw [value_q0, value_q1, value_q2, value_q3, value_q4, value_q5, value_q6, value_q7, value_q8, value_q9]
  kernel_rfl
end Go.Proofs.YtibfalecohlngaaGreatDoor
