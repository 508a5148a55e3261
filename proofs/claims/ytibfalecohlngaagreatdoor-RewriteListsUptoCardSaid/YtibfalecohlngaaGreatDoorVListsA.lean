/- RewriteLists: Conjuncts and All agree with the reference, and Conjuncts inverts All, for all expressions within the row's bound; and the chapter's examples hold. The tied card of the second form. Conditions: none beyond the card's own. -/
import Derived.Test.YtibfalecohlngaaGreatDoorGC
import Derived.Test.YtibfalecohlngaaGreatDoorUC
import Derived.Test.YtibfalecohlngaaGreatDoorCards
set_option linter.unusedVariables false
set_option linter.unusedSimpArgs false
namespace Go.Proofs.YtibfalecohlngaaGreatDoor
set_option maxRecDepth 4000
open Go Go.Abs Go.Val Go.RowKit Go.ChangeShapes Go.WideShapes
attribute [local irreducible] go SGo an2 Ev aw0 EvO EvS
set_option maxRecDepth 100000 in
theorem lists_lifted (os : Os) (started : os.Started) (H : Type) (enc : TypeId × Value → H) (F : Stop.Interp) :
    ReturnsInHanded {} Tryz.checked os 4 .any ((Rows.OpenSpec.upto Rows.rewriteListsSpec).preRow enc Tryz.prog Tryz.f4 [] false seatLaid)
      (((Rows.OpenSpec.upto Rows.rewriteListsSpec).at F).post enc Tryz.prog Tryz.f4 false true false false) := by
  refine bj1 (C := Tryz.checked) (s0 := Rows.rewriteListsSpec) (kf := Rows.uptoSmall) (laid := seatLaid) (tb := 4) F tys2 rfl rfl rfl seat_own started (by kernel_rfl) Tryz.func4
    (witness_cond (kf := Rows.uptoSmall) rfl (wit os) #[.agg #[.int .i64 0, .int .i64 0, .int .i64 0, .int .i64 0, .string ⟨#[]⟩, .slice none 0 0, .string ⟨#[]⟩, .bool false, .slice none 0 0], .slice none 0 0] 8 rfl (wit_shaped os _) (by kernel_rfl) (by kernel_rfl) (by kernel_rfl) (wit_met os _))
    rfl rfl Tryz.underlying4 (fun ds hl => ?_) seat_out (by kernel_rfl) tys2_ok (by kernel_rfl) (fun W args xs ds hL hS hx hsz hr hty hdl hk => ?_)
  · match ds, hl with
    | [_, _], _ => rfl
  · have hsz' : args.size = 2 := hsz
    have hbk := ee1 ds xs (by rw [hdl, hx, hsz]) fun i d x hd hxi => (hty i _ x (by
      rw [fo1];exact Array.getElem?_eq_getElem (by rw [← hsz, ← hx]; exact (fg8.1 hxi).1)) hxi).2 d hd
    have hsm : Rows.uptoBulkAll ds ≤ 1048576 := of_decide_eq_true hk;rw [hsz'] at hx
    match xs, hx with
    | [x0, x1], _ =>
      obtain ⟨a0, rfl⟩ := ej6 (hty 0 _ x0 rfl rfl).1;obtain ⟨a1, rfl⟩ := fe9 (hty 1 _ x1 rfl rfl).1;exact ba6 (cu7 hL hS) (law_lists a0 a1 (fl5 hbk hsm)) (by simp [hsz']) hr
theorem lists_q0 : (laidOutB Tryz.prog) = true := by kernel_rfl
theorem lists_q1 : (mapsRowed Tryz.prog) = true := by kernel_rfl
theorem lists_q2 : ((Rows.rewriteListsUptoRow.inPlace == Tryz.prog.inPlace 4)) = true := by kernel_rfl
theorem lists_q3 : ((Rows.rewriteListsUptoRow.unfollowed == Tryz.prog.unfollowed 4)) = true := by kernel_rfl
theorem lists_q4 : ((Rows.rewriteListsUptoRow.recurses == Tryz.prog.recurses 4)) = true := by kernel_rfl
theorem lists_q5 : ((Rows.rewriteListsUptoRow.named == Tryz.prog.varsNamed 4)) = true := by kernel_rfl
theorem lists_q6 : ((Rows.rewriteListsUptoRow.loops == (Tryz.f4.params.toList ++ (Rows.OpenSpec.upto Rows.rewriteListsSpec).bare.plain.varTypes Tryz.prog).any (Tryz.prog.loopsFrom ·))) = true := by kernel_rfl
theorem lists_q7 : (Tryz.prog.stopsHeard) = true := by kernel_rfl
theorem lists_q8 : (Tryz.prog.mayEnter) = true := by kernel_rfl
theorem lists_q9 : ((Rows.rewriteListsUptoRow.lifted == Tryz.prog.liftsFinal)) = true := by kernel_rfl
theorem lists_closed : joinedFacts Tryz.prog 4 Tryz.f4 (Rows.OpenSpec.upto Rows.rewriteListsSpec).bare Rows.rewriteListsUptoRow = true := by
  unfold joinedFacts
  rw [lists_q0, lists_q1, lists_q2, lists_q3, lists_q4, lists_q5, lists_q6, lists_q7, lists_q8, lists_q9]
  kernel_rfl
end Go.Proofs.YtibfalecohlngaaGreatDoor
