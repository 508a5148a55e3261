/- PlanChecks: Check and Size agree with the specification for all plans, within the row's bound; and the chapter's examples hold. The tied card of the second form. Conditions: none beyond the card's own. -/
import Derived.Test.YtndgolmgaenlfaaGreatDoorVChecks35A
import Derived.Test.YtndgolmgaenlfaaGreatDoorCards
set_option linter.unusedVariables false
set_option linter.unusedSimpArgs false
namespace Go.Proofs.YtndgolmgaenlfaaGreatDoor
set_option maxRecDepth 4000
open Go Go.Abs Go.Val Go.RowKit Go.ChangeShapes Go.WideShapes
set_option maxHeartbeats 4000000 in
theorem checks_holds : Rows.PlanChecksUptoSaid :=
  OpenClaim.holds_of_cond 3 Tryz.f3 rfl rfl rfl rfl rfl rfl rfl ⟨rfl, rfl, rfl, rfl, rfl⟩ rfl rfl rfl rfl rfl (by as_aux_lemma => kernel_rfl) Tryz.func3 (by exact checks_closed)
    (of_decide_eq_true (by as_aux_lemma => kernel_rfl)) (by unfold Func.isWrapper; first | (rw [if_pos (by decide +kernel)]; kernel_rfl) | (rw [if_neg (by decide +kernel)]; exact ⟨rfl, rfl⟩))
    (fun os started H enc _ F => by rw [OpenClaim.pre_eq_preRow]; exact checks_lifted os started H enc F)
set_option maxHeartbeats 4000000 in
theorem checks_card : Rows.PlanChecksUptoCardSaid := by
  unfold Rows.PlanChecksUptoCardSaid Rows.planChecksUptoCard
  exact Claim7.holds_tied_plain_at .later [] _ true _ false
    checks_holds (fun _ h => by cases h) (by as_aux_lemma => kernel_rfl) (fun _ h => by cases h) planChecksUpto_row_tie rfl ⟨rfl, rfl⟩ (by as_aux_lemma => kernel_rfl) rfl
    (fun f fn hf hfn => by
      obtain rfl : f = 3 := Option.some.inj ((show Tryz.prog.funcNamed Rows.planChecksUptoRow.func = some 3 by kernel_rfl).symm.trans hf) |>.symm;obtain rfl : fn = Tryz.f3 := (Option.some.inj (Tryz.func3.symm.trans hfn)).symm
      exact ⟨by kernel_rfl, fun j t ht => by
        have hall : (Tryz.f3.params.toList.all fun u => !Tryz.prog.wantsStandIn u) = true := by kernel_rfl
        exact (show Tryz.prog.wantsStandIn t = false by simpa using fm3.1 hall t (by simpa using Array.mem_of_getElem? ht))⟩)
    (by as_aux_lemma => kernel_rfl)
#print axioms checks_card
end Go.Proofs.YtndgolmgaenlfaaGreatDoor
