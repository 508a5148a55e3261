/- PlanApart: two checked plans without negative constants have the same text if and only if they are equal (but for what is not written of clauses), within the row's bound; and the chapter's examples hold. The tied card of the second form. Conditions: none beyond the card's own. -/
import Derived.Test.YtndgolmgaenlfaaGreatDoorVApart35A
import Derived.Test.YtndgolmgaenlfaaGreatDoorCards
set_option linter.unusedVariables false
set_option linter.unusedSimpArgs false
namespace Go.Proofs.YtndgolmgaenlfaaGreatDoor
set_option maxRecDepth 4000
open Go Go.Abs Go.Val Go.RowKit Go.ChangeShapes Go.WideShapes
set_option maxHeartbeats 4000000 in
theorem apart_holds : Rows.PlanApartUptoSaid :=
  OpenClaim.holds_of_cond 6 Tryz.f6 rfl rfl rfl rfl rfl rfl rfl ⟨rfl, rfl, rfl, rfl, rfl⟩ rfl rfl rfl rfl rfl (by as_aux_lemma => kernel_rfl) Tryz.func6 (by exact apart_closed)
    (of_decide_eq_true (by as_aux_lemma => kernel_rfl)) (by unfold Func.isWrapper; first | (rw [if_pos (by decide +kernel)]; kernel_rfl) | (rw [if_neg (by decide +kernel)]; exact ⟨rfl, rfl⟩))
    (fun os started H enc _ F => by rw [OpenClaim.pre_eq_preRow]; exact apart_lifted os started H enc F)
set_option maxHeartbeats 4000000 in
theorem apart_card : Rows.PlanApartUptoCardSaid := by
  unfold Rows.PlanApartUptoCardSaid Rows.planApartUptoCard
  exact Claim7.holds_tied_plain_at .later [] _ true _ false
    apart_holds (fun _ h => by cases h) (by as_aux_lemma => kernel_rfl) (fun _ h => by cases h) planApartUpto_row_tie rfl ⟨rfl, rfl⟩ (by as_aux_lemma => kernel_rfl) rfl
    (fun f fn hf hfn => by
      obtain rfl : f = 6 := Option.some.inj ((show Tryz.prog.funcNamed Rows.planApartUptoRow.func = some 6 by kernel_rfl).symm.trans hf) |>.symm;obtain rfl : fn = Tryz.f6 := (Option.some.inj (Tryz.func6.symm.trans hfn)).symm
      exact ⟨by kernel_rfl, fun j t ht => by
        have hall : (Tryz.f6.params.toList.all fun u => !Tryz.prog.wantsStandIn u) = true := by kernel_rfl
        exact (show Tryz.prog.wantsStandIn t = false by simpa using ga6.1 hall t (by simpa using Array.mem_of_getElem? ht))⟩)
    (by as_aux_lemma => kernel_rfl)
#print axioms apart_card
end Go.Proofs.YtndgolmgaenlfaaGreatDoor
