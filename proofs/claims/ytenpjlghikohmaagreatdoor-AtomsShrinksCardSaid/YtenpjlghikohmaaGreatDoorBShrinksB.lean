/- AtomsShrinks: an additional atom adds no tuples and the order of the atoms does not matter, and the chapter's example holds. The tied card. Conditions: none beyond the card's own. -/
import Derived.Test.YtenpjlghikohmaaGreatDoorBShrinksA
import Derived.Test.YtenpjlghikohmaaGreatDoorCards
set_option linter.unusedVariables false
set_option linter.unusedSimpArgs false
namespace Go.Proofs.YtenpjlghikohmaaGreatDoor
set_option maxRecDepth 4000
open Go Go.Abs Go.Val Go.RowKit Go.ChangeShapes Go.WideShapes
set_option maxHeartbeats 4000000 in
theorem shrinks_holds : Rows.AtomsShrinksSaid :=
  OpenClaim.holds_of_wide 6 Tryz.f6 rfl rfl rfl rfl rfl rfl rfl ⟨rfl, rfl, rfl, rfl, rfl⟩ rfl rfl rfl rfl rfl (by as_aux_lemma => kernel_rfl) Tryz.func6 (by exact shrinks_closed)
    (of_decide_eq_true (by as_aux_lemma => kernel_rfl)) (by unfold Func.isWrapper; first | (rw [if_pos (by decide +kernel)]; kernel_rfl) | (rw [if_neg (by decide +kernel)]; exact ⟨rfl, rfl⟩))
    (fun os started H enc _ => shrinks_lifted os started H enc)
set_option maxHeartbeats 4000000 in
theorem shrinks_card : Rows.AtomsShrinksCardSaid := by
  unfold Rows.AtomsShrinksCardSaid Rows.atomsShrinksCard
  exact Claim7.holds_tied_plain_at .later [] _ true _ false
    shrinks_holds (fun _ h => by cases h) (by as_aux_lemma => kernel_rfl) (fun _ h => by cases h) atomsShrinks_row_tie rfl ⟨rfl, rfl⟩ (by as_aux_lemma => kernel_rfl) rfl
    (fun f fn hf hfn => by
      obtain rfl : f = 6 := Option.some.inj ((show Tryz.prog.funcNamed Rows.atomsShrinksRow.func = some 6 by kernel_rfl).symm.trans hf) |>.symm;obtain rfl : fn = Tryz.f6 := (Option.some.inj (Tryz.func6.symm.trans hfn)).symm
      exact ⟨by kernel_rfl, fun j t ht => by
        have hall : (Tryz.f6.params.toList.all fun u => !Tryz.prog.wantsStandIn u) = true := by kernel_rfl
        exact (show Tryz.prog.wantsStandIn t = false by simpa using fb2.1 hall t (by simpa using Array.mem_of_getElem? ht))⟩)
    (by as_aux_lemma => kernel_rfl)
#print axioms shrinks_card
end Go.Proofs.YtenpjlghikohmaaGreatDoor
