/- The law AggregateCounts: its card. Conditions: none beyond the row's own (the listed variables as the program's text lays them). -/
import Derived.Test.YtjgmakalledclaaGreatDoorTCountsA
import Derived.Test.YtjgmakalledclaaGreatDoorCards
set_option linter.unusedVariables false
set_option linter.unusedSimpArgs false
namespace Go.Proofs.YtjgmakalledclaaGreatDoor
set_option maxRecDepth 4000
open Go Go.Abs Go.Val Go.RowKit Go.ChangeShapes Go.WideShapes Go.Proofs.Tryz
set_option maxHeartbeats 4000000 in
theorem counts_holds : Rows.AggregateCountsSaid :=
 OpenClaim.holds_of_wide 9 Tryz.f9 rfl rfl rfl rfl rfl rfl rfl ⟨rfl, rfl, rfl, rfl, rfl⟩ rfl rfl rfl rfl rfl (by as_aux_lemma => kernel_rfl) func9 (by exact counts_closed)
  (of_decide_eq_true (by as_aux_lemma => kernel_rfl)) (by unfold Func.isWrapper; first | (rw [if_pos (by decide +kernel)]; kernel_rfl) | (rw [if_neg (by decide +kernel)]; exact ⟨rfl, rfl⟩))
  (fun os started H enc _ => counts_lifted os started H enc)
set_option maxHeartbeats 4000000 in
theorem counts_card : Rows.AggregateCountsCardSaid := by
 unfold Rows.AggregateCountsCardSaid Rows.aggregateCountsCard
 exact Claim7.holds_tied_plain_at .later [] _ true _ false
  counts_holds (fun _ h => by cases h) (by as_aux_lemma => kernel_rfl) (fun _ h => by cases h) aggregateCounts_row_tie rfl ⟨rfl, rfl⟩ (by as_aux_lemma => kernel_rfl) rfl
  (fun f fn hf hfn => by
   obtain rfl : f = 9 := Option.some.inj ((show Tryz.prog.funcNamed Rows.aggregateCountsRow.func = some 9 by kernel_rfl).symm.trans hf) |>.symm
   obtain rfl : fn = Tryz.f9 := (Option.some.inj (func9.symm.trans hfn)).symm
   exact ⟨by kernel_rfl, fun j t ht => by
    have hall : (Tryz.f9.params.toList.all fun u => !Tryz.prog.wantsStandIn u) = true := by kernel_rfl
    exact (show Tryz.prog.wantsStandIn t = false by simpa using List.all_eq_true.1 hall t (by simpa using Array.mem_of_getElem? ht))⟩)
  (by as_aux_lemma => kernel_rfl)
#print axioms counts_card
end Go.Proofs.YtjgmakalledclaaGreatDoor
