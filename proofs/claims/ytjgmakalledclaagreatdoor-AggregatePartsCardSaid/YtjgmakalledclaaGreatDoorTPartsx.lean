/- The law AggregateParts: its card. Conditions: none beyond the row's own (the listed variables as the program's text lays them). -/
import Derived.Test.YtjgmakalledclaaGreatDoorGC
import Derived.Test.YtjgmakalledclaaGreatDoorAP
import Derived.Test.YtjgmakalledclaaGreatDoorMC
import Derived.Test.YtjgmakalledclaaGreatDoorCards
set_option linter.unusedVariables false
set_option linter.unusedSimpArgs false
namespace Go.Proofs.YtjgmakalledclaaGreatDoor
set_option maxRecDepth 4000
open Go Go.Abs Go.Val Go.RowKit Go.ChangeShapes Go.WideShapes
attribute [local irreducible] go SGo HasBody Ev ExtEv EvO EvS RGo
def tysA : List TypeId := [3, 9, 4, 22, 35, 58]
theorem tysA_ok : closedB Tryz.prog tysA = true := by kernel_rfl
set_option maxRecDepth 100000 in
theorem parts_lifted (os : Os) (started : os.Started) (H : Type) (enc : TypeId × Value → H) :
    ReturnsInHanded {} Tryz.checked os 7 .any (fun w args => (Rows.aggregatePartsSpec.pre enc Tryz.prog Tryz.f7 [] false w args ∧ laidMetH Tryz.prog seatLaid w) ∧ sizedMet enc Tryz.prog Tryz.f7 (OpenSpec.ofChange Rows.aggregatePartsSpec) false w args)
      (Rows.aggregatePartsSpec.post enc Tryz.prog Tryz.f7 false true false false) := by
  refine lift_true (C := Tryz.checked) (laid := seatLaid) (tb := 4) tysA seat_own started (by kernel_rfl) Tryz.func7
    (ChangeSpec.witness_shaped (enc := enc) (C := Tryz.checked) (os := os) (X := fun w _ => laidMetH Tryz.prog seatLaid w) false (wit os) #[.slice none 0 0, .slice none 0 0] 8 rfl (wit_shaped os _) (by kernel_rfl) (by kernel_rfl) (by kernel_rfl) (wit_met os _))
    rfl rfl Tryz.underlying4 (fun ds hl => ?_) seat_out (by kernel_rfl) tysA_ok (by kernel_rfl) (fun W args xs hL hS hx hsz hr hty => ?_)
  · match ds, hl with
    | [_, _], _ => rfl
  · have hsz' : args.size = 2 := hsz
    rw [hsz'] at hx
    match xs, hx with
    | [x0, x1], _ =>
      obtain ⟨a0, rfl⟩ := ty_vals (hty 0 _ x0 rfl rfl)
      obtain ⟨a1, rfl⟩ := ty_vals (hty 1 _ x1 rfl rfl)
      exact calls_of_ev (gi_of hL hS) (law_parts a0 a1) (by simp [hsz']) hr
theorem parts_holds : Rows.AggregatePartsSaid :=
  OpenClaim.holds_of_wide 7 Tryz.f7 rfl rfl rfl rfl rfl rfl rfl ⟨rfl, rfl, rfl, rfl, rfl⟩ rfl rfl rfl rfl rfl (by kernel_rfl) Tryz.func7 (by kernel_rfl)
    (of_decide_eq_true (by kernel_rfl)) (by unfold Func.isWrapper; first | (rw [if_pos (by decide +kernel)]; kernel_rfl) | (rw [if_neg (by decide +kernel)]; exact ⟨rfl, rfl⟩))
    (fun os started H enc _ => parts_lifted os started H enc)
theorem parts_card : Rows.AggregatePartsCardSaid := by
  unfold Rows.AggregatePartsCardSaid Rows.aggregatePartsCard
  exact Claim7.holds_tied_plain_at .later [] _ true _ false
    parts_holds (fun _ h => by cases h) (by kernel_rfl) (fun _ h => by cases h) aggregateParts_row_tie rfl ⟨rfl, rfl⟩ (by kernel_rfl) rfl
    (fun f fn hf hfn => by
      obtain rfl : f = 7 := Option.some.inj ((show Tryz.prog.funcNamed Rows.aggregatePartsRow.func = some 7 by kernel_rfl).symm.trans hf) |>.symm
      obtain rfl : fn = Tryz.f7 := (Option.some.inj (Tryz.func7.symm.trans hfn)).symm
      exact ⟨by kernel_rfl, fun j t ht => by
        have hall : (Tryz.f7.params.toList.all fun u => !Tryz.prog.wantsStandIn u) = true := by kernel_rfl
        exact (show Tryz.prog.wantsStandIn t = false by simpa using List.all_eq_true.1 hall t (by simpa using Array.mem_of_getElem? ht))⟩)
    (by kernel_rfl)
#print axioms parts_card
end Go.Proofs.YtjgmakalledclaaGreatDoor
