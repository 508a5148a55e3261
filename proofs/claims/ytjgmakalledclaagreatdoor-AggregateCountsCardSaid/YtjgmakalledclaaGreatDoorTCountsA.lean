/- The law AggregateCounts: its card. Conditions: none beyond the row's own (the listed variables as the program's text lays them). -/
import Derived.Test.YtjgmakalledclaaGreatDoorGC
import Derived.Test.YtjgmakalledclaaGreatDoorGV
import Derived.Test.YtjgmakalledclaaGreatDoorGT
import Derived.Test.YtjgmakalledclaaGreatDoorMC
import Derived.Test.YtjgmakalledclaaGreatDoorCards
set_option linter.unusedVariables false
set_option linter.unusedSimpArgs false
namespace Go.Proofs.YtjgmakalledclaaGreatDoor
set_option maxRecDepth 4000
open Go Go.Abs Go.Val Go.RowKit Go.ChangeShapes Go.WideShapes Go.Proofs.Tryz
attribute [local irreducible] go SGo HasBody Ev ExtEv EvO EvS RGo
set_option maxRecDepth 100000 in
theorem counts_lifted (os : Os) (started : os.Started) (H : Type) (enc : TypeId × Value → H) :
  ReturnsInHanded {} Tryz.checked os 9 .any (fun w args => (Rows.aggregateCountsSpec.pre enc Tryz.prog Tryz.f9 [] false w args ∧ laidMetH Tryz.prog seatLaid w) ∧ sizedMet enc Tryz.prog Tryz.f9 (OpenSpec.ofChange Rows.aggregateCountsSpec) false w args)
   (Rows.aggregateCountsSpec.post enc Tryz.prog Tryz.f9 false true false false) := by
 refine lift_true (C := Tryz.checked) (laid := seatLaid) (tb := 4) tysT seat_own started (by kernel_rfl) func9
  (ChangeSpec.witness_shaped (enc := enc) (C := Tryz.checked) (os := os) (X := fun w _ => laidMetH Tryz.prog seatLaid w) false (wit os) #[.agg #[.slice none 0 0, .slice none 0 0, .int .i64 0, .int .i64 0], .slice none 0 0, .agg #[.slice none 0 0, .slice none 0 0]] 8 rfl (wit_shaped os _) (by kernel_rfl) (by kernel_rfl) (by kernel_rfl) (wit_met os _))
  rfl rfl underlying4 (fun ds hl => ?_) seat_out (by kernel_rfl) tysT_ok (by kernel_rfl) (fun W args xs hL hS hx hsz hr hty => ?_)
 ·match ds, hl with
  | [_, _, _], _ => rfl
 ·have hsz' : args.size = 3 := hsz
  rw [hsz'] at hx
  match xs, hx with
  | [x0, x1, x2], _ =>
   obtain ⟨a0, rfl⟩ := ty_graph (hty 0 _ x0 rfl rfl)
   obtain ⟨a1, rfl⟩ := ty_itms (hty 1 _ x1 rfl rfl)
   obtain ⟨a2, rfl⟩ := ty_tb (hty 2 _ x2 rfl rfl)
   exact calls_of_ev (gi_of hL hS) (law_counts a0 a1 a2) (by simp [hsz']) hr
theorem counts_q0 : (laidOutB Tryz.prog) = true := by kernel_rfl
theorem counts_q1 : (mapsRowed Tryz.prog) = true := by kernel_rfl
theorem counts_q2 : ((Rows.aggregateCountsRow.inPlace == Tryz.prog.inPlace 9)) = true := by kernel_rfl
theorem counts_q3 : ((Rows.aggregateCountsRow.unfollowed == Tryz.prog.unfollowed 9)) = true := by kernel_rfl
theorem counts_q4 : ((Rows.aggregateCountsRow.recurses == Tryz.prog.recurses 9)) = true := by kernel_rfl
theorem counts_q5 : ((Rows.aggregateCountsRow.named == Tryz.prog.varsNamed 9)) = true := by kernel_rfl
theorem counts_q6 : ((Rows.aggregateCountsRow.loops == (Tryz.f9.params.toList ++ Rows.aggregateCountsSpec.plain.varTypes Tryz.prog).any (Tryz.prog.loopsFrom ·))) = true := by kernel_rfl
theorem counts_q7 : (Tryz.prog.stopsHeard) = true := by kernel_rfl
theorem counts_q8 : (Tryz.prog.mayEnter) = true := by kernel_rfl
theorem counts_q9 : ((Rows.aggregateCountsRow.lifted == Tryz.prog.liftsFinal)) = true := by kernel_rfl
theorem counts_closed : joinedFacts Tryz.prog 9 Tryz.f9 Rows.aggregateCountsSpec Rows.aggregateCountsRow = true := by
  unfold joinedFacts
  rw [counts_q0, counts_q1, counts_q2, counts_q3, counts_q4, counts_q5, counts_q6, counts_q7, counts_q8, counts_q9]
  kernel_rfl
end Go.Proofs.YtjgmakalledclaaGreatDoor
