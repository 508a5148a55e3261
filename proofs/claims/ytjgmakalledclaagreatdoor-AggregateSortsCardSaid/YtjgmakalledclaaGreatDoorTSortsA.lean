/- The law AggregateSorts: its card. Conditions: none beyond the row's own (the listed variables as the program's text lays them). -/
import Derived.Test.YtjgmakalledclaaGreatDoorGC
import Derived.Test.YtjgmakalledclaaGreatDoorGU
import Derived.Test.YtjgmakalledclaaGreatDoorGT
import Derived.Test.YtjgmakalledclaaGreatDoorMC
import Derived.Test.YtjgmakalledclaaGreatDoorCards
set_option linter.unusedVariables false
set_option linter.unusedSimpArgs false
namespace Go.Proofs.YtjgmakalledclaaGreatDoor
set_option maxRecDepth 4000
open Go Go.Abs Go.Val Go.RowKit Go.ChangeShapes Go.WideShapes Go.Proofs.Tryz
attribute [local irreducible] go SGo HasBody Ev ExtEv EvO EvS RGo
set_option maxRecDepth 100000 in
theorem sorts_lifted (os : Os) (started : os.Started) (H : Type) (enc : TypeId × Value → H) :
  ReturnsInHanded {} Tryz.checked os 8 .any (fun w args => (Rows.aggregateSortsSpec.pre enc Tryz.prog Tryz.f8 [] false w args ∧ laidMetH Tryz.prog seatLaid w) ∧ sizedMet enc Tryz.prog Tryz.f8 (OpenSpec.ofChange Rows.aggregateSortsSpec) false w args)
   (Rows.aggregateSortsSpec.post enc Tryz.prog Tryz.f8 false true false false) := by
 refine lift_true (C := Tryz.checked) (laid := seatLaid) (tb := 4) tysT seat_own started (by kernel_rfl) func8
  (ChangeSpec.witness_shaped (enc := enc) (C := Tryz.checked) (os := os) (X := fun w _ => laidMetH Tryz.prog seatLaid w) false (wit os) #[.agg #[.slice none 0 0, .slice none 0 0, .int .i64 0, .int .i64 0], .slice none 0 0, .agg #[.slice none 0 0, .slice none 0 0]] 8 rfl (wit_shaped os _) (by kernel_rfl) (by kernel_rfl) (by kernel_rfl) (wit_met os _))
  rfl rfl underlying4 (fun ds hl => ?_) seat_out (by kernel_rfl) tysT_ok (by kernel_rfl) (fun W args xs hL hS hx hsz hr hty => ?_)
 ·match ds, hl with
  | [_, _, _], _ => rfl
 ·have hsz' : args.size = 3 := hsz
  rw [hsz'] at hx
  match xs, hx with
  | [x0, x1, x2], _ =>
   obtain ⟨a0, rfl⟩ := ty_graph (hty 0 _ x0 rfl rfl)
   obtain ⟨a1, rfl⟩ := ty_itms (hty 1 _ x1 rfl rfl)
   obtain ⟨a2, rfl⟩ := ty_tb (hty 2 _ x2 rfl rfl)
   exact calls_of_ev (gi_of hL hS) (law_sorts a0 a1 a2) (by simp [hsz']) hr
theorem sorts_q0 : (laidOutB Tryz.prog) = true := by kernel_rfl
theorem sorts_q1 : (mapsRowed Tryz.prog) = true := by kernel_rfl
theorem sorts_q2 : ((Rows.aggregateSortsRow.inPlace == Tryz.prog.inPlace 8)) = true := by kernel_rfl
theorem sorts_q3 : ((Rows.aggregateSortsRow.unfollowed == Tryz.prog.unfollowed 8)) = true := by kernel_rfl
theorem sorts_q4 : ((Rows.aggregateSortsRow.recurses == Tryz.prog.recurses 8)) = true := by kernel_rfl
theorem sorts_q5 : ((Rows.aggregateSortsRow.named == Tryz.prog.varsNamed 8)) = true := by kernel_rfl
theorem sorts_q6 : ((Rows.aggregateSortsRow.loops == (Tryz.f8.params.toList ++ Rows.aggregateSortsSpec.plain.varTypes Tryz.prog).any (Tryz.prog.loopsFrom ·))) = true := by kernel_rfl
theorem sorts_q7 : (Tryz.prog.stopsHeard) = true := by kernel_rfl
theorem sorts_q8 : (Tryz.prog.mayEnter) = true := by kernel_rfl
theorem sorts_q9 : ((Rows.aggregateSortsRow.lifted == Tryz.prog.liftsFinal)) = true := by kernel_rfl
theorem sorts_closed : joinedFacts Tryz.prog 8 Tryz.f8 Rows.aggregateSortsSpec Rows.aggregateSortsRow = true := by
  unfold joinedFacts
  rw [sorts_q0, sorts_q1, sorts_q2, sorts_q3, sorts_q4, sorts_q5, sorts_q6, sorts_q7, sorts_q8, sorts_q9]
  kernel_rfl
end Go.Proofs.YtjgmakalledclaaGreatDoor
