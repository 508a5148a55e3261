/- PlanApart: two checked plans without negative constants have the same text if and only if they are equal (but for what is not written of clauses), within the row's bound; and the chapter's examples hold. The tied card of the second form. Conditions: none beyond the card's own. -/
import Derived.Test.YtndgolmgaenlfaaGreatDoorGC
import Derived.Test.YtndgolmgaenlfaaGreatDoorTB
import Derived.Test.YtndgolmgaenlfaaGreatDoorTE
import Derived.Test.YtndgolmgaenlfaaGreatDoorTD
import Derived.Test.YtndgolmgaenlfaaGreatDoorCards
set_option linter.unusedVariables false
set_option linter.unusedSimpArgs false
namespace Go.Proofs.YtndgolmgaenlfaaGreatDoor
set_option maxRecDepth 4000
open Go Go.Abs Go.Val Go.RowKit Go.ChangeShapes Go.WideShapes
attribute [local irreducible] go SGo an9 Ev aw1 EvO EvS
theorem apart_all (p q : Pl) (h : bi3 [do8 p, do8 q] ≤ 1048576) : Ev E 6 [do8 p, do8 q] (.d (.bool true)) := law_apart35 fb2 p q h
set_option maxRecDepth 100000 in
theorem apart_lifted (os : Os) (started : os.Started) (H : Type) (enc : TypeId × Value → H) (F : Stop.Interp) :
    ReturnsInHanded {} Tryz.checked os 6 .any ((Rows.OpenSpec.upto Rows.planApartSpec).preRow enc Tryz.prog Tryz.f6 [] false seatLaid)
      (((Rows.OpenSpec.upto Rows.planApartSpec).at F).post enc Tryz.prog Tryz.f6 false true false false) := by
  refine bi1 (C := Tryz.checked) (s0 := Rows.planApartSpec) (kf := Rows.uptoSmall) (laid := seatLaid) (tb := 4) F tys2 rfl rfl rfl seat_own started (by kernel_rfl) Tryz.func6
    (witness_cond (kf := Rows.uptoSmall) rfl (wit os) #[.agg #[.int .i64 0, .slice none 0 0, .slice none 0 0, .slice none 0 0, .int .i64 0, .bool false, .bool false, .slice none 0 0, .slice none 0 0, .int .i64 0, .int .i64 0, .int .i64 0, .int .i64 0, .string ⟨#[]⟩, .slice none 0 0, .string ⟨#[]⟩, .bool false, .slice none 0 0, .string ⟨#[]⟩, .slice none 0 0, .slice none 0 0, .int .i64 0, .int .i64 0, .slice none 0 0, .slice none 0 0, .int .i64 0, .int .i64 0, .int .i64 0, .int .i64 0, .string ⟨#[]⟩, .slice none 0 0, .string ⟨#[]⟩, .bool false, .slice none 0 0, .string ⟨#[]⟩, .slice none 0 0, .slice none 0 0, .int .i64 0, .int .i64 0], .agg #[.int .i64 0, .slice none 0 0, .slice none 0 0, .slice none 0 0, .int .i64 0, .bool false, .bool false, .slice none 0 0, .slice none 0 0, .int .i64 0, .int .i64 0, .int .i64 0, .int .i64 0, .string ⟨#[]⟩, .slice none 0 0, .string ⟨#[]⟩, .bool false, .slice none 0 0, .string ⟨#[]⟩, .slice none 0 0, .slice none 0 0, .int .i64 0, .int .i64 0, .slice none 0 0, .slice none 0 0, .int .i64 0, .int .i64 0, .int .i64 0, .int .i64 0, .string ⟨#[]⟩, .slice none 0 0, .string ⟨#[]⟩, .bool false, .slice none 0 0, .string ⟨#[]⟩, .slice none 0 0, .slice none 0 0, .int .i64 0, .int .i64 0]] 8 rfl (wit_shaped os _) (by kernel_rfl) (by kernel_rfl) (by kernel_rfl) (wit_met os _))
    rfl rfl Tryz.underlying4 (fun ds hl => ?_) seat_out (by kernel_rfl) tys2_ok (by kernel_rfl) (fun W args xs ds hL hS hx hsz hr hty hdl hk => ?_)
  · match ds, hl with
    | [_, _], _ => rfl
  · have hsz' : args.size = 2 := hsz
    have hbk := fc9 ds xs (by rw [hdl, hx, hsz]) fun i d x hd hxi => (hty i _ x (by
      rw [gh9];exact Array.getElem?_eq_getElem (by rw [← hsz, ← hx]; exact (fy9.1 hxi).1)) hxi).2 d hd
    have hsm : Rows.uptoBulkAll ds ≤ 1048576 := of_decide_eq_true hk;rw [hsz'] at hx
    match xs, hx with
    | [x0, x1], _ =>
      obtain ⟨a0, rfl⟩ := fc7 (hty 0 _ x0 rfl rfl).1;obtain ⟨a1, rfl⟩ := fc7 (hty 1 _ x1 rfl rfl).1;exact ba1 (gi_of hL hS) (apart_all a0 a1 (gb8 hbk hsm)) (by simp [hsz']) hr
theorem apart_q0 : (laidOutB Tryz.prog) = true := by kernel_rfl
theorem apart_q1 : (mapsRowed Tryz.prog) = true := by kernel_rfl
theorem apart_q2 : ((Rows.planApartUptoRow.inPlace == Tryz.prog.inPlace 6)) = true := by kernel_rfl
theorem apart_q3 : ((Rows.planApartUptoRow.unfollowed == Tryz.prog.unfollowed 6)) = true := by kernel_rfl
theorem apart_q4 : ((Rows.planApartUptoRow.recurses == Tryz.prog.recurses 6)) = true := by kernel_rfl
theorem apart_q5 : ((Rows.planApartUptoRow.named == Tryz.prog.varsNamed 6)) = true := by kernel_rfl
theorem apart_q6 : ((Rows.planApartUptoRow.loops == (Tryz.f6.params.toList ++ (Rows.OpenSpec.upto Rows.planApartSpec).bare.plain.varTypes Tryz.prog).any (Tryz.prog.loopsFrom ·))) = true := by kernel_rfl
theorem apart_q7 : (Tryz.prog.stopsHeard) = true := by kernel_rfl
theorem apart_q8 : (Tryz.prog.mayEnter) = true := by kernel_rfl
theorem apart_q9 : ((Rows.planApartUptoRow.lifted == Tryz.prog.liftsFinal)) = true := by kernel_rfl
theorem apart_closed : joinedFacts Tryz.prog 6 Tryz.f6 (Rows.OpenSpec.upto Rows.planApartSpec).bare Rows.planApartUptoRow = true := by
  unfold joinedFacts
  rw [apart_q0, apart_q1, apart_q2, apart_q3, apart_q4, apart_q5, apart_q6, apart_q7, apart_q8, apart_q9]
  kernel_rfl
end Go.Proofs.YtndgolmgaenlfaaGreatDoor
