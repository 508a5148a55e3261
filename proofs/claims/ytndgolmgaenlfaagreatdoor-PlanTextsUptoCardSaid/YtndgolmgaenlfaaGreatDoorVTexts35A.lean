/- As each says. -/
import Derived.Test.YtndgolmgaenlfaaGreatDoorGC
import Derived.Test.YtndgolmgaenlfaaGreatDoorTB
import Derived.Test.YtndgolmgaenlfaaGreatDoorTC
import Derived.Test.YtndgolmgaenlfaaGreatDoorTD
import Derived.Test.YtndgolmgaenlfaaGreatDoorCards
set_option linter.unusedVariables false
set_option linter.unusedSimpArgs false
namespace Go.Proofs.YtndgolmgaenlfaaGreatDoor
set_option maxRecDepth 4000
open Go Go.Abs Go.Val Go.RowKit Go.ChangeShapes Go.WideShapes
attribute [local irreducible] go SGo an1 Ev au8 EvO EvS
theorem texts_all (p : Pl) (h : bg6 [dn6 p] ≤ 1048576) : Ev E 4 [dn6 p] (.d (.bool true)) := law_texts35 fm2 p h
set_option maxRecDepth 100000 in
theorem texts_lifted (os : Os) (started : os.Started) (H : Type) (enc : TypeId × Value → H) (F : Stop.Interp) :
    ReturnsInHanded {} Tryz.checked os 4 .any ((Rows.OpenSpec.upto Rows.planTextsSpec).preRow enc Tryz.prog Tryz.f4 [] false seatLaid)
      (((Rows.OpenSpec.upto Rows.planTextsSpec).at F).post enc Tryz.prog Tryz.f4 false true false false) := by
  refine bg4 (C := Tryz.checked) (s0 := Rows.planTextsSpec) (kf := Rows.uptoSmall) (laid := seatLaid) (tb := 4) F tys2 rfl rfl rfl seat_own started (by kernel_rfl) Tryz.func4
    (witness_cond (kf := Rows.uptoSmall) rfl (wit os) #[.agg #[.int .i64 0, .slice none 0 0, .slice none 0 0, .slice none 0 0, .int .i64 0, .bool false, .bool false, .slice none 0 0, .slice none 0 0, .int .i64 0, .int .i64 0, .int .i64 0, .int .i64 0, .string ⟨#[]⟩, .slice none 0 0, .string ⟨#[]⟩, .bool false, .slice none 0 0, .string ⟨#[]⟩, .slice none 0 0, .slice none 0 0, .int .i64 0, .int .i64 0, .slice none 0 0, .slice none 0 0, .int .i64 0, .int .i64 0, .int .i64 0, .int .i64 0, .string ⟨#[]⟩, .slice none 0 0, .string ⟨#[]⟩, .bool false, .slice none 0 0, .string ⟨#[]⟩, .slice none 0 0, .slice none 0 0, .int .i64 0, .int .i64 0]] 8 rfl (wit_shaped os _) (by kernel_rfl) (by kernel_rfl) (by kernel_rfl) (wit_met os _))
    rfl rfl Tryz.underlying4 (fun ds hl => ?_) seat_out (by kernel_rfl) tys2_ok (by kernel_rfl) (fun W args xs ds hL hS hx hsz hr hty hdl hk => ?_)
  · match ds, hl with
    | [_], _ => rfl
  · have hsz' : args.size = 1 := hsz
    have hbk := fp0 ds xs (by rw [hdl, hx, hsz]) fun i d x hd hxi => (hty i _ x (by
      rw [fy3];exact Array.getElem?_eq_getElem (by rw [← hsz, ← hx]; exact (fp7.1 hxi).1)) hxi).2 d hd
    have hsm : Rows.uptoBulkAll ds ≤ 1048576 := of_decide_eq_true hk;rw [hsz'] at hx
    match xs, hx with
    | [x0], _ =>
      obtain ⟨a0, rfl⟩ := fo8 (hty 0 _ x0 rfl rfl).1;exact ay8 (gi_of hL hS) (texts_all a0 (fs8 hbk hsm)) (by simp [hsz']) hr
theorem texts_q0 : (laidOutB Tryz.prog) = true := by kernel_rfl
theorem texts_q1 : (mapsRowed Tryz.prog) = true := by kernel_rfl
theorem texts_q2 : ((Rows.planTextsUptoRow.inPlace == Tryz.prog.inPlace 4)) = true := by kernel_rfl
theorem texts_q3 : ((Rows.planTextsUptoRow.unfollowed == Tryz.prog.unfollowed 4)) = true := by kernel_rfl
theorem texts_q4 : ((Rows.planTextsUptoRow.recurses == Tryz.prog.recurses 4)) = true := by kernel_rfl
theorem texts_q5 : ((Rows.planTextsUptoRow.named == Tryz.prog.varsNamed 4)) = true := by kernel_rfl
theorem texts_q6 : ((Rows.planTextsUptoRow.loops == (Tryz.f4.params.toList ++ (Rows.OpenSpec.upto Rows.planTextsSpec).bare.plain.varTypes Tryz.prog).any (Tryz.prog.loopsFrom ·))) = true := by kernel_rfl
theorem texts_q7 : (Tryz.prog.stopsHeard) = true := by kernel_rfl
theorem texts_q8 : (Tryz.prog.mayEnter) = true := by kernel_rfl
theorem texts_q9 : ((Rows.planTextsUptoRow.lifted == Tryz.prog.liftsFinal)) = true := by kernel_rfl
theorem texts_closed : joinedFacts Tryz.prog 4 Tryz.f4 (Rows.OpenSpec.upto Rows.planTextsSpec).bare Rows.planTextsUptoRow = true := by
  unfold joinedFacts
  rw [texts_q0, texts_q1, texts_q2, texts_q3, texts_q4, texts_q5, texts_q6, texts_q7, texts_q8, texts_q9]
  kernel_rfl
end Go.Proofs.YtndgolmgaenlfaaGreatDoor
