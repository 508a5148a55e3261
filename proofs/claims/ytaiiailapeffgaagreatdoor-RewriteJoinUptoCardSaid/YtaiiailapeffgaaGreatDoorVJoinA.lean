/- RewriteJoin: conditions on one side of a join end up on that side only, and those on both sides remain above, for all expressions within the row's bound; and the chapter's examples hold. The tied card of the second form. Conditions: none beyond the card's own. -/
import Derived.Test.YtaiiailapeffgaaGreatDoorGC
import Derived.Test.YtaiiailapeffgaaGreatDoorJB
import Derived.Test.YtaiiailapeffgaaGreatDoorCards
set_option linter.unusedVariables false
set_option linter.unusedSimpArgs false
namespace Go.Proofs.YtaiiailapeffgaaGreatDoor
set_option maxRecDepth 4000
open Go Go.Abs Go.Val Go.RowKit Go.ChangeShapes Go.WideShapes
attribute [local irreducible] go SGo an2 Ev aw0 EvO EvS
set_option maxRecDepth 100000 in
theorem join_lifted (os : Os) (started : os.Started) (H : Type) (enc : TypeId × Value → H) (F : Stop.Interp) :
    ReturnsInHanded {} Tryz.checked os 3 .any ((Rows.OpenSpec.upto Rows.rewriteJoinSpec).preRow enc Tryz.prog Tryz.f3 [] false seatLaid)
      (((Rows.OpenSpec.upto Rows.rewriteJoinSpec).at F).post enc Tryz.prog Tryz.f3 false true false false) := by
  refine bj2 (C := Tryz.checked) (s0 := Rows.rewriteJoinSpec) (kf := Rows.uptoSmall) (laid := seatLaid) (tb := 4) F tys2 rfl rfl rfl seat_own started (by kernel_rfl) Tryz.func3
    (witness_cond (kf := Rows.uptoSmall) rfl (wit os) #[.agg #[.int .i64 0, .int .i64 0, .int .i64 0, .int .i64 0, .string ⟨#[]⟩, .slice none 0 0, .string ⟨#[]⟩, .bool false, .slice none 0 0], .agg #[.int .i64 0, .int .i64 0, .int .i64 0, .int .i64 0, .string ⟨#[]⟩, .slice none 0 0, .string ⟨#[]⟩, .bool false, .slice none 0 0], .agg #[.int .i64 0, .int .i64 0, .int .i64 0, .int .i64 0, .string ⟨#[]⟩, .slice none 0 0, .string ⟨#[]⟩, .bool false, .slice none 0 0]] 8 rfl (wit_shaped os _) (by kernel_rfl) (by kernel_rfl) (by kernel_rfl) (wit_met os _))
    rfl rfl Tryz.underlying4 (fun ds hl => ?_) seat_out (by kernel_rfl) tys2_ok (by kernel_rfl) (fun W args xs ds hL hS hx hsz hr hty hdl hk => ?_)
  · match ds, hl with
    | [_, _, _], _ => rfl
  · have hsz' : args.size = 3 := hsz
    have hbk := du6 ds xs (by rw [hdl, hx, hsz]) fun i d x hd hxi => (hty i _ x (by
      rw [fs9];exact Array.getElem?_eq_getElem (by rw [← hsz, ← hx]; exact (fk2.1 hxi).1)) hxi).2 d hd
    have hsm : Rows.uptoBulkAll ds ≤ 1048576 := of_decide_eq_true hk;rw [hsz'] at hx
    match xs, hx with
    | [x0, x1, x2], _ =>
      obtain ⟨a0, rfl⟩ := dz9 (hty 0 _ x0 rfl rfl).1;obtain ⟨a1, rfl⟩ := dz9 (hty 1 _ x1 rfl rfl).1;obtain ⟨a2, rfl⟩ := dz9 (hty 2 _ x2 rfl rfl).1;exact ba6 (gi_of hL hS) (law_join36 a0 a1 a2 (fq8 hbk hsm)) (by simp [hsz']) hr
theorem join_q0 : (laidOutB Tryz.prog) = true := by kernel_rfl
theorem join_q1 : (mapsRowed Tryz.prog) = true := by kernel_rfl
theorem join_q2 : ((Rows.rewriteJoinUptoRow.inPlace == Tryz.prog.inPlace 3)) = true := by kernel_rfl
theorem join_q3 : ((Rows.rewriteJoinUptoRow.unfollowed == Tryz.prog.unfollowed 3)) = true := by kernel_rfl
theorem join_q4 : ((Rows.rewriteJoinUptoRow.recurses == Tryz.prog.recurses 3)) = true := by kernel_rfl
theorem join_q5 : ((Rows.rewriteJoinUptoRow.named == Tryz.prog.varsNamed 3)) = true := by kernel_rfl
theorem join_q6 : ((Rows.rewriteJoinUptoRow.loops == (Tryz.f3.params.toList ++ (Rows.OpenSpec.upto Rows.rewriteJoinSpec).bare.plain.varTypes Tryz.prog).any (Tryz.prog.loopsFrom ·))) = true := by kernel_rfl
theorem join_q7 : (Tryz.prog.stopsHeard) = true := by kernel_rfl
theorem join_q8 : (Tryz.prog.mayEnter) = true := by kernel_rfl
theorem join_q9 : ((Rows.rewriteJoinUptoRow.lifted == Tryz.prog.liftsFinal)) = true := by kernel_rfl
theorem join_closed : joinedFacts Tryz.prog 3 Tryz.f3 (Rows.OpenSpec.upto Rows.rewriteJoinSpec).bare Rows.rewriteJoinUptoRow = true := by
  unfold joinedFacts
  rw [join_q0, join_q1, join_q2, join_q3, join_q4, join_q5, join_q6, join_q7, join_q8, join_q9]
  kernel_rfl
end Go.Proofs.YtaiiailapeffgaaGreatDoor
