/- EvalValid: the result is valid, null for a rejected expression, and Test is its truth value, within the row's bound; and the chapter's examples hold. The tied card of the second form. Conditions: none beyond the card's own. -/
import Derived.Test.YthieohigmpfknaaGreatDoorGC
import Derived.Test.YthieohigmpfknaaGreatDoorEY
import Derived.Test.YthieohigmpfknaaGreatDoorEC
set_option linter.unusedVariables false
set_option linter.unusedSimpArgs false
namespace Go.Proofs.YthieohigmpfknaaGreatDoor
open Go Go.Abs Go.Val Go.RowKit Go.ChangeShapes Go.WideShapes
attribute [local irreducible] go SGo HasBody Ev ExtEv EvO EvS

theorem law_valid (g : Gr) (e : Ex) (env : List Bd) (h : bulkL [encGr g, encE e, .sl (env.map encBd)] ≤ 1048576) : Ev E 4 [encGr g, encE e, .sl (env.map encBd)] (.d (.bool true)) := by
  obtain ⟨hb, hn⟩ := bulk3 h
  have h1 := few_ev g e env hn
  cases hf : fewF g e env with
  | false =>
    rw [hf] at h1
    refine enter3 Tryz.func4 Tryz.ntmps4 rfl rfl fun w0 F0 O => ?_
    repeat' (first | refine zS rfl ?_ | refine qA ?_ | refine qB rfl ?_ | refine qD ?_ | refine qP rfl rfl rfl rfl rfl rfl b9 (h1) ?_ | refine qP rfl rfl rfl rfl rfl rfl b10 (alive_ev) ?_ | refine zT rfl ?_ | refine qL rfl rfl ?_ | exact zD)
  | true =>
    rw [hf] at h1
    have hnd := (few_inv hf).1
    have hdp := dp_nd e
    have hok := evOK_bulk hb (by omega)
    have h2 := Eval_ev g env e hok
    have h4 := Test_ev g env e hok
    have h5 := RValid_ev (valF g env e)
    have h6 := RTruth_ev (valF g env e)
    have h7 := rcheck_ev e (by omega) (by omega)
    rw [valF_ok] at h5
    have h8 : (truthF (valF g env e) == truthF (valF g env e)) = true := beq_self_eq_true _
    cases hz : chkF e == 0 with
    | true =>
      generalize valF g env e = v at *
      generalize truthF v = t at *
      refine enter3 Tryz.func4 Tryz.ntmps4 rfl rfl fun w0 F0 O => ?_
      repeat' (first | refine zS rfl ?_ | refine qA ?_ | refine qB rfl ?_ | refine qC (by kernel_rfl) ?_ | refine qD ?_ | refine qE ?_ | refine qP rfl rfl rfl rfl rfl rfl b9 (h1) ?_ | refine qP rfl rfl rfl rfl rfl rfl b10 (alive_ev) ?_ | refine qP rfl rfl rfl rfl rfl rfl b11 (h2) ?_ | refine qP rfl rfl rfl rfl rfl rfl b14 (h4) ?_ | refine qP rfl rfl rfl rfl rfl rfl b16 (h5) ?_ | refine qP rfl rfl rfl rfl rfl rfl b18 (h6) ?_ | refine qP rfl rfl rfl rfl rfl rfl b17 (h7) ?_ | refine zU rfl ?_ | refine qL rfl rfl ?_ | refine zX rfl rfl rfl rfl ?_ | exact zD)
    | false =>
      have hv : valF g env e = vNull := by unfold valF; rw [bne, hz]; rfl
      have hk : ((valF g env e).k == 0) = true := by rw [hv]; rfl
      generalize valF g env e = v at *
      generalize truthF v = t at *
      refine enter3 Tryz.func4 Tryz.ntmps4 rfl rfl fun w0 F0 O => ?_
      repeat' (first | refine zS rfl ?_ | refine qA ?_ | refine qB rfl ?_ | refine qC (by kernel_rfl) ?_ | refine qD ?_ | refine qE ?_ | refine qP rfl rfl rfl rfl rfl rfl b9 (h1) ?_ | refine qP rfl rfl rfl rfl rfl rfl b10 (alive_ev) ?_ | refine qP rfl rfl rfl rfl rfl rfl b11 (h2) ?_ | refine qP rfl rfl rfl rfl rfl rfl b14 (h4) ?_ | refine qP rfl rfl rfl rfl rfl rfl b16 (h5) ?_ | refine qP rfl rfl rfl rfl rfl rfl b18 (h6) ?_ | refine qP rfl rfl rfl rfl rfl rfl b17 (h7) ?_ | refine zU rfl ?_ | refine qL rfl rfl ?_ | refine zX rfl rfl rfl rfl ?_ | refine zW rfl rfl rfl rfl ?_ | exact zD)
set_option maxRecDepth 100000 in
theorem valid_lifted (os : Os) (started : os.Started) (H : Type) (enc : TypeId × Value → H) (F : Stop.Interp) :
    ReturnsInHanded {} Tryz.checked os 4 .any ((Rows.OpenSpec.upto Rows.evalValidSpec).preRow enc Tryz.prog Tryz.f4 [] false seatLaid)
      (((Rows.OpenSpec.upto Rows.evalValidSpec).at F).post enc Tryz.prog Tryz.f4 false true false false) := by
  refine lift_cond (C := Tryz.checked) (s0 := Rows.evalValidSpec) (kf := Rows.uptoSmall) (laid := seatLaid) (tb := 4) F tys2 rfl rfl rfl seat_own started (by kernel_rfl) Tryz.func4
    (witness_cond (kf := Rows.uptoSmall) rfl (wit os) #[.agg #[.slice none 0 0, .slice none 0 0, .int .i64 0, .int .i64 0], .agg #[.int .i64 0, .int .i64 0, .int .i64 0, .int .i64 0, .string ⟨#[]⟩, .slice none 0 0, .string ⟨#[]⟩, .bool false, .slice none 0 0], .slice none 0 0] 8 rfl (wit_shaped os _) (by kernel_rfl) (by kernel_rfl) (by kernel_rfl) (wit_met os _))
    rfl rfl Tryz.underlying4 (fun ds hl => ?_) seat_out (by kernel_rfl) tys2_ok (by kernel_rfl) (fun W args xs ds hL hS hx hsz hr hty hdl hk => ?_)
  · match ds, hl with
    | [_, _, _], _ => rfl
  · have hsz' : args.size = 3 := hsz
    have hbk := says_all ds xs (by rw [hdl, hx, hsz]) fun i d x hd hxi => (hty i _ x (by
      rw [Array.getElem?_toList]
      exact Array.getElem?_eq_getElem (by rw [← hsz, ← hx]; exact (List.getElem?_eq_some_iff.1 hxi).1)) hxi).2 d hd
    have hsm : Rows.uptoBulkAll ds ≤ 1048576 := of_decide_eq_true hk
    rw [hsz'] at hx
    match xs, hx with
    | [x0, x1, x2], _ =>
      obtain ⟨a0, rfl⟩ := ty_graph (hty 0 _ x0 rfl rfl).1
      obtain ⟨a1, rfl⟩ := ty_expr (hty 1 _ x1 rfl rfl).1
      obtain ⟨a2, rfl⟩ := ty_env (hty 2 _ x2 rfl rfl).1
      exact calls_of_ev (gi_of hL hS) (law_valid a0 a1 a2 (Nat.le_trans hbk hsm)) (by simp [hsz']) hr
theorem valid_holds : Rows.EvalValidUptoSaid :=
  OpenClaim.holds_of_cond 4 Tryz.f4 rfl rfl rfl rfl rfl rfl rfl ⟨rfl, rfl, rfl, rfl, rfl⟩ rfl rfl rfl rfl rfl (by kernel_rfl) Tryz.func4 (by kernel_rfl)
    (of_decide_eq_true (by kernel_rfl)) (by unfold Func.isWrapper; first | (rw [if_pos (by decide +kernel)]; kernel_rfl) | (rw [if_neg (by decide +kernel)]; exact ⟨rfl, rfl⟩))
    (fun os started H enc _ F => by rw [OpenClaim.pre_eq_preRow]; exact valid_lifted os started H enc F)
theorem valid_card : Rows.EvalValidUptoCardSaid := by
  unfold Rows.EvalValidUptoCardSaid Rows.evalValidUptoCard
  exact Claim7.holds_tied_plain_at .later [] _ true _ false
    valid_holds (fun _ h => by cases h) (by kernel_rfl) (fun _ h => by cases h) evalValidUpto_row_tie rfl ⟨rfl, rfl⟩ (by kernel_rfl) rfl
    (fun f fn hf hfn => by
      obtain rfl : f = 4 := Option.some.inj ((show Tryz.prog.funcNamed Rows.evalValidUptoRow.func = some 4 by kernel_rfl).symm.trans hf) |>.symm
      obtain rfl : fn = Tryz.f4 := (Option.some.inj (Tryz.func4.symm.trans hfn)).symm
      exact ⟨by kernel_rfl, fun j t ht => by
        have hall : (Tryz.f4.params.toList.all fun u => !Tryz.prog.wantsStandIn u) = true := by kernel_rfl
        exact (show Tryz.prog.wantsStandIn t = false by simpa using List.all_eq_true.1 hall t (by simpa using Array.mem_of_getElem? ht))⟩)
    (by kernel_rfl)
#print axioms valid_card
end Go.Proofs.YthieohigmpfknaaGreatDoor
