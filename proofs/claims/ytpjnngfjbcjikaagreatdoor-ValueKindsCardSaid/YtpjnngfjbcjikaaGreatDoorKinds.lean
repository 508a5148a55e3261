/- The law ValueKinds answers true for every value. Conditions: none beyond the row's own (the listed variables as the program's text lays them). -/
import Derived.Test.YtpjnngfjbcjikaaGreatDoorM28
import Derived.Test.YtpjnngfjbcjikaaGreatDoorCards
namespace Go.Proofs.YtpjnngfjbcjikaaGreatDoor
open Go Go.Abs Go.Val Go.RowKit Go.ChangeShapes Go.WideShapes
attribute [local irreducible] go SGo HasBody Ev ExtEv EvO
theorem law_kinds (v : V) : Ev E 5 [enc v] (.d (.bool true)) := by
  have hs := small_ev [v]
  have hal := alive_ev
  cases h : lightF [[v]] 300 with
  | false =>
    rw [h] at hs
    refine enter1 Tryz.func5 Tryz.ntmps5 rfl rfl fun w0 F0 => ?_
    repeat' (first | (refine qS rfl ?_ ?_; (first | exact True.intro | rfl | assumption | omega | (simp only [inR]; omega) | ((show _ ≤ (9223372036854775807 : Nat)); (try simp only [ByteArray.size_append]); omega) | exact tmod_ok (by omega) (by omega) | exact tdiv_ok (by omega) (by omega) | exact ⟨rfl, by decide, by decide⟩)) | refine qA ?_ | refine qB rfl ?_ | refine qC (by kernel_rfl) ?_ | refine qD ?_ | refine qE ?_ | refine qF ?_ | refine qG ?_ | refine qH rfl ?_ | refine qP rfl rfl rfl rfl rfl rfl b8 (hs) ?_ | refine qP rfl rfl rfl rfl rfl rfl b9 (hal) ?_ | (refine qT rfl ?_ ?_; (first | rfl | assumption)) | (refine qU rfl ?_ ?_; (first | rfl | assumption)) | refine qL rfl rfl ?_ | refine qM rfl rfl rfl ?_ | refine qO rfl rfl rfl ?_ | refine qX (b' := true) rfl rfl rfl rfl (by assumption) ?_ | refine qX (b' := false) rfl rfl rfl rfl (by assumption) ?_ | (refine qY rfl rfl rfl rfl ?_ ?_ <;> intro _) | exact (rfl : (_ : D) = _) | exact (rfl : (_ : List D) = _))
  | true =>
    rw [h] at hs
    have hc := light_cost h
    have hl := txt_small (v := v) hc (by simp)
    have c1 := Valid_ev ixOK v
    have c2 := RValid_ev v
    have c3 := Plain_ev ixOK v
    have c4 := RPlain_ev v
    have c5 := Number_ev ixOK v
    have c6 := RNumber_ev v
    have c7 := Truth_ev ixOK v
    have c8 := RTruth_ev v
    have c9 := txt_ev v hl
    have c10 := rtxt_ev v hl
    have g1 : (Val.okV v == Val.okV v) = true := beq_self_eq_true _
    have g2 : (plainF v == plainF v) = true := beq_self_eq_true _
    have g3 : ((numN v == numN v) && ((numD v == numD v) && true)) = true := by simp
    have g4 : (isNum v == isNum v) = true := beq_self_eq_true _
    have g5 : (truthF v == truthF v) = true := beq_self_eq_true _
    have g6 : ((bs (txt v)).toList == (bs (txt v)).toList) = true := beq_self_eq_true _
    refine enter1 Tryz.func5 Tryz.ntmps5 rfl rfl fun w0 F0 => ?_
    repeat' (first | (refine qS rfl ?_ ?_; (first | exact True.intro | rfl | assumption | omega | (simp only [inR]; omega) | ((show _ ≤ (9223372036854775807 : Nat)); (try simp only [ByteArray.size_append]); omega) | exact tmod_ok (by omega) (by omega) | exact tdiv_ok (by omega) (by omega) | exact ⟨rfl, by decide, by decide⟩)) | refine qA ?_ | refine qB rfl ?_ | refine qC (by kernel_rfl) ?_ | refine qD ?_ | refine qE ?_ | refine qF ?_ | refine qG ?_ | refine qH rfl ?_ | refine qP rfl rfl rfl rfl rfl rfl b8 (hs) ?_ | refine qP rfl rfl rfl rfl rfl rfl b37 (c1) ?_ | refine qP rfl rfl rfl rfl rfl rfl b38 (c2) ?_ | refine qP rfl rfl rfl rfl rfl rfl b39 (c3) ?_ | refine qP rfl rfl rfl rfl rfl rfl b40 (c4) ?_ | refine qP rfl rfl rfl rfl rfl rfl b35 (c5) ?_ | refine qP rfl rfl rfl rfl rfl rfl b36 (c6) ?_ | refine qP rfl rfl rfl rfl rfl rfl b41 (c7) ?_ | refine qP rfl rfl rfl rfl rfl rfl b42 (c8) ?_ | refine qP rfl rfl rfl rfl rfl rfl b43 (c9) ?_ | refine qP rfl rfl rfl rfl rfl rfl b44 (c10) ?_ | refine qP rfl rfl rfl rfl rfl rfl b9 (hal) ?_ | (refine go_eqS (by kernel_rfl) (by kernel_rfl) rfl rfl rfl rfl rfl rfl rfl rfl (.inl ⟨rfl, rfl⟩) ?_) | (refine qT rfl ?_ ?_; (first | rfl | assumption)) | (refine qU rfl ?_ ?_; (first | rfl | assumption)) | refine qL rfl rfl ?_ | refine qM rfl rfl rfl ?_ | refine qO rfl rfl rfl ?_ | refine qX (b' := true) rfl rfl rfl rfl (by assumption) ?_ | refine qX (b' := false) rfl rfl rfl rfl (by assumption) ?_ | (refine qY rfl rfl rfl rfl ?_ ?_ <;> intro _) | exact (rfl : (_ : D) = _) | exact (rfl : (_ : List D) = _))
set_option maxRecDepth 100000 in
theorem kinds_lifted (os : Os) (started : os.Started) (H : Type) (enc : TypeId × Value → H) :
    ReturnsInHanded {} Tryz.checked os 5 .any (fun w args => (Rows.valueKindsSpec.pre enc Tryz.prog Tryz.f5 [] false w args ∧ laidMetH Tryz.prog seatLaid w) ∧ sizedMet enc Tryz.prog Tryz.f5 (OpenSpec.ofChange Rows.valueKindsSpec) false w args)
      (Rows.valueKindsSpec.post enc Tryz.prog Tryz.f5 false true false false) := by
  refine lift_true (C := Tryz.checked) (laid := seatLaid) (tb := 4) tys seat_own started (by kernel_rfl) Tryz.func5
    (ChangeSpec.witness_shaped (enc := enc) (C := Tryz.checked) (os := os) (X := fun w _ => laidMetH Tryz.prog seatLaid w) false (wit os) #[.agg #[.int .i64 0, .int .i64 0, .int .i64 0, .string ⟨#[]⟩, .slice none 0 0]] 8 rfl (wit_shaped os _) (by kernel_rfl) (by kernel_rfl) (by kernel_rfl) (wit_met os _))
    rfl rfl Tryz.underlying4 (fun ds hl => ?_) seat_out (by kernel_rfl) tys_ok (by kernel_rfl) (fun W args xs hL hS hx hsz hr hty => ?_)
  · match ds, hl with
    | [_], _ => rfl
  · have hsz' : args.size = 1 := hsz
    rw [hsz'] at hx
    match xs, hx with
    | [x0], _ =>
      obtain ⟨a0, rfl⟩ := ty_val (hty 0 _ x0 rfl rfl)
      exact calls_of_ev (gi_of hL hS) (law_kinds a0) (by simp [hsz']) hr
theorem kinds_holds : Rows.ValueKindsSaid :=
  OpenClaim.holds_of_wide 5 Tryz.f5 rfl rfl rfl rfl rfl rfl rfl ⟨rfl, rfl, rfl, rfl, rfl⟩ rfl rfl rfl rfl rfl (by kernel_rfl) Tryz.func5 (by kernel_rfl)
    (of_decide_eq_true (by kernel_rfl)) (by unfold Func.isWrapper; first | (rw [if_pos (by decide +kernel)]; kernel_rfl) | (rw [if_neg (by decide +kernel)]; exact ⟨rfl, rfl⟩))
    (fun os started H enc _ => kinds_lifted os started H enc)
theorem kinds_card : Rows.ValueKindsCardSaid := by
  unfold Rows.ValueKindsCardSaid Rows.valueKindsCard
  exact Claim7.holds_tied_plain_at .later [] _ true _ false
    kinds_holds (fun _ h => by cases h) (by kernel_rfl) (fun _ h => by cases h) valueKinds_row_tie rfl ⟨rfl, rfl⟩ (by kernel_rfl) rfl
    (fun f fn hf hfn => by
      obtain rfl : f = 5 := Option.some.inj ((show Tryz.prog.funcNamed Rows.valueKindsRow.func = some 5 by kernel_rfl).symm.trans hf) |>.symm
      obtain rfl : fn = Tryz.f5 := (Option.some.inj (Tryz.func5.symm.trans hfn)).symm
      exact ⟨by kernel_rfl, fun j t ht => by
        have hall : (Tryz.f5.params.toList.all fun u => !Tryz.prog.wantsStandIn u) = true := by kernel_rfl
        exact (show Tryz.prog.wantsStandIn t = false by simpa using List.all_eq_true.1 hall t (by simpa using Array.mem_of_getElem? ht))⟩)
    (by kernel_rfl)
#print axioms kinds_card
end Go.Proofs.YtpjnngfjbcjikaaGreatDoor
