/- The law ValueAgrees answers true for every two values. Conditions: none beyond the row's own (the listed variables as the program's text lays them). -/
import Derived.Test.YtpjnngfjbcjikaaDoorM31
import Derived.Test.YtpjnngfjbcjikaaDoorCards
namespace Go.Proofs.YtpjnngfjbcjikaaDoor
open Go Go.Abs Go.Val Go.RowKit Go.ChangeShapes Go.WideShapes
attribute [local irreducible] go SGo HasBody Ev ExtEv EvO
theorem law_agrees (a b : V) : Ev E 4 [enc a, enc b] (.d (.bool true)) := by
  have hs := small_ev [a, b]
  have hal := alive_ev
  cases h : lightF [[a, b]] 300 with
  | false =>
    rw [h] at hs
    refine enter2 Tryd.func4 Tryd.ntmps4 rfl rfl fun w0 F0 => ?_
    repeat' (first | (refine qS rfl ?_ ?_; (first | exact True.intro | rfl | assumption | omega | (simp only [inR]; omega) | ((show _ ≤ (9223372036854775807 : Nat)); (try simp only [ByteArray.size_append]); omega) | exact tmod_ok (by omega) (by omega) | exact tdiv_ok (by omega) (by omega) | exact ⟨rfl, by decide, by decide⟩)) | refine qA ?_ | refine qB rfl ?_ | refine qC (by kernel_rfl) ?_ | refine qD ?_ | refine qE ?_ | refine qF ?_ | refine qG ?_ | refine qH rfl ?_ | refine qP rfl rfl rfl rfl rfl rfl b5 (hs) ?_ | refine qP rfl rfl rfl rfl rfl rfl b6 (hal) ?_ | (refine qT rfl ?_ ?_; (first | rfl | assumption)) | (refine qU rfl ?_ ?_; (first | rfl | assumption)) | refine qL rfl rfl ?_ | refine qM rfl rfl rfl ?_ | refine qO rfl rfl rfl ?_ | refine qX (b' := true) rfl rfl rfl rfl (by assumption) ?_ | refine qX (b' := false) rfl rfl rfl rfl (by assumption) ?_ | (refine qY rfl rfl rfl rfl ?_ ?_ <;> intro _) | exact (rfl : (_ : D) = _) | exact (rfl : (_ : List D) = _))
  | true =>
    rw [h] at hs
    have hc := light_cost h
    have c1 := Equal_ev a b
    have c2 := Order_ev a b
    have c3 := Valid_ev ixOK a
    have c4 := Valid_ev ixOK b
    have c5 := txt_ev a (txt_small (v := a) hc (by simp))
    have c6 := txt_ev b (txt_small (v := b) hc (by simp))
    have c7 := same_ev a b
    by_cases hab : a = b
    · subst hab
      rw [ordF_self] at c2
      rw [sameF_refl] at c7
      have g0 : ((0 : Int) != 0) = false := rfl
      have g2 : (!((bs (txt a)).toList == (bs (txt a)).toList)) = false := by simp
      cases hv : Val.okV a with
      | true =>
        rw [hv] at c3
        have g1 : (eqF a a == 0) = false := by
          rw [beq_eq_false_iff_ne]
          intro e
          have := eqF_ne0 a hv
          rw [e] at this
          revert this; decide
        refine enter2 Tryd.func4 Tryd.ntmps4 rfl rfl fun w0 F0 => ?_
        repeat' (first | (refine qS rfl ?_ ?_; (first | exact True.intro | rfl | assumption | omega | (simp only [inR]; omega) | ((show _ ≤ (9223372036854775807 : Nat)); (try simp only [ByteArray.size_append]); omega) | exact tmod_ok (by omega) (by omega) | exact tdiv_ok (by omega) (by omega) | exact ⟨rfl, by decide, by decide⟩)) | refine qA ?_ | refine qB rfl ?_ | refine qC (by kernel_rfl) ?_ | refine qD ?_ | refine qE ?_ | refine qF ?_ | refine qG ?_ | refine qH rfl ?_ | refine qP rfl rfl rfl rfl rfl rfl b5 (hs) ?_ | refine qP rfl rfl rfl rfl rfl rfl b9 (c1) ?_ | refine qP rfl rfl rfl rfl rfl rfl b7 (c2) ?_ | refine qP rfl rfl rfl rfl rfl rfl b10 (c3) ?_ | refine qP rfl rfl rfl rfl rfl rfl b11 (c5) ?_ | refine qP rfl rfl rfl rfl rfl rfl b8 (c7) ?_ | refine qP rfl rfl rfl rfl rfl rfl b6 (hal) ?_ | (refine qT rfl ?_ ?_; (first | rfl | assumption)) | (refine qU rfl ?_ ?_; (first | rfl | assumption)) | refine qL rfl rfl ?_ | refine qM rfl rfl rfl ?_ | refine qO rfl rfl rfl ?_ | refine qX (b' := true) rfl rfl rfl rfl (by assumption) ?_ | refine qX (b' := false) rfl rfl rfl rfl (by assumption) ?_ | (refine qY rfl rfl rfl rfl ?_ ?_ <;> intro _) | exact (rfl : (_ : D) = _) | exact (rfl : (_ : List D) = _))
      | false =>
        rw [hv] at c3
        refine enter2 Tryd.func4 Tryd.ntmps4 rfl rfl fun w0 F0 => ?_
        repeat' (first | (refine qS rfl ?_ ?_; (first | exact True.intro | rfl | assumption | omega | (simp only [inR]; omega) | ((show _ ≤ (9223372036854775807 : Nat)); (try simp only [ByteArray.size_append]); omega) | exact tmod_ok (by omega) (by omega) | exact tdiv_ok (by omega) (by omega) | exact ⟨rfl, by decide, by decide⟩)) | refine qA ?_ | refine qB rfl ?_ | refine qC (by kernel_rfl) ?_ | refine qD ?_ | refine qE ?_ | refine qF ?_ | refine qG ?_ | refine qH rfl ?_ | refine qP rfl rfl rfl rfl rfl rfl b5 (hs) ?_ | refine qP rfl rfl rfl rfl rfl rfl b9 (c1) ?_ | refine qP rfl rfl rfl rfl rfl rfl b7 (c2) ?_ | refine qP rfl rfl rfl rfl rfl rfl b10 (c3) ?_ | refine qP rfl rfl rfl rfl rfl rfl b11 (c5) ?_ | refine qP rfl rfl rfl rfl rfl rfl b8 (c7) ?_ | refine qP rfl rfl rfl rfl rfl rfl b6 (hal) ?_ | (refine qT rfl ?_ ?_; (first | rfl | assumption)) | (refine qU rfl ?_ ?_; (first | rfl | assumption)) | refine qL rfl rfl ?_ | refine qM rfl rfl rfl ?_ | refine qO rfl rfl rfl ?_ | refine qX (b' := true) rfl rfl rfl rfl (by assumption) ?_ | refine qX (b' := false) rfl rfl rfl rfl (by assumption) ?_ | (refine qY rfl rfl rfl rfl ?_ ?_ <;> intro _) | exact (rfl : (_ : D) = _) | exact (rfl : (_ : List D) = _))
    · have g1 : (eqF a b == 2) = false := by rw [beq_eq_false_iff_ne]; exact fun e => hab (eqF_2 a b e)
      have g2 : (ordF a b == 0) = false := by rw [ord_same]; cases hq : sameF a b with
        | false => rfl
        | true => exact absurd ((sameF_iff a b).1 hq) hab
      cases hv : Val.okV a with
      | false =>
        rw [hv] at c3
        refine enter2 Tryd.func4 Tryd.ntmps4 rfl rfl fun w0 F0 => ?_
        repeat' (first | (refine qS rfl ?_ ?_; (first | exact True.intro | rfl | assumption | omega | (simp only [inR]; omega) | ((show _ ≤ (9223372036854775807 : Nat)); (try simp only [ByteArray.size_append]); omega) | exact tmod_ok (by omega) (by omega) | exact tdiv_ok (by omega) (by omega) | exact ⟨rfl, by decide, by decide⟩)) | refine qA ?_ | refine qB rfl ?_ | refine qC (by kernel_rfl) ?_ | refine qD ?_ | refine qE ?_ | refine qF ?_ | refine qG ?_ | refine qH rfl ?_ | refine qP rfl rfl rfl rfl rfl rfl b5 (hs) ?_ | refine qP rfl rfl rfl rfl rfl rfl b9 (c1) ?_ | refine qP rfl rfl rfl rfl rfl rfl b7 (c2) ?_ | refine qP rfl rfl rfl rfl rfl rfl b10 (c3) ?_ | refine qP rfl rfl rfl rfl rfl rfl b6 (hal) ?_ | (refine qT rfl ?_ ?_; (first | rfl | assumption)) | (refine qU rfl ?_ ?_; (first | rfl | assumption)) | refine qL rfl rfl ?_ | refine qM rfl rfl rfl ?_ | refine qO rfl rfl rfl ?_ | refine qX (b' := true) rfl rfl rfl rfl (by assumption) ?_ | refine qX (b' := false) rfl rfl rfl rfl (by assumption) ?_ | (refine qY rfl rfl rfl rfl ?_ ?_ <;> intro _) | exact (rfl : (_ : D) = _) | exact (rfl : (_ : List D) = _))
      | true =>
        rw [hv] at c3
        cases hw : Val.okV b with
        | false =>
          rw [hw] at c4
          refine enter2 Tryd.func4 Tryd.ntmps4 rfl rfl fun w0 F0 => ?_
          repeat' (first | (refine qS rfl ?_ ?_; (first | exact True.intro | rfl | assumption | omega | (simp only [inR]; omega) | ((show _ ≤ (9223372036854775807 : Nat)); (try simp only [ByteArray.size_append]); omega) | exact tmod_ok (by omega) (by omega) | exact tdiv_ok (by omega) (by omega) | exact ⟨rfl, by decide, by decide⟩)) | refine qA ?_ | refine qB rfl ?_ | refine qC (by kernel_rfl) ?_ | refine qD ?_ | refine qE ?_ | refine qF ?_ | refine qG ?_ | refine qH rfl ?_ | refine qP rfl rfl rfl rfl rfl rfl b5 (hs) ?_ | refine qP rfl rfl rfl rfl rfl rfl b9 (c1) ?_ | refine qP rfl rfl rfl rfl rfl rfl b7 (c2) ?_ | refine qP rfl rfl rfl rfl rfl rfl b10 (c3) ?_ | refine qP rfl rfl rfl rfl rfl rfl b10 (c4) ?_ | refine qP rfl rfl rfl rfl rfl rfl b6 (hal) ?_ | (refine qT rfl ?_ ?_; (first | rfl | assumption)) | (refine qU rfl ?_ ?_; (first | rfl | assumption)) | refine qL rfl rfl ?_ | refine qM rfl rfl rfl ?_ | refine qO rfl rfl rfl ?_ | refine qX (b' := true) rfl rfl rfl rfl (by assumption) ?_ | refine qX (b' := false) rfl rfl rfl rfl (by assumption) ?_ | (refine qY rfl rfl rfl rfl ?_ ?_ <;> intro _) | exact (rfl : (_ : D) = _) | exact (rfl : (_ : List D) = _))
        | true =>
          rw [hw] at c4
          have g3 : (!((bs (txt a)).toList == (bs (txt b)).toList)) = true := by
            rw [Bool.not_eq_true', beq_eq_false_iff_ne]
            intro e
            have := congrArg (fun s : ByteArray => s.data.toList) (ba_ext e)
            simp only [bs_data] at this
            exact hab (txt_inj hv hw this)
          refine enter2 Tryd.func4 Tryd.ntmps4 rfl rfl fun w0 F0 => ?_
          repeat' (first | (refine qS rfl ?_ ?_; (first | exact True.intro | rfl | assumption | omega | (simp only [inR]; omega) | ((show _ ≤ (9223372036854775807 : Nat)); (try simp only [ByteArray.size_append]); omega) | exact tmod_ok (by omega) (by omega) | exact tdiv_ok (by omega) (by omega) | exact ⟨rfl, by decide, by decide⟩)) | refine qA ?_ | refine qB rfl ?_ | refine qC (by kernel_rfl) ?_ | refine qD ?_ | refine qE ?_ | refine qF ?_ | refine qG ?_ | refine qH rfl ?_ | refine qP rfl rfl rfl rfl rfl rfl b5 (hs) ?_ | refine qP rfl rfl rfl rfl rfl rfl b9 (c1) ?_ | refine qP rfl rfl rfl rfl rfl rfl b7 (c2) ?_ | refine qP rfl rfl rfl rfl rfl rfl b10 (c3) ?_ | refine qP rfl rfl rfl rfl rfl rfl b10 (c4) ?_ | refine qP rfl rfl rfl rfl rfl rfl b11 (c5) ?_ | refine qP rfl rfl rfl rfl rfl rfl b11 (c6) ?_ | refine qP rfl rfl rfl rfl rfl rfl b6 (hal) ?_ | (refine qT rfl ?_ ?_; (first | rfl | assumption)) | (refine qU rfl ?_ ?_; (first | rfl | assumption)) | refine qL rfl rfl ?_ | refine qM rfl rfl rfl ?_ | refine qO rfl rfl rfl ?_ | refine qX (b' := true) rfl rfl rfl rfl (by assumption) ?_ | refine qX (b' := false) rfl rfl rfl rfl (by assumption) ?_ | (refine qY rfl rfl rfl rfl ?_ ?_ <;> intro _) | exact (rfl : (_ : D) = _) | exact (rfl : (_ : List D) = _))
set_option maxRecDepth 100000 in
theorem agrees_lifted (os : Os) (started : os.Started) (H : Type) (enc : TypeId × Value → H) :
    ReturnsInHanded {} Tryd.checked os 4 .any (fun w args => (Rows.valueAgreesSpec.pre enc Tryd.prog Tryd.f4 [] false w args ∧ laidMetH Tryd.prog seatLaid w) ∧ sizedMet enc Tryd.prog Tryd.f4 (OpenSpec.ofChange Rows.valueAgreesSpec) false w args)
      (Rows.valueAgreesSpec.post enc Tryd.prog Tryd.f4 false true false false) := by
  refine lift_true (C := Tryd.checked) (laid := seatLaid) (tb := 4) tys seat_own started (by kernel_rfl) Tryd.func4
    (ChangeSpec.witness_shaped (enc := enc) (C := Tryd.checked) (os := os) (X := fun w _ => laidMetH Tryd.prog seatLaid w) false (wit os) #[.agg #[.int .i64 0, .int .i64 0, .int .i64 0, .string ⟨#[]⟩, .slice none 0 0], .agg #[.int .i64 0, .int .i64 0, .int .i64 0, .string ⟨#[]⟩, .slice none 0 0]] 8 rfl (wit_shaped os _) (by kernel_rfl) (by kernel_rfl) (by kernel_rfl) (wit_met os _))
    rfl rfl Tryd.underlying4 (fun ds hl => ?_) seat_out (by kernel_rfl) tys_ok (by kernel_rfl) (fun W args xs hL hS hx hsz hr hty => ?_)
  · match ds, hl with
    | [_, _], _ => rfl
  · have hsz' : args.size = 2 := hsz
    rw [hsz'] at hx
    match xs, hx with
    | [x0, x1], _ =>
      obtain ⟨a0, rfl⟩ := ty_val (hty 0 _ x0 rfl rfl)
      obtain ⟨a1, rfl⟩ := ty_val (hty 1 _ x1 rfl rfl)
      exact calls_of_ev (gi_of hL hS) (law_agrees a0 a1) (by simp [hsz']) hr
theorem agrees_holds : Rows.ValueAgreesSaid :=
  OpenClaim.holds_of_wide 4 Tryd.f4 rfl rfl rfl rfl rfl rfl rfl ⟨rfl, rfl, rfl, rfl, rfl⟩ rfl rfl rfl rfl rfl (by kernel_rfl) Tryd.func4 (by kernel_rfl)
    (of_decide_eq_true (by kernel_rfl)) (by unfold Func.isWrapper; first | (rw [if_pos (by decide +kernel)]; kernel_rfl) | (rw [if_neg (by decide +kernel)]; exact ⟨rfl, rfl⟩))
    (fun os started H enc _ => agrees_lifted os started H enc)
theorem agrees_card : Rows.ValueAgreesCardSaid := by
  unfold Rows.ValueAgreesCardSaid Rows.valueAgreesCard
  exact Claim7.holds_tied_plain_at .later [] _ true _ false
    agrees_holds (fun _ h => by cases h) (by kernel_rfl) (fun _ h => by cases h) valueAgrees_row_tie rfl ⟨rfl, rfl⟩ (by kernel_rfl) rfl
    (fun f fn hf hfn => by
      obtain rfl : f = 4 := Option.some.inj ((show Tryd.prog.funcNamed Rows.valueAgreesRow.func = some 4 by kernel_rfl).symm.trans hf) |>.symm
      obtain rfl : fn = Tryd.f4 := (Option.some.inj (Tryd.func4.symm.trans hfn)).symm
      exact ⟨by kernel_rfl, fun j t ht => by
        have hall : (Tryd.f4.params.toList.all fun u => !Tryd.prog.wantsStandIn u) = true := by kernel_rfl
        exact (show Tryd.prog.wantsStandIn t = false by simpa using List.all_eq_true.1 hall t (by simpa using Array.mem_of_getElem? ht))⟩)
    (by kernel_rfl)
#print axioms agrees_card
end Go.Proofs.YtpjnngfjbcjikaaDoor
