/- The law ValueOrder answers true for every three values. Conditions: none beyond the row's own (the listed variables as the program's text lays them). -/
import Derived.Test.YtpjnngfjbcjikaaDoorM30
import Derived.Test.YtpjnngfjbcjikaaDoorCards
namespace Go.Proofs.YtpjnngfjbcjikaaDoor
open Go Go.Abs Go.Val Go.RowKit Go.ChangeShapes Go.WideShapes
attribute [local irreducible] go SGo HasBody Ev ExtEv EvO
theorem law_order (a b c : V) : Ev E 3 [enc a, enc b, enc c] (.d (.bool true)) := by
  have hs := small_ev [a, b, c]
  have hal := alive_ev
  cases h : lightF [[a, b, c]] 300 with
  | false =>
    rw [h] at hs
    refine enter3 Tryd.func3 Tryd.ntmps3 rfl rfl fun w0 F0 => ?_
    repeat' (first | (refine qS rfl ?_ ?_; (first | exact True.intro | rfl | assumption | omega | (simp only [inR]; omega) | ((show _ ≤ (9223372036854775807 : Nat)); (try simp only [ByteArray.size_append]); omega) | exact tmod_ok (by omega) (by omega) | exact tdiv_ok (by omega) (by omega) | exact ⟨rfl, by decide, by decide⟩)) | refine qA ?_ | refine qB rfl ?_ | refine qC (by kernel_rfl) ?_ | refine qD ?_ | refine qE ?_ | refine qF ?_ | refine qG ?_ | refine qH rfl ?_ | refine qP rfl rfl rfl rfl rfl rfl b5 (hs) ?_ | refine qP rfl rfl rfl rfl rfl rfl b6 (hal) ?_ | (refine qT rfl ?_ ?_; (first | rfl | assumption)) | (refine qU rfl ?_ ?_; (first | rfl | assumption)) | refine qL rfl rfl ?_ | refine qM rfl rfl rfl ?_ | refine qO rfl rfl rfl ?_ | refine qX (b' := true) rfl rfl rfl rfl (by assumption) ?_ | refine qX (b' := false) rfl rfl rfl rfl (by assumption) ?_ | (refine qY rfl rfl rfl rfl ?_ ?_ <;> intro _) | exact (rfl : (_ : D) = _) | exact (rfl : (_ : List D) = _))
  | true =>
    rw [h] at hs
    have c1 := Order_ev a b
    have c2 := Order_ev a a
    have c3 := Order_ev b c
    have c4 := Order_ev a c
    have c5 := same_ev a b
    rw [ordF_self] at c2
    have g1 : (!((ordF a b == 0) == sameF a b)) = false := by rw [ord_same]; simp
    cases g2 : decide (ordF a b > 0) with
    | true =>
      refine enter3 Tryd.func3 Tryd.ntmps3 rfl rfl fun w0 F0 => ?_
      repeat' (first | (refine qS rfl ?_ ?_; (first | exact True.intro | rfl | assumption | omega | (simp only [inR]; omega) | ((show _ ≤ (9223372036854775807 : Nat)); (try simp only [ByteArray.size_append]); omega) | exact tmod_ok (by omega) (by omega) | exact tdiv_ok (by omega) (by omega) | exact ⟨rfl, by decide, by decide⟩)) | refine qA ?_ | refine qB rfl ?_ | refine qC (by kernel_rfl) ?_ | refine qD ?_ | refine qE ?_ | refine qF ?_ | refine qG ?_ | refine qH rfl ?_ | refine qP rfl rfl rfl rfl rfl rfl b5 (hs) ?_ | refine qP rfl rfl rfl rfl rfl rfl b7 (c1) ?_ | refine qP rfl rfl rfl rfl rfl rfl b7 (c2) ?_ | refine qP rfl rfl rfl rfl rfl rfl b7 (c3) ?_ | refine qP rfl rfl rfl rfl rfl rfl b7 (c4) ?_ | refine qP rfl rfl rfl rfl rfl rfl b8 (c5) ?_ | refine qP rfl rfl rfl rfl rfl rfl b6 (hal) ?_ | (refine qT rfl ?_ ?_; (first | rfl | assumption)) | (refine qU rfl ?_ ?_; (first | rfl | assumption)) | refine qL rfl rfl ?_ | refine qM rfl rfl rfl ?_ | refine qO rfl rfl rfl ?_ | refine qX (b' := true) rfl rfl rfl rfl (by assumption) ?_ | refine qX (b' := false) rfl rfl rfl rfl (by assumption) ?_ | (refine qY rfl rfl rfl rfl ?_ ?_ <;> intro _) | exact (rfl : (_ : D) = _) | exact (rfl : (_ : List D) = _))
    | false =>
      cases g3 : decide (ordF b c > 0) with
      | true =>
        refine enter3 Tryd.func3 Tryd.ntmps3 rfl rfl fun w0 F0 => ?_
        repeat' (first | (refine qS rfl ?_ ?_; (first | exact True.intro | rfl | assumption | omega | (simp only [inR]; omega) | ((show _ ≤ (9223372036854775807 : Nat)); (try simp only [ByteArray.size_append]); omega) | exact tmod_ok (by omega) (by omega) | exact tdiv_ok (by omega) (by omega) | exact ⟨rfl, by decide, by decide⟩)) | refine qA ?_ | refine qB rfl ?_ | refine qC (by kernel_rfl) ?_ | refine qD ?_ | refine qE ?_ | refine qF ?_ | refine qG ?_ | refine qH rfl ?_ | refine qP rfl rfl rfl rfl rfl rfl b5 (hs) ?_ | refine qP rfl rfl rfl rfl rfl rfl b7 (c1) ?_ | refine qP rfl rfl rfl rfl rfl rfl b7 (c2) ?_ | refine qP rfl rfl rfl rfl rfl rfl b7 (c3) ?_ | refine qP rfl rfl rfl rfl rfl rfl b7 (c4) ?_ | refine qP rfl rfl rfl rfl rfl rfl b8 (c5) ?_ | refine qP rfl rfl rfl rfl rfl rfl b6 (hal) ?_ | (refine qT rfl ?_ ?_; (first | rfl | assumption)) | (refine qU rfl ?_ ?_; (first | rfl | assumption)) | refine qL rfl rfl ?_ | refine qM rfl rfl rfl ?_ | refine qO rfl rfl rfl ?_ | refine qX (b' := true) rfl rfl rfl rfl (by assumption) ?_ | refine qX (b' := false) rfl rfl rfl rfl (by assumption) ?_ | (refine qY rfl rfl rfl rfl ?_ ?_ <;> intro _) | exact (rfl : (_ : D) = _) | exact (rfl : (_ : List D) = _))
      | false =>
        have g4 : decide (ordF a c ≤ 0) = true := by
          have h1 := of_decide_eq_false g2
          have h2 := of_decide_eq_false g3
          exact decide_eq_true (ordF_trans a b c (by omega) (by omega))
        refine enter3 Tryd.func3 Tryd.ntmps3 rfl rfl fun w0 F0 => ?_
        repeat' (first | (refine qS rfl ?_ ?_; (first | exact True.intro | rfl | assumption | omega | (simp only [inR]; omega) | ((show _ ≤ (9223372036854775807 : Nat)); (try simp only [ByteArray.size_append]); omega) | exact tmod_ok (by omega) (by omega) | exact tdiv_ok (by omega) (by omega) | exact ⟨rfl, by decide, by decide⟩)) | refine qA ?_ | refine qB rfl ?_ | refine qC (by kernel_rfl) ?_ | refine qD ?_ | refine qE ?_ | refine qF ?_ | refine qG ?_ | refine qH rfl ?_ | refine qP rfl rfl rfl rfl rfl rfl b5 (hs) ?_ | refine qP rfl rfl rfl rfl rfl rfl b7 (c1) ?_ | refine qP rfl rfl rfl rfl rfl rfl b7 (c2) ?_ | refine qP rfl rfl rfl rfl rfl rfl b7 (c3) ?_ | refine qP rfl rfl rfl rfl rfl rfl b7 (c4) ?_ | refine qP rfl rfl rfl rfl rfl rfl b8 (c5) ?_ | refine qP rfl rfl rfl rfl rfl rfl b6 (hal) ?_ | (refine qT rfl ?_ ?_; (first | rfl | assumption)) | (refine qU rfl ?_ ?_; (first | rfl | assumption)) | refine qL rfl rfl ?_ | refine qM rfl rfl rfl ?_ | refine qO rfl rfl rfl ?_ | refine qX (b' := true) rfl rfl rfl rfl (by assumption) ?_ | refine qX (b' := false) rfl rfl rfl rfl (by assumption) ?_ | (refine qY rfl rfl rfl rfl ?_ ?_ <;> intro _) | exact (rfl : (_ : D) = _) | exact (rfl : (_ : List D) = _))
set_option maxRecDepth 100000 in
theorem order_lifted (os : Os) (started : os.Started) (H : Type) (enc : TypeId × Value → H) :
    ReturnsInHanded {} Tryd.checked os 3 .any (fun w args => (Rows.valueOrderSpec.pre enc Tryd.prog Tryd.f3 [] false w args ∧ laidMetH Tryd.prog seatLaid w) ∧ sizedMet enc Tryd.prog Tryd.f3 (OpenSpec.ofChange Rows.valueOrderSpec) false w args)
      (Rows.valueOrderSpec.post enc Tryd.prog Tryd.f3 false true false false) := by
  refine lift_true (C := Tryd.checked) (laid := seatLaid) (tb := 4) tys seat_own started (by kernel_rfl) Tryd.func3
    (ChangeSpec.witness_shaped (enc := enc) (C := Tryd.checked) (os := os) (X := fun w _ => laidMetH Tryd.prog seatLaid w) false (wit os) #[.agg #[.int .i64 0, .int .i64 0, .int .i64 0, .string ⟨#[]⟩, .slice none 0 0], .agg #[.int .i64 0, .int .i64 0, .int .i64 0, .string ⟨#[]⟩, .slice none 0 0], .agg #[.int .i64 0, .int .i64 0, .int .i64 0, .string ⟨#[]⟩, .slice none 0 0]] 8 rfl (wit_shaped os _) (by kernel_rfl) (by kernel_rfl) (by kernel_rfl) (wit_met os _))
    rfl rfl Tryd.underlying4 (fun ds hl => ?_) seat_out (by kernel_rfl) tys_ok (by kernel_rfl) (fun W args xs hL hS hx hsz hr hty => ?_)
  · match ds, hl with
    | [_, _, _], _ => rfl
  · have hsz' : args.size = 3 := hsz
    rw [hsz'] at hx
    match xs, hx with
    | [x0, x1, x2], _ =>
      obtain ⟨a0, rfl⟩ := ty_val (hty 0 _ x0 rfl rfl)
      obtain ⟨a1, rfl⟩ := ty_val (hty 1 _ x1 rfl rfl)
      obtain ⟨a2, rfl⟩ := ty_val (hty 2 _ x2 rfl rfl)
      exact calls_of_ev (gi_of hL hS) (law_order a0 a1 a2) (by simp [hsz']) hr
theorem order_holds : Rows.ValueOrderSaid :=
  OpenClaim.holds_of_wide 3 Tryd.f3 rfl rfl rfl rfl rfl rfl rfl ⟨rfl, rfl, rfl, rfl, rfl⟩ rfl rfl rfl rfl rfl (by kernel_rfl) Tryd.func3 (by kernel_rfl)
    (of_decide_eq_true (by kernel_rfl)) (by unfold Func.isWrapper; first | (rw [if_pos (by decide +kernel)]; kernel_rfl) | (rw [if_neg (by decide +kernel)]; exact ⟨rfl, rfl⟩))
    (fun os started H enc _ => order_lifted os started H enc)
theorem order_card : Rows.ValueOrderCardSaid := by
  unfold Rows.ValueOrderCardSaid Rows.valueOrderCard
  exact Claim7.holds_tied_plain_at .later [] _ true _ false
    order_holds (fun _ h => by cases h) (by kernel_rfl) (fun _ h => by cases h) valueOrder_row_tie rfl ⟨rfl, rfl⟩ (by kernel_rfl) rfl
    (fun f fn hf hfn => by
      obtain rfl : f = 3 := Option.some.inj ((show Tryd.prog.funcNamed Rows.valueOrderRow.func = some 3 by kernel_rfl).symm.trans hf) |>.symm
      obtain rfl : fn = Tryd.f3 := (Option.some.inj (Tryd.func3.symm.trans hfn)).symm
      exact ⟨by kernel_rfl, fun j t ht => by
        have hall : (Tryd.f3.params.toList.all fun u => !Tryd.prog.wantsStandIn u) = true := by kernel_rfl
        exact (show Tryd.prog.wantsStandIn t = false by simpa using List.all_eq_true.1 hall t (by simpa using Array.mem_of_getElem? ht))⟩)
    (by kernel_rfl)
#print axioms order_card
end Go.Proofs.YtpjnngfjbcjikaaDoor
