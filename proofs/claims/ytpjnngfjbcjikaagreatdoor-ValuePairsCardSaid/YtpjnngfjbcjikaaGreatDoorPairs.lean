/- The law ValuePairs answers true for every two values. Conditions: none beyond the row's own (the listed variables as the program's text lays them). -/
import Derived.Test.YtpjnngfjbcjikaaGreatDoorM29
import Derived.Test.YtpjnngfjbcjikaaGreatDoorCards
namespace Go.Proofs.YtpjnngfjbcjikaaGreatDoor
open Go Go.Abs Go.Val Go.RowKit Go.ChangeShapes Go.WideShapes
attribute [local irreducible] go SGo HasBody Ev ExtEv EvO
theorem ordF_rng (a b : V) : -1 ≤ ordF a b ∧ ordF a b ≤ 1 := by
  have or_rng : ∀ x y : Int, (-1 ≤ x ∧ x ≤ 1) → (-1 ≤ y ∧ y ≤ 1) → -1 ≤ orI x y ∧ orI x y ≤ 1 := by
    intro x y hx hy
    unfold orI
    cases x != 0 <;> simp only [cond_true, cond_false] <;> assumption
  have cs_rng : ∀ a b, -1 ≤ cs a b ∧ cs a b ≤ 1 := fun a b => by
    rcases cs_cases a b with ⟨h, _⟩ | ⟨h, _⟩ | ⟨h, _⟩ <;> rw [h] <;> omega
  have key : ∀ a : V, ∀ b : V, -1 ≤ ordF a b ∧ ordF a b ≤ 1 := by
    intro a
    refine vind (P := fun a => ∀ b : V, -1 ≤ ordF a b ∧ ordF a b ≤ 1) (fun k n d s l ih b => ?_) a
    have hl : ∀ a b : List V, (∀ x ∈ a, ∀ y, -1 ≤ ordF x y ∧ ordF x y ≤ 1) → -1 ≤ cmpL ordF a b ∧ cmpL ordF a b ≤ 1 := by
      intro a
      induction a with
      | nil => intro b _; cases b <;> simp [cmpL]
      | cons x r ihr =>
        intro b h
        cases b with
        | nil => simp [cmpL]
        | cons y q => exact or_rng _ _ (h x (by simp) y) (ihr q fun z hz => h z (by simp [hz]))
    have hl' := hl l b.l ih
    rw [ordF_eq]
    show -1 ≤ stepO _ b (cmpL ordF l b.l) ∧ _
    have hh : ∀ a : V, -1 ≤ headO a b (cmpL ordF l b.l) ∧ headO a b (cmpL ordF l b.l) ≤ 1 := fun a =>
      or_rng _ _ (ci_rng _ _) (or_rng _ _ (ci_rng _ _) (or_rng _ _ (ci_rng _ _) (or_rng _ _ (cs_rng _ _) hl')))
    unfold stepO
    cases Val.okV (V.mk k n d s l) != Val.okV b with
    | true => cases Val.okV (V.mk k n d s l) <;> (show -1 ≤ 1 - tt _ ∧ 1 - tt _ ≤ 1) <;> decide
    | false =>
      cases Val.okV (V.mk k n d s l) with
      | false => exact hh _
      | true =>
        cases ci (rcls (V.mk k n d s l).k) (rcls b.k) != 0 with
        | true => exact ci_rng _ _
        | false =>
          cases isNum (V.mk k n d s l) with
          | true => exact sgn_rng _
          | false => exact hh _
  exact key a b
theorem law_pairs (a b : V) : Ev E 3 [enc a, enc b] (.d (.bool true)) := by
  have hs := small_ev [a, b]
  have hal := alive_ev
  cases h : lightF [[a, b]] 300 with
  | false =>
    rw [h] at hs
    refine enter2 Tryz.func3 Tryz.ntmps3 rfl rfl fun w0 F0 => ?_
    repeat' (first | (refine qS rfl ?_ ?_; (first | exact True.intro | rfl | assumption | omega | (simp only [inR]; omega) | ((show _ ≤ (9223372036854775807 : Nat)); (try simp only [ByteArray.size_append]); omega) | exact tmod_ok (by omega) (by omega) | exact tdiv_ok (by omega) (by omega) | exact ⟨rfl, by decide, by decide⟩)) | refine qA ?_ | refine qB rfl ?_ | refine qC (by kernel_rfl) ?_ | refine qD ?_ | refine qE ?_ | refine qF ?_ | refine qG ?_ | refine qH rfl ?_ | refine qP rfl rfl rfl rfl rfl rfl b8 (hs) ?_ | refine qP rfl rfl rfl rfl rfl rfl b9 (hal) ?_ | (refine qT rfl ?_ ?_; (first | rfl | assumption)) | (refine qU rfl ?_ ?_; (first | rfl | assumption)) | refine qL rfl rfl ?_ | refine qM rfl rfl rfl ?_ | refine qO rfl rfl rfl ?_ | refine qX (b' := true) rfl rfl rfl rfl (by assumption) ?_ | refine qX (b' := false) rfl rfl rfl rfl (by assumption) ?_ | (refine qY rfl rfl rfl rfl ?_ ?_ <;> intro _) | exact (rfl : (_ : D) = _) | exact (rfl : (_ : List D) = _))
  | true =>
    rw [h] at hs
    have c1 := Equal_ev a b
    have c2 := rEqual_ev a b
    have c3 := Less_ev a b
    have c4 := rLess_ev a b
    have c5 := Order_ev a b
    have c6 := rOrder_ev a b
    have c7 := Equal_ev b a
    have c8 := Order_ev b a
    have hr := ordF_rng a b
    rw [eqF_symm] at c7
    rw [ordF_anti] at c8
    have g1 : (eqF a b == eqF a b) = true := beq_self_eq_true _
    have g2 : (lessF a b == lessF a b) = true := beq_self_eq_true _
    have g3 : (ordF a b == ordF a b) = true := beq_self_eq_true _
    have g4 : (-ordF a b == 0 - ordF a b) = true := by rw [beq_iff_eq]; omega
    refine enter2 Tryz.func3 Tryz.ntmps3 rfl rfl fun w0 F0 => ?_
    repeat' (first | (refine qS rfl ?_ ?_; (first | exact True.intro | rfl | assumption | omega | (simp only [inR]; omega) | ((show _ ≤ (9223372036854775807 : Nat)); (try simp only [ByteArray.size_append]); omega) | exact tmod_ok (by omega) (by omega) | exact tdiv_ok (by omega) (by omega) | exact ⟨rfl, by decide, by decide⟩)) | refine qA ?_ | refine qB rfl ?_ | refine qC (by kernel_rfl) ?_ | refine qD ?_ | refine qE ?_ | refine qF ?_ | refine qG ?_ | refine qH rfl ?_ | refine qP rfl rfl rfl rfl rfl rfl b8 (hs) ?_ | refine qP rfl rfl rfl rfl rfl rfl b10 (c1) ?_ | refine qP rfl rfl rfl rfl rfl rfl b11 (c2) ?_ | refine qP rfl rfl rfl rfl rfl rfl b12 (c3) ?_ | refine qP rfl rfl rfl rfl rfl rfl b13 (c4) ?_ | refine qP rfl rfl rfl rfl rfl rfl b14 (c5) ?_ | refine qP rfl rfl rfl rfl rfl rfl b15 (c6) ?_ | refine qP rfl rfl rfl rfl rfl rfl b10 (c7) ?_ | refine qP rfl rfl rfl rfl rfl rfl b14 (c8) ?_ | refine qP rfl rfl rfl rfl rfl rfl b9 (hal) ?_ | (refine qT rfl ?_ ?_; (first | rfl | assumption)) | (refine qU rfl ?_ ?_; (first | rfl | assumption)) | refine qL rfl rfl ?_ | refine qM rfl rfl rfl ?_ | refine qO rfl rfl rfl ?_ | refine qX (b' := true) rfl rfl rfl rfl (by assumption) ?_ | refine qX (b' := false) rfl rfl rfl rfl (by assumption) ?_ | (refine qY rfl rfl rfl rfl ?_ ?_ <;> intro _) | exact (rfl : (_ : D) = _) | exact (rfl : (_ : List D) = _))
set_option maxRecDepth 100000 in
theorem pairs_lifted (os : Os) (started : os.Started) (H : Type) (enc : TypeId × Value → H) :
    ReturnsInHanded {} Tryz.checked os 3 .any (fun w args => (Rows.valuePairsSpec.pre enc Tryz.prog Tryz.f3 [] false w args ∧ laidMetH Tryz.prog seatLaid w) ∧ sizedMet enc Tryz.prog Tryz.f3 (OpenSpec.ofChange Rows.valuePairsSpec) false w args)
      (Rows.valuePairsSpec.post enc Tryz.prog Tryz.f3 false true false false) := by
  refine lift_true (C := Tryz.checked) (laid := seatLaid) (tb := 4) tys seat_own started (by kernel_rfl) Tryz.func3
    (ChangeSpec.witness_shaped (enc := enc) (C := Tryz.checked) (os := os) (X := fun w _ => laidMetH Tryz.prog seatLaid w) false (wit os) #[.agg #[.int .i64 0, .int .i64 0, .int .i64 0, .string ⟨#[]⟩, .slice none 0 0], .agg #[.int .i64 0, .int .i64 0, .int .i64 0, .string ⟨#[]⟩, .slice none 0 0]] 8 rfl (wit_shaped os _) (by kernel_rfl) (by kernel_rfl) (by kernel_rfl) (wit_met os _))
    rfl rfl Tryz.underlying4 (fun ds hl => ?_) seat_out (by kernel_rfl) tys_ok (by kernel_rfl) (fun W args xs hL hS hx hsz hr hty => ?_)
  · match ds, hl with
    | [_, _], _ => rfl
  · have hsz' : args.size = 2 := hsz
    rw [hsz'] at hx
    match xs, hx with
    | [x0, x1], _ =>
      obtain ⟨a0, rfl⟩ := ty_val (hty 0 _ x0 rfl rfl)
      obtain ⟨a1, rfl⟩ := ty_val (hty 1 _ x1 rfl rfl)
      exact calls_of_ev (gi_of hL hS) (law_pairs a0 a1) (by simp [hsz']) hr
theorem pairs_holds : Rows.ValuePairsSaid :=
  OpenClaim.holds_of_wide 3 Tryz.f3 rfl rfl rfl rfl rfl rfl rfl ⟨rfl, rfl, rfl, rfl, rfl⟩ rfl rfl rfl rfl rfl (by kernel_rfl) Tryz.func3 (by kernel_rfl)
    (of_decide_eq_true (by kernel_rfl)) (by unfold Func.isWrapper; first | (rw [if_pos (by decide +kernel)]; kernel_rfl) | (rw [if_neg (by decide +kernel)]; exact ⟨rfl, rfl⟩))
    (fun os started H enc _ => pairs_lifted os started H enc)
theorem pairs_card : Rows.ValuePairsCardSaid := by
  unfold Rows.ValuePairsCardSaid Rows.valuePairsCard
  exact Claim7.holds_tied_plain_at .later [] _ true _ false
    pairs_holds (fun _ h => by cases h) (by kernel_rfl) (fun _ h => by cases h) valuePairs_row_tie rfl ⟨rfl, rfl⟩ (by kernel_rfl) rfl
    (fun f fn hf hfn => by
      obtain rfl : f = 3 := Option.some.inj ((show Tryz.prog.funcNamed Rows.valuePairsRow.func = some 3 by kernel_rfl).symm.trans hf) |>.symm
      obtain rfl : fn = Tryz.f3 := (Option.some.inj (Tryz.func3.symm.trans hfn)).symm
      exact ⟨by kernel_rfl, fun j t ht => by
        have hall : (Tryz.f3.params.toList.all fun u => !Tryz.prog.wantsStandIn u) = true := by kernel_rfl
        exact (show Tryz.prog.wantsStandIn t = false by simpa using List.all_eq_true.1 hall t (by simpa using Array.mem_of_getElem? ht))⟩)
    (by kernel_rfl)
#print axioms pairs_card
end Go.Proofs.YtpjnngfjbcjikaaGreatDoor
