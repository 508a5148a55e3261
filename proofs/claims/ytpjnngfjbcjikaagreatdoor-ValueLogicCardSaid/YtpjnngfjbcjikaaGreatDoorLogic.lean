/- The law ValueLogic answers true for all integers. Conditions: none beyond the row's own (the listed variables as the program's text lays them). -/
import Derived.Test.YtpjnngfjbcjikaaGreatDoorM27
import Derived.Test.YtpjnngfjbcjikaaGreatDoorCards
namespace Go.Proofs.YtpjnngfjbcjikaaGreatDoor
open Go Go.Abs Go.Val Go.RowKit Go.ChangeShapes Go.WideShapes
attribute [local irreducible] go SGo HasBody Ev ExtEv EvO

theorem kn_kn (t : Int) : kn (kn t) = kn t := by
  rcases kn_cases t with h | h | h <;> rw [h] <;> rfl
theorem kn_not (t : Int) : kn (2 - kn t) = 2 - kn t := by
  rcases kn_cases t with h | h | h <;> rw [h] <;> rfl
theorem kn_min (a b : Int) : kn (min (kn a) (kn b)) = min (kn a) (kn b) := by
  rcases kn_cases a with h | h | h <;> rcases kn_cases b with h' | h' | h' <;> rw [h, h'] <;> rfl
theorem kn_max (a b : Int) : kn (max (kn a) (kn b)) = max (kn a) (kn b) := by
  rcases kn_cases a with h | h | h <;> rcases kn_cases b with h' | h' | h' <;> rw [h, h'] <;> rfl
theorem truth_from (a : Int) : truthF (vTruth a) = kn a := by
  unfold vTruth
  rcases kn_cases a with h | h | h
  · rw [h]
    have ha : (a == 2) = false := by
      cases hq : a == 2 with
      | false => rfl
      | true => have : a = 2 := by simpa using hq
                subst this
                cases h
    rw [ha]
    decide +kernel
  · rw [h]
    show truthF vNull = 1
    decide +kernel
  · rw [h]
    have ha : (a == 2) = true := by
      cases hq : a == 2 with
      | true => rfl
      | false =>
        unfold kn at h
        cases h0 : a == 0 with
        | true => rw [h0] at h; have : a = 0 := by simpa using h0
                  subst this; cases h
        | false => rw [h0, hq] at h; cases h
    rw [ha]
    decide +kernel
theorem sameF_refl (v : V) : sameF v v = true := by
  refine vind (P := fun v => sameF v v = true) (fun k n d s l ih => ?_) v
  rw [sameF_eq]
  have hl : ∀ l : List V, (∀ x ∈ l, sameF x x = true) → sameL l l = true := by
    intro l
    induction l with
    | nil => intro _; simp [sameL]
    | cons a r ihr =>
      intro h
      simp only [sameL, Bool.and_eq_true]
      exact ⟨h a (by simp), ihr fun x hx => h x (by simp [hx])⟩
  simp [headSame, hl l ih, V.l]
theorem law_logic (a b c : Int) : Ev E 6 [.int a, .int b, .int c] (.d (.bool true)) := by
  have ha := kn_cases a
  have hb := kn_cases b
  have hc := kn_cases c
  have n1 := not_ev a
  have n2 := not_ev b
  have n3 := not_ev (2 - kn a)
  have r1 := rnot_ev a
  have r3 := rnot_ev (2 - kn a)
  have a1 := and_ev a b
  have a2 := not_ev (min (kn a) (kn b))
  have o1 := or_ev (2 - kn a) (2 - kn b)
  have o2 := or_ev a b
  have a3 := and_ev a (max (kn a) (kn b))
  have o3 := or_ev a (min (kn a) (kn b))
  have a4 := and_ev b a
  have a5 := and_ev b c
  have a6 := and_ev a (min (kn b) (kn c))
  have a7 := and_ev (min (kn a) (kn b)) c
  have o5 := or_ev b c
  have o6 := or_ev a (max (kn b) (kn c))
  have o7 := or_ev (max (kn a) (kn b)) c
  have ra := rand_ev a b
  have ro := ror_ev a b
  have f1 := fromTruth_ev a
  have f2 := rfromTruth_ev a
  have t1 := Truth_ev ixOK (vTruth a)
  have s1 := same_ev (vTruth a) (vTruth a)
  rw [sameF_refl] at s1
  rw [truth_from] at t1
  rw [kn_not] at n3 r3
  rw [kn_min] at a2 o3 a6 a7
  rw [kn_not, kn_not] at o1
  rw [kn_max] at a3 o6 o7
  have hal := alive_ev
  generalize kn a = A at *
  generalize kn b = B at *
  generalize kn c = C at *
  have g1 : (2 - (2 - A) != 2 - (2 - A)) = false := by simp
  have g2 : (2 - min A B != max (2 - A) (2 - B)) = false := by rw [bne_eq_false_iff_eq]; omega
  have g3 : (min A (max A B) != 2 - (2 - A)) = false := by rw [bne_eq_false_iff_eq]; omega
  have g4 : (max A (min A B) != 2 - (2 - A)) = false := by rw [bne_eq_false_iff_eq]; omega
  have g5 : (min A B != min B A) = false := by rw [bne_eq_false_iff_eq]; omega
  have g6 : (min A (min B C) != min (min A B) C) = false := by rw [bne_eq_false_iff_eq]; omega
  have g7 : (max A (max B C) != max (max A B) C) = false := by rw [bne_eq_false_iff_eq]; omega
  have g8 : (min A B == min A B) = true := by simp
  have g9 : (max A B == max A B) = true := by simp
  have g10 : (A == 2 - (2 - A)) = true := by rw [beq_iff_eq]; omega
  refine enter3 Tryz.func6 Tryz.ntmps6 rfl rfl fun w0 F0 => ?_
  repeat' (first
    | (refine go_step2 rfl ?_ ?_; (first | exact True.intro | rfl | assumption | omega | (simp only [inR]; omega) | ((show _ ≤ (9223372036854775807 : Nat)); (try simp only [ByteArray.size_append]); omega) | exact tmod_ok (by omega) (by omega) | exact tdiv_ok (by omega) (by omega) | exact ⟨rfl, by decide, by decide⟩))
    | refine go_seq ?_
    | refine go_region rfl ?_
    | refine go_region_draw (by kernel_rfl) ?_
    | refine SGo.nil ?_
    | refine go_skip ?_
    | refine go_block ?_
    | refine go_blk ?_
    | refine go_exit_ rfl ?_
    | refine go_call rfl rfl rfl rfl rfl rfl b45 (n1) ?_
    | refine go_call rfl rfl rfl rfl rfl rfl b45 (n2) ?_
    | refine go_call rfl rfl rfl rfl rfl rfl b45 (n3) ?_
    | refine go_call rfl rfl rfl rfl rfl rfl b45 (a2) ?_
    | refine go_call rfl rfl rfl rfl rfl rfl b46 (r1) ?_
    | refine go_call rfl rfl rfl rfl rfl rfl b46 (r3) ?_
    | refine go_call rfl rfl rfl rfl rfl rfl b47 (a1) ?_
    | refine go_call rfl rfl rfl rfl rfl rfl b47 (a3) ?_
    | refine go_call rfl rfl rfl rfl rfl rfl b47 (a4) ?_
    | refine go_call rfl rfl rfl rfl rfl rfl b47 (a5) ?_
    | refine go_call rfl rfl rfl rfl rfl rfl b47 (a6) ?_
    | refine go_call rfl rfl rfl rfl rfl rfl b47 (a7) ?_
    | refine go_call rfl rfl rfl rfl rfl rfl b48 (o1) ?_
    | refine go_call rfl rfl rfl rfl rfl rfl b48 (o2) ?_
    | refine go_call rfl rfl rfl rfl rfl rfl b48 (o3) ?_
    | refine go_call rfl rfl rfl rfl rfl rfl b48 (o5) ?_
    | refine go_call rfl rfl rfl rfl rfl rfl b48 (o6) ?_
    | refine go_call rfl rfl rfl rfl rfl rfl b48 (o7) ?_
    | refine go_call rfl rfl rfl rfl rfl rfl b49 (ra) ?_
    | refine go_call rfl rfl rfl rfl rfl rfl b50 (ro) ?_
    | refine go_call rfl rfl rfl rfl rfl rfl b51 (f1) ?_
    | refine go_call rfl rfl rfl rfl rfl rfl b52 (f2) ?_
    | refine go_call rfl rfl rfl rfl rfl rfl b41 (t1) ?_
    | refine go_call rfl rfl rfl rfl rfl rfl b16 (s1) ?_
    | refine go_call rfl rfl rfl rfl rfl rfl b9 (hal) ?_
    | (refine go_cond_t rfl ?_ ?_; (first | rfl | assumption))
    | (refine go_cond_f rfl ?_ ?_; (first | rfl | assumption))
    | refine ret1 rfl rfl ?_
    | refine ret2 rfl rfl rfl ?_
    | refine retO rfl rfl rfl ?_
    | refine go_gset (b' := true) rfl rfl rfl rfl (by assumption) ?_
    | refine go_gset (b' := false) rfl rfl rfl rfl (by assumption) ?_
    | (refine go_gsplit rfl rfl rfl rfl ?_ ?_ <;> intro _)
    | exact (rfl : (_ : D) = _)
    | exact (rfl : (_ : List D) = _))
set_option maxRecDepth 100000 in
theorem logic_lifted (os : Os) (started : os.Started) (H : Type) (enc : TypeId × Value → H) :
    ReturnsInHanded {} Tryz.checked os 6 .any (fun w args => (Rows.valueLogicSpec.pre enc Tryz.prog Tryz.f6 [] false w args ∧ laidMetH Tryz.prog seatLaid w) ∧ sizedMet enc Tryz.prog Tryz.f6 (OpenSpec.ofChange Rows.valueLogicSpec) false w args)
      (Rows.valueLogicSpec.post enc Tryz.prog Tryz.f6 false true false false) := by
  refine lift_true (C := Tryz.checked) (laid := seatLaid) (tb := 4) tys seat_own started (by kernel_rfl) Tryz.func6
    (ChangeSpec.witness_shaped (enc := enc) (C := Tryz.checked) (os := os) (X := fun w _ => laidMetH Tryz.prog seatLaid w) false (wit os) #[.int .i64 0, .int .i64 0, .int .i64 0] 8 rfl (wit_shaped os _) (by kernel_rfl) (by kernel_rfl) (by kernel_rfl) (wit_met os _))
    rfl rfl Tryz.underlying4 (fun ds hl => ?_) seat_out (by kernel_rfl) tys_ok (by kernel_rfl) (fun W args xs hL hS hx hsz hr hty => ?_)
  · match ds, hl with
    | [_, _, _], _ => rfl
  · have hsz' : args.size = 3 := hsz
    rw [hsz'] at hx
    match xs, hx with
    | [x0, x1, x2], _ =>
      obtain ⟨a, rfl⟩ := HasTy.int_inv Tryz.underlying3 (hty 0 _ x0 rfl rfl)
      obtain ⟨b, rfl⟩ := HasTy.int_inv Tryz.underlying3 (hty 1 _ x1 rfl rfl)
      obtain ⟨c, rfl⟩ := HasTy.int_inv Tryz.underlying3 (hty 2 _ x2 rfl rfl)
      exact calls_of_ev (gi_of hL hS) (law_logic a b c) (by simp [hsz']) hr
theorem logic_holds : Rows.ValueLogicSaid :=
  OpenClaim.holds_of_wide 6 Tryz.f6 rfl rfl rfl rfl rfl rfl rfl ⟨rfl, rfl, rfl, rfl, rfl⟩ rfl rfl rfl rfl rfl (by kernel_rfl) Tryz.func6 (by kernel_rfl)
    (of_decide_eq_true (by kernel_rfl)) (by unfold Func.isWrapper; first | (rw [if_pos (by decide +kernel)]; kernel_rfl) | (rw [if_neg (by decide +kernel)]; exact ⟨rfl, rfl⟩))
    (fun os started H enc _ => logic_lifted os started H enc)
theorem logic_card : Rows.ValueLogicCardSaid :=
  Claim7.holds_tied_plain_at .later [] [.data, .data, .data, .data, .data, .pinned] true (true, "7947a83aaf66f760b01b796766628f93b9304362a4bbdb33919cbd1fe3a1d77a") false
    logic_holds (fun _ h => by cases h) (by kernel_rfl) (fun _ h => by cases h) valueLogic_row_tie rfl ⟨rfl, rfl⟩ (by kernel_rfl) rfl
    (fun f fn hf hfn => by
      obtain rfl : f = 6 := Option.some.inj ((show Tryz.prog.funcNamed "graphdb/graphdblaw04.ValueLogic" = some 6 by kernel_rfl).symm.trans hf) |>.symm
      obtain rfl : fn = Tryz.f6 := (Option.some.inj (Tryz.func6.symm.trans hfn)).symm
      exact ⟨by kernel_rfl, fun j t ht => by
        have hall : (Tryz.f6.params.toList.all fun u => !Tryz.prog.wantsStandIn u) = true := by kernel_rfl
        exact (show Tryz.prog.wantsStandIn t = false by simpa using List.all_eq_true.1 hall t (by simpa using Array.mem_of_getElem? ht))⟩)
    (by kernel_rfl)
#print axioms logic_card
end Go.Proofs.YtpjnngfjbcjikaaGreatDoor
