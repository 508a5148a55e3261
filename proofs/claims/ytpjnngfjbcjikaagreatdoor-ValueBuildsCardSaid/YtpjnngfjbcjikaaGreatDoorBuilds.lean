/- The law ValueBuilds answers true for every integer, string and list. Conditions: none beyond the row's own (the listed variables as the program's text lays them). -/
import Derived.Test.YtpjnngfjbcjikaaGreatDoorM28
import Derived.Test.YtpjnngfjbcjikaaGreatDoorCards
namespace Go.Proofs.YtpjnngfjbcjikaaGreatDoor
open Go Go.Abs Go.Val Go.RowKit Go.ChangeShapes Go.WideShapes
attribute [local irreducible] go SGo HasBody Ev ExtEv EvO
theorem law_builds (n : Int) (s : ByteArray) (l : List V) : Ev E 4 [.int n, .str s, .sl (encL l)] (.d (.bool true)) := by
  have hs := small_ev l
  have hal := alive_ev
  have hle : (encL l).length = l.length := encL_len l
  cases h : lightF [l] 300 with
  | false =>
    rw [h] at hs
    refine enter3 Tryz.func4 Tryz.ntmps4 rfl rfl fun w0 F0 => ?_
    repeat' (first | (refine qS rfl ?_ ?_; (first | exact True.intro | rfl | assumption | omega | (simp only [inR]; omega) | ((show _ ≤ (9223372036854775807 : Nat)); (try simp only [ByteArray.size_append]); omega) | exact tmod_ok (by omega) (by omega) | exact tdiv_ok (by omega) (by omega) | exact ⟨rfl, by decide, by decide⟩)) | refine qA ?_ | refine qB rfl ?_ | refine qC (by kernel_rfl) ?_ | refine qD ?_ | refine qE ?_ | refine qF ?_ | refine qG ?_ | refine qH rfl ?_ | refine qP rfl rfl rfl rfl rfl rfl b8 (hs) ?_ | refine qP rfl rfl rfl rfl rfl rfl b9 (hal) ?_ | (refine qT rfl ?_ ?_; (first | rfl | assumption)) | (refine qU rfl ?_ ?_; (first | rfl | assumption)) | refine qL rfl rfl ?_ | refine qM rfl rfl rfl ?_ | refine qO rfl rfl rfl ?_ | refine qX (b' := true) rfl rfl rfl rfl (by assumption) ?_ | refine qX (b' := false) rfl rfl rfl rfl (by assumption) ?_ | (refine qY rfl rfl rfl rfl ?_ ?_ <;> intro _) | exact (rfl : (_ : D) = _) | exact (rfl : (_ : List D) = _))
  | true =>
    rw [h] at hs
    have hc := light_cost h
    have same' : ∀ v, Ev E 16 [enc v, enc v] (.d (.bool true)) := fun v => by
      have := same_ev v v
      rw [sameF_refl] at this
      exact this
    cases h2 : decide ((s.size : Int) > 1000) with
    | true =>
      refine enter3 Tryz.func4 Tryz.ntmps4 rfl rfl fun w0 F0 => ?_
      repeat' (first | (refine qS rfl ?_ ?_; (first | exact True.intro | rfl | assumption | omega | (simp only [inR]; omega) | ((show _ ≤ (9223372036854775807 : Nat)); (try simp only [ByteArray.size_append]); omega) | exact tmod_ok (by omega) (by omega) | exact tdiv_ok (by omega) (by omega) | exact ⟨rfl, by decide, by decide⟩)) | refine qA ?_ | refine qB rfl ?_ | refine qC (by kernel_rfl) ?_ | refine qD ?_ | refine qE ?_ | refine qF ?_ | refine qG ?_ | refine qH rfl ?_ | refine qP rfl rfl rfl rfl rfl rfl b8 (hs) ?_ | refine qP rfl rfl rfl rfl rfl rfl b9 (hal) ?_ | (refine qT rfl ?_ ?_; (first | rfl | assumption)) | (refine qU rfl ?_ ?_; (first | rfl | assumption)) | refine qL rfl rfl ?_ | refine qM rfl rfl rfl ?_ | refine qO rfl rfl rfl ?_ | refine qX (b' := true) rfl rfl rfl rfl (by assumption) ?_ | refine qX (b' := false) rfl rfl rfl rfl (by assumption) ?_ | (refine qY rfl rfl rfl rfl ?_ ?_ <;> intro _) | exact (rfl : (_ : D) = _) | exact (rfl : (_ : List D) = _))
    | false =>
      have c1 := rat_ev n (encL l).length
      have c2 := rrat_ev n (encL l).length
      have c3 := list_ev l (narL_cost hc)
      have c4 := rlist_ev2 l (narL_cost hc)
      have c5 := path_ev2 l (narP_cost hc)
      have c6 := rpath_ev2 l (narP_cost hc)
      have b1 := bool_ev (decide (n > 0))
      have b2 := rbool_ev (decide (n > 0))
      have s1 := same' vNull
      have s2 := same' (vBool (decide (n > 0)))
      have s3 := same' (vInt n)
      have s4 := same' (vRat n (encL l).length)
      have s5 := same' (vStr s)
      have s6 := same' (vNode n)
      have s7 := same' (vEdge n)
      have s8 := same' (vList l)
      have s9 := same' (vPath l)
      refine enter3 Tryz.func4 Tryz.ntmps4 rfl rfl fun w0 F0 => ?_
      repeat' (first | (refine qS rfl ?_ ?_; (first | exact True.intro | rfl | assumption | omega | (simp only [inR]; omega) | ((show _ ≤ (9223372036854775807 : Nat)); (try simp only [ByteArray.size_append]); omega) | exact tmod_ok (by omega) (by omega) | exact tdiv_ok (by omega) (by omega) | exact ⟨rfl, by decide, by decide⟩)) | refine qA ?_ | refine qB rfl ?_ | refine qC (by kernel_rfl) ?_ | refine qD ?_ | refine qE ?_ | refine qF ?_ | refine qG ?_ | refine qH rfl ?_ | refine qP rfl rfl rfl rfl rfl rfl b8 (hs) ?_ | refine qP rfl rfl rfl rfl rfl rfl b9 (hal) ?_ | refine qP rfl rfl rfl rfl rfl rfl b17 (null_ev) ?_ | refine qP rfl rfl rfl rfl rfl rfl b18 (rnull_ev) ?_ | refine qP rfl rfl rfl rfl rfl rfl b19 (b1) ?_ | refine qP rfl rfl rfl rfl rfl rfl b20 (b2) ?_ | refine qP rfl rfl rfl rfl rfl rfl b21 (int_ev n) ?_ | refine qP rfl rfl rfl rfl rfl rfl b22 (rint_ev n) ?_ | refine qP rfl rfl rfl rfl rfl rfl b23 (c1) ?_ | refine qP rfl rfl rfl rfl rfl rfl b24 (c2) ?_ | refine qP rfl rfl rfl rfl rfl rfl b25 (str_ev s) ?_ | refine qP rfl rfl rfl rfl rfl rfl b26 (rstr_ev s) ?_ | refine qP rfl rfl rfl rfl rfl rfl b27 (node_ev n) ?_ | refine qP rfl rfl rfl rfl rfl rfl b28 (rnode_ev n) ?_ | refine qP rfl rfl rfl rfl rfl rfl b29 (edge_ev n) ?_ | refine qP rfl rfl rfl rfl rfl rfl b30 (redge_ev n) ?_ | refine qP rfl rfl rfl rfl rfl rfl b31 (c3) ?_ | refine qP rfl rfl rfl rfl rfl rfl b32 (c4) ?_ | refine qP rfl rfl rfl rfl rfl rfl b33 (c5) ?_ | refine qP rfl rfl rfl rfl rfl rfl b34 (c6) ?_ | refine qP rfl rfl rfl rfl rfl rfl b16 (s1) ?_ | refine qP rfl rfl rfl rfl rfl rfl b16 (s2) ?_ | refine qP rfl rfl rfl rfl rfl rfl b16 (s3) ?_ | refine qP rfl rfl rfl rfl rfl rfl b16 (s4) ?_ | refine qP rfl rfl rfl rfl rfl rfl b16 (s5) ?_ | refine qP rfl rfl rfl rfl rfl rfl b16 (s6) ?_ | refine qP rfl rfl rfl rfl rfl rfl b16 (s7) ?_ | refine qP rfl rfl rfl rfl rfl rfl b16 (s8) ?_ | refine qP rfl rfl rfl rfl rfl rfl b16 (s9) ?_ | (refine qT rfl ?_ ?_; (first | rfl | assumption)) | (refine qU rfl ?_ ?_; (first | rfl | assumption)) | refine qL rfl rfl ?_ | refine qM rfl rfl rfl ?_ | refine qO rfl rfl rfl ?_ | refine qX (b' := true) rfl rfl rfl rfl (by assumption) ?_ | refine qX (b' := false) rfl rfl rfl rfl (by assumption) ?_ | (refine qY rfl rfl rfl rfl ?_ ?_ <;> intro _) | exact (rfl : (_ : D) = _) | exact (rfl : (_ : List D) = _))
set_option maxRecDepth 100000 in
theorem builds_lifted (os : Os) (started : os.Started) (H : Type) (enc : TypeId × Value → H) :
    ReturnsInHanded {} Tryz.checked os 4 .any (fun w args => (Rows.valueBuildsSpec.pre enc Tryz.prog Tryz.f4 [] false w args ∧ laidMetH Tryz.prog seatLaid w) ∧ sizedMet enc Tryz.prog Tryz.f4 (OpenSpec.ofChange Rows.valueBuildsSpec) false w args)
      (Rows.valueBuildsSpec.post enc Tryz.prog Tryz.f4 false true false false) := by
  refine lift_true (C := Tryz.checked) (laid := seatLaid) (tb := 4) tys seat_own started (by kernel_rfl) Tryz.func4
    (ChangeSpec.witness_shaped (enc := enc) (C := Tryz.checked) (os := os) (X := fun w _ => laidMetH Tryz.prog seatLaid w) false (wit os) #[.int .i64 0, .string ⟨#[]⟩, .slice none 0 0] 8 rfl (wit_shaped os _) (by kernel_rfl) (by kernel_rfl) (by kernel_rfl) (wit_met os _))
    rfl rfl Tryz.underlying4 (fun ds hl => ?_) seat_out (by kernel_rfl) tys_ok (by kernel_rfl) (fun W args xs hL hS hx hsz hr hty => ?_)
  · match ds, hl with
    | [_, _, _], _ => rfl
  · have hsz' : args.size = 3 := hsz
    rw [hsz'] at hx
    match xs, hx with
    | [x0, x1, x2], _ =>
      obtain ⟨a0, rfl⟩ := HasTy.int_inv Tryz.underlying3 (hty 0 _ x0 rfl rfl)
      obtain ⟨a1, rfl⟩ := HasTy.str_inv Tryz.underlying9 (hty 1 _ x1 rfl rfl)
      obtain ⟨a2, rfl⟩ := ty_vals (hty 2 _ x2 rfl rfl)
      exact calls_of_ev (gi_of hL hS) (law_builds a0 a1 a2) (by simp [hsz']) hr
theorem builds_holds : Rows.ValueBuildsSaid :=
  OpenClaim.holds_of_wide 4 Tryz.f4 rfl rfl rfl rfl rfl rfl rfl ⟨rfl, rfl, rfl, rfl, rfl⟩ rfl rfl rfl rfl rfl (by kernel_rfl) Tryz.func4 (by kernel_rfl)
    (of_decide_eq_true (by kernel_rfl)) (by unfold Func.isWrapper; first | (rw [if_pos (by decide +kernel)]; kernel_rfl) | (rw [if_neg (by decide +kernel)]; exact ⟨rfl, rfl⟩))
    (fun os started H enc _ => builds_lifted os started H enc)
theorem builds_card : Rows.ValueBuildsCardSaid := by
  unfold Rows.ValueBuildsCardSaid Rows.valueBuildsCard
  exact Claim7.holds_tied_plain_at .later [] _ true _ false
    builds_holds (fun _ h => by cases h) (by kernel_rfl) (fun _ h => by cases h) valueBuilds_row_tie rfl ⟨rfl, rfl⟩ (by kernel_rfl) rfl
    (fun f fn hf hfn => by
      obtain rfl : f = 4 := Option.some.inj ((show Tryz.prog.funcNamed Rows.valueBuildsRow.func = some 4 by kernel_rfl).symm.trans hf) |>.symm
      obtain rfl : fn = Tryz.f4 := (Option.some.inj (Tryz.func4.symm.trans hfn)).symm
      exact ⟨by kernel_rfl, fun j t ht => by
        have hall : (Tryz.f4.params.toList.all fun u => !Tryz.prog.wantsStandIn u) = true := by kernel_rfl
        exact (show Tryz.prog.wantsStandIn t = false by simpa using List.all_eq_true.1 hall t (by simpa using Array.mem_of_getElem? ht))⟩)
    (by kernel_rfl)
#print axioms builds_card
end Go.Proofs.YtpjnngfjbcjikaaGreatDoor
