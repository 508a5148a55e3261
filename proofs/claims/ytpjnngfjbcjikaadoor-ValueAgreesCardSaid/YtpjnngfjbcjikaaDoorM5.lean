/- Paths and lists: which values are valid, by both texts. Conditions: what the program's test of a string's characters comes to (IxOK). -/
import Derived.Test.YtpjnngfjbcjikaaDoorM4
namespace Go.Proofs.YtpjnngfjbcjikaaDoor
open Go Go.Abs Go.Val
attribute [local irreducible] go SGo HasBody Ev

theorem drop_at {α : Type} {l : List α} {i : Nat} {x : α} (h : l[i]? = some x) : l.drop i = x :: l.drop (i + 1) := by
  have hi := (List.getElem?_eq_some_iff.1 h).1
  rw [List.drop_eq_getElem_cons hi]
  rw [List.getElem?_eq_getElem hi] at h
  cases h
  rfl
structure SP (l : List V) where
  i : Nat
  hi : i ≤ l.length
  ok : okSteps 0 l = okSteps i (l.drop i)
theorem kd_cases (i : Nat) : (bif i % 2 == 0 then (5 : Int) else 6) = 5 ∧ i % 2 = 0 ∨ (bif i % 2 == 0 then (5 : Int) else 6) = 6 ∧ i % 2 = 1 := by
  rcases Nat.mod_two_eq_zero_or_one i with h | h <;> simp [h]
theorem path_ev (hix : IxOK) (l : List V) : Ev E 46 [.sl (encL l)] (.d (.bool (okPath l))) := Ev.fit fun hfit => by
  obtain ⟨hmax, -⟩ := fit_encL (hfit (.sl (encL l)) (by simp))
  have hlen : (encL l).length = l.length := encL_len l
  have hmod : ((l.length : Int).tmod 2 == 0) = (l.length % 2 == 0) := by
    rw [Int.tmod_eq_emod_of_nonneg (by omega)]
    cases h : l.length % 2 == 0 with
    | true => simp at h ⊢; omega
    | false => simp at h ⊢; omega
  cases h2 : l.length % 2 == 0 with
  | true =>
    have key : okPath l = false := by unfold okPath; have : (l.length % 2 == 1) = false := by simp at h2 ⊢; omega
                                      rw [this]; rfl
    rw [h2] at hmod
    rw [← hlen] at hmod
    refine enter1 Tryd.func46 Tryd.ntmps46 rfl rfl fun w0 F0 => ?_
    repeat' (first | (refine qS rfl ?_ ?_; (first | exact True.intro | rfl | assumption | omega | (simp only [inR]; omega) | ((show _ ≤ (9223372036854775807 : Nat)); (try simp only [ByteArray.size_append]); omega) | exact tmod_ok (by omega) (by omega) | exact tdiv_ok (by omega) (by omega) | exact ⟨rfl, by decide, by decide⟩)) | refine qA ?_ | refine qB rfl ?_ | refine qC (by kernel_rfl) ?_ | refine qD ?_ | refine qE ?_ | refine qF ?_ | refine qG ?_ | refine qH rfl ?_ | (refine qT rfl ?_ ?_; (first | rfl | assumption)) | (refine qU rfl ?_ ?_; (first | rfl | assumption)) | refine qL rfl rfl ?_ | refine qM rfl rfl rfl ?_ | refine qO rfl rfl rfl ?_ | refine qX (b' := true) rfl rfl rfl rfl (by assumption) ?_ | refine qX (b' := false) rfl rfl rfl rfl (by assumption) ?_ | (refine qY rfl rfl rfl rfl ?_ ?_ <;> intro _) | exact (rfl : (_ : D) = _) | exact (rfl : (_ : List D) = _))
    rw [key]
  | false =>
    rw [h2] at hmod
    rw [← hlen] at hmod
    have h21 : (l.length % 2 == 1) = true := by simp at h2 ⊢; omega
    by_cases h25 : l.length ≤ 25
    · have hd : decide (((encL l).length : Int) > 25) = false := by rw [hlen]; simp; omega
      have hokp : okPath l = okSteps 0 l := by unfold okPath; rw [h21]; simp [h25]
      rw [hokp]
      refine enter1 Tryd.func46 Tryd.ntmps46 rfl rfl fun w0 F0 => ?_
      repeat' (first | (refine qS rfl ?_ ?_; (first | exact True.intro | rfl | assumption | omega | (simp only [inR]; omega) | ((show _ ≤ (9223372036854775807 : Nat)); (try simp only [ByteArray.size_append]); omega) | exact tmod_ok (by omega) (by omega) | exact tdiv_ok (by omega) (by omega) | exact ⟨rfl, by decide, by decide⟩)) | refine qA ?_ | refine qB rfl ?_ | refine qC (by kernel_rfl) ?_ | refine qD ?_ | refine qE ?_ | refine qF ?_ | refine qG ?_ | refine qH rfl ?_ | (refine qT rfl ?_ ?_; (first | rfl | assumption)) | (refine qU rfl ?_ ?_; (first | rfl | assumption)) | refine qL rfl rfl ?_ | refine qM rfl rfl rfl ?_ | refine qO rfl rfl rfl ?_ | refine qX (b' := true) rfl rfl rfl rfl (by assumption) ?_ | refine qX (b' := false) rfl rfl rfl rfl (by assumption) ?_ | (refine qY rfl rfl rfl rfl ?_ ?_ <;> intro _) | exact (rfl : (_ : D) = _) | exact (rfl : (_ : List D) = _))
      refine go_loop_ (α := SP l) (fun p => ⟨[(15, .d (.sl (encL l))), (16, .d (.int (encL l).length)), (17, .d (.int p.i))], []⟩) (fun p => l.length - p.i) ⟨0, by omega, rfl⟩ ((Le.of' 0 rfl (by repeat (first | exact trivial | refine ⟨⟨rfl, rfl⟩, ?_⟩)) (by repeat (first | exact trivial | refine ⟨rfl, ?_⟩)))) ?_
      rintro ⟨i, hi, ok⟩
      dsimp only
      rcases Nat.lt_or_ge i l.length with hlt | hge
      · have hd : decide ((i : Int) < ((encL l).length : Int)) = true := by rw [hlen]; simpa using hlt
        have hx0 := List.getElem?_eq_getElem hlt
        obtain ⟨k, n, d, s, r, hv⟩ : ∃ k n d s r, l[i] = V.mk k n d s r := ⟨_, _, _, _, _, (V.eta _).symm⟩
        rw [hv] at hx0
        have hx : (encL l)[(i : Int).toNat]? = some (enc (V.mk k n d s r)) := encL_get (by rw [Int.toNat_natCast]; exact hx0)
        have hm : (([.int 5, .int 6] : List D))[((i : Int).tmod 2).toNat]? = some (.int (bif i % 2 == 0 then 5 else 6)) := by
          rw [Int.tmod_eq_emod_of_nonneg (by omega)]
          rcases Nat.mod_two_eq_zero_or_one i with h | h
          · rw [show ((i : Int) % 2).toNat = 0 from by omega, h]; rfl
          · rw [show ((i : Int) % 2).toNat = 1 from by omega, h]; rfl
        have hmn : 0 ≤ (i : Int).tmod 2 := Int.tmod_nonneg _ (by omega)
        have hmx : (i : Int).tmod 2 ≤ 2 := by have := Int.tmod_lt_of_pos (i : Int) (show (0 : Int) < 2 by omega); omega
        have hkd := kd_cases i
        have hst : okStep i (V.mk k n d s r) = (k == (bif i % 2 == 0 then 5 else 6) && okFlat (V.mk k n d s r)) := rfl
        generalize (bif i % 2 == 0 then (5 : Int) else 6) = kd at *
        rw [ok, drop_at hx0]
        simp only [okSteps, hst]
        cases hkk : k != kd with
        | true =>
          have : (k == kd) = false := by simpa using hkk
          rw [this]
          repeat' (first | (refine qS rfl ?_ ?_; (first | exact True.intro | rfl | assumption | omega | (simp only [inR]; omega) | ((show _ ≤ (9223372036854775807 : Nat)); (try simp only [ByteArray.size_append]); omega) | exact tmod_ok (by omega) (by omega) | exact tdiv_ok (by omega) (by omega) | exact ⟨rfl, by decide, by decide⟩)) | refine qA ?_ | refine qB rfl ?_ | refine qC (by kernel_rfl) ?_ | refine qD ?_ | refine qE ?_ | refine qF ?_ | refine qG ?_ | refine qH rfl ?_ | refine qI (enc _) rfl (guardX_ok rfl) rfl rfl rfl rfl rfl rfl (by first | omega | decide) hx ?_ | refine qI (.int kd) rfl (guardX_ok rfl) rfl rfl rfl rfl rfl rfl (by first | omega | decide) hm ?_ | (refine qT rfl ?_ ?_; (first | rfl | assumption)) | (refine qU rfl ?_ ?_; (first | rfl | assumption)) | refine qL rfl rfl ?_ | refine qM rfl rfl rfl ?_ | refine qO rfl rfl rfl ?_ | refine qX (b' := true) rfl rfl rfl rfl (by assumption) ?_ | refine qX (b' := false) rfl rfl rfl rfl (by assumption) ?_ | (refine qY rfl rfl rfl rfl ?_ ?_ <;> intro _) | exact (rfl : (_ : D) = _) | exact (rfl : (_ : List D) = _))
        | false =>
          have hk : k = kd := by simpa using hkk
          have hf := flat_ev hix k n d s r 0 (by omega) (by omega)
          cases hfl : okFlat (V.mk k n d s r) with
          | true =>
            rw [hfl] at hf
            repeat' (first | (refine qS rfl ?_ ?_; (first | exact True.intro | rfl | assumption | omega | (simp only [inR]; omega) | ((show _ ≤ (9223372036854775807 : Nat)); (try simp only [ByteArray.size_append]); omega) | exact tmod_ok (by omega) (by omega) | exact tdiv_ok (by omega) (by omega) | exact ⟨rfl, by decide, by decide⟩)) | refine qA ?_ | refine qB rfl ?_ | refine qC (by kernel_rfl) ?_ | refine qD ?_ | refine qE ?_ | refine qF ?_ | refine qG ?_ | refine qH rfl ?_ | refine qI (enc _) rfl (guardX_ok rfl) rfl rfl rfl rfl rfl rfl (by first | omega | decide) hx ?_ | refine qI (.int kd) rfl (guardX_ok rfl) rfl rfl rfl rfl rfl rfl (by first | omega | decide) hm ?_ | refine qP rfl rfl rfl rfl rfl rfl b27 (hf) ?_ | (refine qT rfl ?_ ?_; (first | rfl | assumption)) | (refine qU rfl ?_ ?_; (first | rfl | assumption)) | refine qL rfl rfl ?_ | refine qM rfl rfl rfl ?_ | refine qO rfl rfl rfl ?_ | refine qX (b' := true) rfl rfl rfl rfl (by assumption) ?_ | refine qX (b' := false) rfl rfl rfl rfl (by assumption) ?_ | (refine qY rfl rfl rfl rfl ?_ ?_ <;> intro _) | exact (rfl : (_ : D) = _) | exact (rfl : (_ : List D) = _))
            refine go_stop ?_
            refine ⟨⟨i + 1, by omega, ?_⟩, by dsimp only; omega, (Le.of' 0 rfl (by repeat (first | exact trivial | refine ⟨⟨rfl, rfl⟩, ?_⟩)) (by repeat (first | exact trivial | refine ⟨rfl, ?_⟩)))⟩
            rw [ok, drop_at hx0]
            simp only [okSteps]
            rw [hst, hfl, hk]
            simp
          | false =>
            rw [hfl] at hf
            repeat' (first | (refine qS rfl ?_ ?_; (first | exact True.intro | rfl | assumption | omega | (simp only [inR]; omega) | ((show _ ≤ (9223372036854775807 : Nat)); (try simp only [ByteArray.size_append]); omega) | exact tmod_ok (by omega) (by omega) | exact tdiv_ok (by omega) (by omega) | exact ⟨rfl, by decide, by decide⟩)) | refine qA ?_ | refine qB rfl ?_ | refine qC (by kernel_rfl) ?_ | refine qD ?_ | refine qE ?_ | refine qF ?_ | refine qG ?_ | refine qH rfl ?_ | refine qI (enc _) rfl (guardX_ok rfl) rfl rfl rfl rfl rfl rfl (by first | omega | decide) hx ?_ | refine qI (.int kd) rfl (guardX_ok rfl) rfl rfl rfl rfl rfl rfl (by first | omega | decide) hm ?_ | refine qP rfl rfl rfl rfl rfl rfl b27 (hf) ?_ | (refine qT rfl ?_ ?_; (first | rfl | assumption)) | (refine qU rfl ?_ ?_; (first | rfl | assumption)) | refine qL rfl rfl ?_ | refine qM rfl rfl rfl ?_ | refine qO rfl rfl rfl ?_ | refine qX (b' := true) rfl rfl rfl rfl (by assumption) ?_ | refine qX (b' := false) rfl rfl rfl rfl (by assumption) ?_ | (refine qY rfl rfl rfl rfl ?_ ?_ <;> intro _) | exact (rfl : (_ : D) = _) | exact (rfl : (_ : List D) = _))
            simp
      · have hd : decide ((i : Int) < ((encL l).length : Int)) = false := by rw [hlen]; simp; omega
        have : l.drop i = [] := List.drop_eq_nil_of_le hge
        rw [ok, this]
        repeat' (first | (refine qS rfl ?_ ?_; (first | exact True.intro | rfl | assumption | omega | (simp only [inR]; omega) | ((show _ ≤ (9223372036854775807 : Nat)); (try simp only [ByteArray.size_append]); omega) | exact tmod_ok (by omega) (by omega) | exact tdiv_ok (by omega) (by omega) | exact ⟨rfl, by decide, by decide⟩)) | refine qA ?_ | refine qB rfl ?_ | refine qC (by kernel_rfl) ?_ | refine qD ?_ | refine qE ?_ | refine qF ?_ | refine qG ?_ | refine qH rfl ?_ | (refine qT rfl ?_ ?_; (first | rfl | assumption)) | (refine qU rfl ?_ ?_; (first | rfl | assumption)) | refine qL rfl rfl ?_ | refine qM rfl rfl rfl ?_ | refine qO rfl rfl rfl ?_ | refine qX (b' := true) rfl rfl rfl rfl (by assumption) ?_ | refine qX (b' := false) rfl rfl rfl rfl (by assumption) ?_ | (refine qY rfl rfl rfl rfl ?_ ?_ <;> intro _) | exact (rfl : (_ : D) = _) | exact (rfl : (_ : List D) = _))
    · have hd : decide (((encL l).length : Int) > 25) = true := by rw [hlen]; simp; omega
      have key : okPath l = false := by unfold okPath; simp [h25]
      rw [key]
      refine enter1 Tryd.func46 Tryd.ntmps46 rfl rfl fun w0 F0 => ?_
      repeat' (first | (refine qS rfl ?_ ?_; (first | exact True.intro | rfl | assumption | omega | (simp only [inR]; omega) | ((show _ ≤ (9223372036854775807 : Nat)); (try simp only [ByteArray.size_append]); omega) | exact tmod_ok (by omega) (by omega) | exact tdiv_ok (by omega) (by omega) | exact ⟨rfl, by decide, by decide⟩)) | refine qA ?_ | refine qB rfl ?_ | refine qC (by kernel_rfl) ?_ | refine qD ?_ | refine qE ?_ | refine qF ?_ | refine qG ?_ | refine qH rfl ?_ | (refine qT rfl ?_ ?_; (first | rfl | assumption)) | (refine qU rfl ?_ ?_; (first | rfl | assumption)) | refine qL rfl rfl ?_ | refine qM rfl rfl rfl ?_ | refine qO rfl rfl rfl ?_ | refine qX (b' := true) rfl rfl rfl rfl (by assumption) ?_ | refine qX (b' := false) rfl rfl rfl rfl (by assumption) ?_ | (refine qY rfl rfl rfl rfl ?_ ?_ <;> intro _) | exact (rfl : (_ : D) = _) | exact (rfl : (_ : List D) = _))
end Go.Proofs.YtpjnngfjbcjikaaDoor
