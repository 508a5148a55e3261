/- Which flat values are valid, by both texts. Conditions: none. -/
import Derived.Test.YtpjnngfjbcjikaaDoorM3
namespace Go.Proofs.YtpjnngfjbcjikaaDoor
open Go Go.Abs Go.Val
attribute [local irreducible] go SGo HasBody Ev

/-- What the program's test of a string's characters comes to. -/
def IxOK : Prop := ∀ s : ByteArray, ∃ n : Int, Ev E 44 [.str s, .imm (.func (.func 45) #[] #[])] (.d (.int n)) ∧ decide (n < 0) = s.data.toList.all (fun b => !(decide (b.toNat < 32) || decide (b.toNat > 126)))
theorem kids_nil (v : V) : kids v = [] ↔ v.l = [] := by
  rw [kids_eq]
  simp
theorem flat_ev (hix : IxOK) (k n d : Int) (s : ByteArray) (l : List V) (lists : Int) (h7 : k ≠ 7) (h8 : k ≠ 8) : Ev E 27 [enc (.mk k n d s l), .int lists] (.d (.bool (okFlat (.mk k n d s l)))) := by
  obtain ⟨ix, hi1, hi2⟩ := hix s
  have hst : strOK s = (decide (ix < 0) && decide ((s.size : Int) ≤ 100)) := by rw [hi2, show decide ((s.size : Int) ≤ 100) = decide (s.size ≤ 100) from by simp only [decide_eq_decide]; omega]; rfl
  clear hi2
  have hs0 : s0 s = (s.toList == (⟨#[]⟩ : ByteArray).toList) := rfl
  by_cases h0 : k = 0
  · subst h0
    refine enter2 Tryd.func27 Tryd.ntmps27 rfl rfl fun w0 F0 => ?_
    repeat' (first | (refine qS rfl ?_ ?_; (first | exact True.intro | rfl | assumption | omega | (simp only [inR]; omega) | ((show _ ≤ (9223372036854775807 : Nat)); (try simp only [ByteArray.size_append]); omega) | exact tmod_ok (by omega) (by omega) | exact tdiv_ok (by omega) (by omega) | exact ⟨rfl, by decide, by decide⟩)) | refine qA ?_ | refine qB rfl ?_ | refine qC (by kernel_rfl) ?_ | refine qD ?_ | refine qE ?_ | refine qF ?_ | refine qG ?_ | refine qH rfl ?_ | (refine qT rfl ?_ ?_; (first | rfl | assumption)) | (refine qU rfl ?_ ?_; (first | rfl | assumption)) | refine qL rfl rfl ?_ | refine qM rfl rfl rfl ?_ | refine qO rfl rfl rfl ?_ | refine qX (b' := true) rfl rfl rfl rfl (by assumption) ?_ | refine qX (b' := false) rfl rfl rfl rfl (by assumption) ?_ | (refine qY rfl rfl rfl rfl ?_ ?_ <;> intro _) | (refine qV rfl ?_ ?_ <;> intro _) | exact (rfl : (_ : D) = _) | exact (rfl : (_ : List D) = _))
    all_goals (refine congrArg D.bool ?_; clear hix hi1 hst; simp_all [okFlat, bareF, kids_nil, kids_len, V.k, V.n, V.d, V.s, V.l] <;> first | omega | exact of_decide_eq_true (by assumption) | exact Int.not_le.1 (of_decide_eq_false (by assumption)) | ac_rfl | (intros; omega) | (intros; simp_all; done))
  by_cases h0 : k = 1
  · subst h0
    refine enter2 Tryd.func27 Tryd.ntmps27 rfl rfl fun w0 F0 => ?_
    repeat' (first | (refine qS rfl ?_ ?_; (first | exact True.intro | rfl | assumption | omega | (simp only [inR]; omega) | ((show _ ≤ (9223372036854775807 : Nat)); (try simp only [ByteArray.size_append]); omega) | exact tmod_ok (by omega) (by omega) | exact tdiv_ok (by omega) (by omega) | exact ⟨rfl, by decide, by decide⟩)) | refine qA ?_ | refine qB rfl ?_ | refine qC (by kernel_rfl) ?_ | refine qD ?_ | refine qE ?_ | refine qF ?_ | refine qG ?_ | refine qH rfl ?_ | (refine qT rfl ?_ ?_; (first | rfl | assumption)) | (refine qU rfl ?_ ?_; (first | rfl | assumption)) | refine qL rfl rfl ?_ | refine qM rfl rfl rfl ?_ | refine qO rfl rfl rfl ?_ | refine qX (b' := true) rfl rfl rfl rfl (by assumption) ?_ | refine qX (b' := false) rfl rfl rfl rfl (by assumption) ?_ | (refine qY rfl rfl rfl rfl ?_ ?_ <;> intro _) | (refine qV rfl ?_ ?_ <;> intro _) | exact (rfl : (_ : D) = _) | exact (rfl : (_ : List D) = _))
    all_goals (refine congrArg D.bool ?_; clear hix hi1 hst; simp_all [okFlat, bareF, kids_nil, kids_len, V.k, V.n, V.d, V.s, V.l] <;> first | omega | exact of_decide_eq_true (by assumption) | exact Int.not_le.1 (of_decide_eq_false (by assumption)) | ac_rfl | (intros; omega) | (intros; simp_all; done))
  by_cases h0 : k = 2
  · subst h0
    refine enter2 Tryd.func27 Tryd.ntmps27 rfl rfl fun w0 F0 => ?_
    repeat' (first | (refine qS rfl ?_ ?_; (first | exact True.intro | rfl | assumption | omega | (simp only [inR]; omega) | ((show _ ≤ (9223372036854775807 : Nat)); (try simp only [ByteArray.size_append]); omega) | exact tmod_ok (by omega) (by omega) | exact tdiv_ok (by omega) (by omega) | exact ⟨rfl, by decide, by decide⟩)) | refine qA ?_ | refine qB rfl ?_ | refine qC (by kernel_rfl) ?_ | refine qD ?_ | refine qE ?_ | refine qF ?_ | refine qG ?_ | refine qH rfl ?_ | refine qP rfl rfl rfl rfl rfl rfl b42 (in_ev n) ?_ | (refine qT rfl ?_ ?_; (first | rfl | assumption)) | (refine qU rfl ?_ ?_; (first | rfl | assumption)) | refine qL rfl rfl ?_ | refine qM rfl rfl rfl ?_ | refine qO rfl rfl rfl ?_ | refine qX (b' := true) rfl rfl rfl rfl (by assumption) ?_ | refine qX (b' := false) rfl rfl rfl rfl (by assumption) ?_ | (refine qY rfl rfl rfl rfl ?_ ?_ <;> intro _) | (refine qV rfl ?_ ?_ <;> intro _) | exact (rfl : (_ : D) = _) | exact (rfl : (_ : List D) = _))
    all_goals (refine congrArg D.bool ?_; clear hix hi1 hst; simp_all [okFlat, bareF, kids_nil, kids_len, V.k, V.n, V.d, V.s, V.l] <;> first | omega | exact of_decide_eq_true (by assumption) | exact Int.not_le.1 (of_decide_eq_false (by assumption)) | ac_rfl | (intros; omega) | (intros; simp_all; done))
  by_cases h0 : k = 3
  · subst h0
    refine enter2 Tryd.func27 Tryd.ntmps27 rfl rfl fun w0 F0 => ?_
    repeat' (first | (refine qS rfl ?_ ?_; (first | exact True.intro | rfl | assumption | omega | (simp only [inR]; omega) | ((show _ ≤ (9223372036854775807 : Nat)); (try simp only [ByteArray.size_append]); omega) | exact tmod_ok (by omega) (by omega) | exact tdiv_ok (by omega) (by omega) | exact ⟨rfl, by decide, by decide⟩)) | refine qA ?_ | refine qB rfl ?_ | refine qC (by kernel_rfl) ?_ | refine qD ?_ | refine qE ?_ | refine qF ?_ | refine qG ?_ | refine qH rfl ?_ | refine qP rfl rfl rfl rfl rfl rfl b43 (fvalid_ev n d) ?_ | (refine qT rfl ?_ ?_; (first | rfl | assumption)) | (refine qU rfl ?_ ?_; (first | rfl | assumption)) | refine qL rfl rfl ?_ | refine qM rfl rfl rfl ?_ | refine qO rfl rfl rfl ?_ | refine qX (b' := true) rfl rfl rfl rfl (by assumption) ?_ | refine qX (b' := false) rfl rfl rfl rfl (by assumption) ?_ | (refine qY rfl rfl rfl rfl ?_ ?_ <;> intro _) | (refine qV rfl ?_ ?_ <;> intro _) | exact (rfl : (_ : D) = _) | exact (rfl : (_ : List D) = _))
    all_goals (refine congrArg D.bool ?_; clear hix hi1 hst; simp_all [okFlat, bareF, kids_nil, kids_len, V.k, V.n, V.d, V.s, V.l] <;> first | omega | exact of_decide_eq_true (by assumption) | exact Int.not_le.1 (of_decide_eq_false (by assumption)) | ac_rfl | (intros; omega) | (intros; simp_all; done))
  by_cases h0 : k = 4
  · subst h0
    cases h100 : decide ((s.size : Int) ≤ 100) with
    | true =>
      rw [h100] at hst
      refine enter2 Tryd.func27 Tryd.ntmps27 rfl rfl fun w0 F0 => ?_
      repeat' (first | (refine qS rfl ?_ ?_; (first | exact True.intro | rfl | assumption | omega | (simp only [inR]; omega) | ((show _ ≤ (9223372036854775807 : Nat)); (try simp only [ByteArray.size_append]); omega) | exact tmod_ok (by omega) (by omega) | exact tdiv_ok (by omega) (by omega) | exact ⟨rfl, by decide, by decide⟩)) | refine qA ?_ | refine qB rfl ?_ | refine qC (by kernel_rfl) ?_ | refine qD ?_ | refine qE ?_ | refine qF ?_ | refine qG ?_ | refine qH rfl ?_ | refine qP rfl rfl rfl rfl rfl rfl b44 (hi1) ?_ | (refine qT rfl ?_ ?_; (first | rfl | assumption)) | (refine qU rfl ?_ ?_; (first | rfl | assumption)) | refine qL rfl rfl ?_ | refine qM rfl rfl rfl ?_ | refine qO rfl rfl rfl ?_ | refine qX (b' := true) rfl rfl rfl rfl (by assumption) ?_ | refine qX (b' := false) rfl rfl rfl rfl (by assumption) ?_ | (refine qY rfl rfl rfl rfl ?_ ?_ <;> intro _) | (refine qV rfl ?_ ?_ <;> intro _) | exact (rfl : (_ : D) = _) | exact (rfl : (_ : List D) = _))
      all_goals (refine congrArg D.bool ?_; clear hix hi1; simp_all [okFlat, bareF, kids_nil, kids_len, V.k, V.n, V.d, V.s, V.l] <;> first | omega | exact of_decide_eq_true (by assumption) | exact Int.not_le.1 (of_decide_eq_false (by assumption)) | ac_rfl | (intros; omega) | (intros; simp_all; done))
    | false =>
      rw [h100] at hst
      refine enter2 Tryd.func27 Tryd.ntmps27 rfl rfl fun w0 F0 => ?_
      repeat' (first | (refine qS rfl ?_ ?_; (first | exact True.intro | rfl | assumption | omega | (simp only [inR]; omega) | ((show _ ≤ (9223372036854775807 : Nat)); (try simp only [ByteArray.size_append]); omega) | exact tmod_ok (by omega) (by omega) | exact tdiv_ok (by omega) (by omega) | exact ⟨rfl, by decide, by decide⟩)) | refine qA ?_ | refine qB rfl ?_ | refine qC (by kernel_rfl) ?_ | refine qD ?_ | refine qE ?_ | refine qF ?_ | refine qG ?_ | refine qH rfl ?_ | refine qP rfl rfl rfl rfl rfl rfl b44 (hi1) ?_ | (refine qT rfl ?_ ?_; (first | rfl | assumption)) | (refine qU rfl ?_ ?_; (first | rfl | assumption)) | refine qL rfl rfl ?_ | refine qM rfl rfl rfl ?_ | refine qO rfl rfl rfl ?_ | refine qX (b' := true) rfl rfl rfl rfl (by assumption) ?_ | refine qX (b' := false) rfl rfl rfl rfl (by assumption) ?_ | (refine qY rfl rfl rfl rfl ?_ ?_ <;> intro _) | (refine qV rfl ?_ ?_ <;> intro _) | exact (rfl : (_ : D) = _) | exact (rfl : (_ : List D) = _))
      all_goals (refine congrArg D.bool ?_; clear hix hi1; simp_all [okFlat, bareF, kids_nil, kids_len, V.k, V.n, V.d, V.s, V.l] <;> first | omega | exact of_decide_eq_true (by assumption) | exact Int.not_le.1 (of_decide_eq_false (by assumption)) | ac_rfl | (intros; omega) | (intros; simp_all; done))
  by_cases h0 : k = 5
  · subst h0
    refine enter2 Tryd.func27 Tryd.ntmps27 rfl rfl fun w0 F0 => ?_
    repeat' (first | (refine qS rfl ?_ ?_; (first | exact True.intro | rfl | assumption | omega | (simp only [inR]; omega) | ((show _ ≤ (9223372036854775807 : Nat)); (try simp only [ByteArray.size_append]); omega) | exact tmod_ok (by omega) (by omega) | exact tdiv_ok (by omega) (by omega) | exact ⟨rfl, by decide, by decide⟩)) | refine qA ?_ | refine qB rfl ?_ | refine qC (by kernel_rfl) ?_ | refine qD ?_ | refine qE ?_ | refine qF ?_ | refine qG ?_ | refine qH rfl ?_ | (refine qT rfl ?_ ?_; (first | rfl | assumption)) | (refine qU rfl ?_ ?_; (first | rfl | assumption)) | refine qL rfl rfl ?_ | refine qM rfl rfl rfl ?_ | refine qO rfl rfl rfl ?_ | refine qX (b' := true) rfl rfl rfl rfl (by assumption) ?_ | refine qX (b' := false) rfl rfl rfl rfl (by assumption) ?_ | (refine qY rfl rfl rfl rfl ?_ ?_ <;> intro _) | (refine qV rfl ?_ ?_ <;> intro _) | exact (rfl : (_ : D) = _) | exact (rfl : (_ : List D) = _))
    all_goals (refine congrArg D.bool ?_; clear hix hi1 hst; simp_all [okFlat, bareF, kids_nil, kids_len, V.k, V.n, V.d, V.s, V.l] <;> first | omega | exact of_decide_eq_true (by assumption) | exact Int.not_le.1 (of_decide_eq_false (by assumption)) | ac_rfl | (intros; omega) | (intros; simp_all; done))
  by_cases h0 : k = 6
  · subst h0
    refine enter2 Tryd.func27 Tryd.ntmps27 rfl rfl fun w0 F0 => ?_
    repeat' (first | (refine qS rfl ?_ ?_; (first | exact True.intro | rfl | assumption | omega | (simp only [inR]; omega) | ((show _ ≤ (9223372036854775807 : Nat)); (try simp only [ByteArray.size_append]); omega) | exact tmod_ok (by omega) (by omega) | exact tdiv_ok (by omega) (by omega) | exact ⟨rfl, by decide, by decide⟩)) | refine qA ?_ | refine qB rfl ?_ | refine qC (by kernel_rfl) ?_ | refine qD ?_ | refine qE ?_ | refine qF ?_ | refine qG ?_ | refine qH rfl ?_ | (refine qT rfl ?_ ?_; (first | rfl | assumption)) | (refine qU rfl ?_ ?_; (first | rfl | assumption)) | refine qL rfl rfl ?_ | refine qM rfl rfl rfl ?_ | refine qO rfl rfl rfl ?_ | refine qX (b' := true) rfl rfl rfl rfl (by assumption) ?_ | refine qX (b' := false) rfl rfl rfl rfl (by assumption) ?_ | (refine qY rfl rfl rfl rfl ?_ ?_ <;> intro _) | (refine qV rfl ?_ ?_ <;> intro _) | exact (rfl : (_ : D) = _) | exact (rfl : (_ : List D) = _))
    all_goals (refine congrArg D.bool ?_; clear hix hi1 hst; simp_all [okFlat, bareF, kids_nil, kids_len, V.k, V.n, V.d, V.s, V.l] <;> first | omega | exact of_decide_eq_true (by assumption) | exact Int.not_le.1 (of_decide_eq_false (by assumption)) | ac_rfl | (intros; omega) | (intros; simp_all; done))
  have e0 : (k == 0) = false := by simpa
  have e1 : (k == 1) = false := by simpa
  have e2 : (k == 2) = false := by simpa
  have e3 : (k == 3) = false := by simpa
  have e4 : (k == 4) = false := by simpa
  have e5 : (k == 5) = false := by simpa
  have e6 : (k == 6) = false := by simpa
  have e7 : (k == 7) = false := by simpa
  have e8 : (k == 8) = false := by simpa
  have f3 : (k != 3) = true := by simpa
  have f4 : (k != 4) = true := by simpa
  have f7 : (k != 7) = true := by simpa
  have f8 : (k != 8) = true := by simpa
  have key : okFlat (.mk k n d s l) = false := by simp only [okFlat, V.k, e0, e1, e2, e3, e4, e5, e6, Bool.false_and, Bool.or_false]
  refine enter2 Tryd.func27 Tryd.ntmps27 rfl rfl fun w0 F0 => ?_
  repeat' (first | (refine qS rfl ?_ ?_; (first | exact True.intro | rfl | assumption | omega | (simp only [inR]; omega) | ((show _ ≤ (9223372036854775807 : Nat)); (try simp only [ByteArray.size_append]); omega) | exact tmod_ok (by omega) (by omega) | exact tdiv_ok (by omega) (by omega) | exact ⟨rfl, by decide, by decide⟩)) | refine qA ?_ | refine qB rfl ?_ | refine qC (by kernel_rfl) ?_ | refine qD ?_ | refine qE ?_ | refine qF ?_ | refine qG ?_ | refine qH rfl ?_ | (refine qT rfl ?_ ?_; (first | rfl | assumption)) | (refine qU rfl ?_ ?_; (first | rfl | assumption)) | refine qL rfl rfl ?_ | refine qM rfl rfl rfl ?_ | refine qO rfl rfl rfl ?_ | refine qX (b' := true) rfl rfl rfl rfl (by assumption) ?_ | refine qX (b' := false) rfl rfl rfl rfl (by assumption) ?_ | (refine qY rfl rfl rfl rfl ?_ ?_ <;> intro _) | (refine qV rfl ?_ ?_ <;> intro _) | exact (rfl : (_ : D) = _) | exact (rfl : (_ : List D) = _))
  all_goals (rw [key])
end Go.Proofs.YtpjnngfjbcjikaaDoor