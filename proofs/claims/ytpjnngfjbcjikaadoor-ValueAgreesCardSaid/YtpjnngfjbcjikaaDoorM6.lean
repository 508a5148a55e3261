/- Lists within lists: which values are valid, by both texts. Conditions: what the program's test of a string's characters comes to (IxOK). -/
import Derived.Test.YtpjnngfjbcjikaaDoorM5
namespace Go.Proofs.YtpjnngfjbcjikaaDoor
open Go Go.Abs Go.Val
attribute [local irreducible] go SGo HasBody Ev

theorem okFlat_78 (k n d : Int) (s : ByteArray) (l : List V) (h : k = 7 ∨ k = 8) : okFlat (.mk k n d s l) = false := by
  rcases h with h | h <;> subst h <;> simp [okFlat, V.k]
theorem okN_flat (m : Nat) (k n d : Int) (s : ByteArray) (l : List V) (h7 : k ≠ 7) (h8 : k ≠ 8) : okN m (.mk k n d s l) = okFlat (.mk k n d s l) := by
  have e7 : (k == 7) = false := by simpa
  have e8 : (k == 8) = false := by simpa
  cases m <;> simp [okN, V.k, e7, e8]
theorem okN_7 (m : Nat) (n d : Int) (s : ByteArray) (l : List V) : okN m (.mk 7 n d s l) = ((d == 0 && s0 s) && (n == 0 && okPath l)) := by
  cases m <;> simp [okN, V.k, V.n, V.d, V.s, V.l, okFlat_78 7 n d s l (.inl rfl)]
theorem okN_80 (n d : Int) (s : ByteArray) (l : List V) : okN 0 (.mk 8 n d s l) = false := by
  simp [okN, V.k, okFlat_78 8 n d s l (.inr rfl)]
theorem okN_8 (m : Nat) (n d : Int) (s : ByteArray) (l : List V) : okN (m + 1) (.mk 8 n d s l) = ((d == 0 && s0 s) && ((n == 0 && decide (l.length ≤ 64)) && l.all (okN m))) := by
  simp [okN, V.k, V.n, V.d, V.s, V.l, okFlat_78 8 n d s l (.inr rfl), Bool.and_assoc]
  try rfl
structure SA (p : V → Bool) (l : List V) where
  i : Nat
  hi : i ≤ l.length
  ok : l.all p = (l.drop i).all p

theorem validN_ev (hix : IxOK) (m : Nat) : m ≤ 8 → ∀ v : V, Ev E 27 [enc v, .int (8 - (m : Int))] (.d (.bool (okN m v))) := by
  induction m with
  | zero =>
    rintro - ⟨k, n, d, s, l⟩
    by_cases h7 : k = 7
    · subst h7
      rw [okN_7]
      refine enter2 Tryd.func27 Tryd.ntmps27 rfl rfl fun w0 F0 => ?_
      repeat' (first | (refine qS rfl ?_ ?_; (first | exact True.intro | rfl | assumption | omega | (simp only [inR]; omega) | ((show _ ≤ (9223372036854775807 : Nat)); (try simp only [ByteArray.size_append]); omega) | exact tmod_ok (by omega) (by omega) | exact tdiv_ok (by omega) (by omega) | exact ⟨rfl, by decide, by decide⟩)) | refine qA ?_ | refine qB rfl ?_ | refine qC (by kernel_rfl) ?_ | refine qD ?_ | refine qE ?_ | refine qF ?_ | refine qG ?_ | refine qH rfl ?_ | refine qP rfl rfl rfl rfl rfl rfl b46 (path_ev hix l) ?_ | (refine qT rfl ?_ ?_; (first | rfl | assumption)) | (refine qU rfl ?_ ?_; (first | rfl | assumption)) | refine qL rfl rfl ?_ | refine qM rfl rfl rfl ?_ | refine qO rfl rfl rfl ?_ | refine qX (b' := true) rfl rfl rfl rfl (by assumption) ?_ | refine qX (b' := false) rfl rfl rfl rfl (by assumption) ?_ | (refine qY rfl rfl rfl rfl ?_ ?_ <;> intro _) | (refine qV rfl ?_ ?_ <;> intro _) | exact (rfl : (_ : D) = _) | exact (rfl : (_ : List D) = _))
      all_goals (refine congrArg D.bool ?_; clear hix; simp_all [s0, V.k, V.n, V.d, V.s, V.l] <;> first | ac_rfl | (intros; simp_all; done))
    by_cases h8 : k = 8
    · subst h8
      rw [okN_80]
      refine enter2 Tryd.func27 Tryd.ntmps27 rfl rfl fun w0 F0 => ?_
      repeat' (first | (refine qS rfl ?_ ?_; (first | exact True.intro | rfl | assumption | omega | (simp only [inR]; omega) | ((show _ ≤ (9223372036854775807 : Nat)); (try simp only [ByteArray.size_append]); omega) | exact tmod_ok (by omega) (by omega) | exact tdiv_ok (by omega) (by omega) | exact ⟨rfl, by decide, by decide⟩)) | refine qA ?_ | refine qB rfl ?_ | refine qC (by kernel_rfl) ?_ | refine qD ?_ | refine qE ?_ | refine qF ?_ | refine qG ?_ | refine qH rfl ?_ | (refine qT rfl ?_ ?_; (first | rfl | assumption)) | (refine qU rfl ?_ ?_; (first | rfl | assumption)) | refine qL rfl rfl ?_ | refine qM rfl rfl rfl ?_ | refine qO rfl rfl rfl ?_ | refine qX (b' := true) rfl rfl rfl rfl (by assumption) ?_ | refine qX (b' := false) rfl rfl rfl rfl (by assumption) ?_ | (refine qY rfl rfl rfl rfl ?_ ?_ <;> intro _) | (refine qV rfl ?_ ?_ <;> intro _) | exact (rfl : (_ : D) = _) | exact (rfl : (_ : List D) = _))
    rw [okN_flat _ _ _ _ _ _ h7 h8]
    exact flat_ev hix k n d s l _ h7 h8
  | succ m ih =>
    rintro hm ⟨k, n, d, s, l⟩
    have ih := ih (by omega)
    by_cases h7 : k = 7
    · subst h7
      rw [okN_7]
      refine enter2 Tryd.func27 Tryd.ntmps27 rfl rfl fun w0 F0 => ?_
      repeat' (first | (refine qS rfl ?_ ?_; (first | exact True.intro | rfl | assumption | omega | (simp only [inR]; omega) | ((show _ ≤ (9223372036854775807 : Nat)); (try simp only [ByteArray.size_append]); omega) | exact tmod_ok (by omega) (by omega) | exact tdiv_ok (by omega) (by omega) | exact ⟨rfl, by decide, by decide⟩)) | refine qA ?_ | refine qB rfl ?_ | refine qC (by kernel_rfl) ?_ | refine qD ?_ | refine qE ?_ | refine qF ?_ | refine qG ?_ | refine qH rfl ?_ | refine qP rfl rfl rfl rfl rfl rfl b46 (path_ev hix l) ?_ | (refine qT rfl ?_ ?_; (first | rfl | assumption)) | (refine qU rfl ?_ ?_; (first | rfl | assumption)) | refine qL rfl rfl ?_ | refine qM rfl rfl rfl ?_ | refine qO rfl rfl rfl ?_ | refine qX (b' := true) rfl rfl rfl rfl (by assumption) ?_ | refine qX (b' := false) rfl rfl rfl rfl (by assumption) ?_ | (refine qY rfl rfl rfl rfl ?_ ?_ <;> intro _) | (refine qV rfl ?_ ?_ <;> intro _) | exact (rfl : (_ : D) = _) | exact (rfl : (_ : List D) = _))
      all_goals (refine congrArg D.bool ?_; clear hix ih; simp_all [s0, V.k, V.n, V.d, V.s, V.l] <;> first | ac_rfl | (intros; simp_all; done))
    by_cases h8 : k = 8
    · subst h8
      rw [okN_8]
      refine Ev.fit fun hfit => ?_
      obtain ⟨-, -, -, -, hmax, -⟩ := fit_enc (hfit (enc (.mk 8 n d s l)) (by simp))
      simp only [V.l] at hmax
      have hk : kids (.mk 8 n d s l) = encL l := by simp [kids]
      have hlen : (kids (.mk 8 n d s l)).length = l.length := by rw [kids_len]; rfl
      have hn1 : 8 - ((m + 1 : Nat) : Int) + 1 = 8 - (m : Int) := by omega
      have hn8 : decide (8 - ((m + 1 : Nat) : Int) ≥ 8) = false := by simp; omega
      cases hd0 : d == 0 with
      | false =>
        have hdn : (d != 0) = true := by simpa using hd0
        rw [Bool.false_and, Bool.false_and]
        refine enter2 Tryd.func27 Tryd.ntmps27 rfl rfl fun w0 F0 => ?_
        repeat' (first | (refine qS rfl ?_ ?_; (first | exact True.intro | rfl | assumption | omega | (simp only [inR]; omega) | ((show _ ≤ (9223372036854775807 : Nat)); (try simp only [ByteArray.size_append]); omega) | exact tmod_ok (by omega) (by omega) | exact tdiv_ok (by omega) (by omega) | exact ⟨rfl, by decide, by decide⟩)) | refine qA ?_ | refine qB rfl ?_ | refine qC (by kernel_rfl) ?_ | refine qD ?_ | refine qE ?_ | refine qF ?_ | refine qG ?_ | refine qH rfl ?_ | (refine qT rfl ?_ ?_; (first | rfl | assumption)) | (refine qU rfl ?_ ?_; (first | rfl | assumption)) | refine qL rfl rfl ?_ | refine qM rfl rfl rfl ?_ | refine qO rfl rfl rfl ?_ | refine qX (b' := true) rfl rfl rfl rfl (by assumption) ?_ | refine qX (b' := false) rfl rfl rfl rfl (by assumption) ?_ | (refine qY rfl rfl rfl rfl ?_ ?_ <;> intro _) | (refine qV rfl ?_ ?_ <;> intro _) | exact (rfl : (_ : D) = _) | exact (rfl : (_ : List D) = _))
      | true =>
      have hdn : (d != 0) = false := by simpa using hd0
      cases hs0 : s0 s with
      | false =>
        have hsn : (!(s.toList == (⟨#[]⟩ : ByteArray).toList)) = true := by rw [show (s.toList == (⟨#[]⟩ : ByteArray).toList) = false from hs0]; rfl
        rw [Bool.and_false, Bool.false_and]
        refine enter2 Tryd.func27 Tryd.ntmps27 rfl rfl fun w0 F0 => ?_
        repeat' (first | (refine qS rfl ?_ ?_; (first | exact True.intro | rfl | assumption | omega | (simp only [inR]; omega) | ((show _ ≤ (9223372036854775807 : Nat)); (try simp only [ByteArray.size_append]); omega) | exact tmod_ok (by omega) (by omega) | exact tdiv_ok (by omega) (by omega) | exact ⟨rfl, by decide, by decide⟩)) | refine qA ?_ | refine qB rfl ?_ | refine qC (by kernel_rfl) ?_ | refine qD ?_ | refine qE ?_ | refine qF ?_ | refine qG ?_ | refine qH rfl ?_ | (refine qT rfl ?_ ?_; (first | rfl | assumption)) | (refine qU rfl ?_ ?_; (first | rfl | assumption)) | refine qL rfl rfl ?_ | refine qM rfl rfl rfl ?_ | refine qO rfl rfl rfl ?_ | refine qX (b' := true) rfl rfl rfl rfl (by assumption) ?_ | refine qX (b' := false) rfl rfl rfl rfl (by assumption) ?_ | (refine qY rfl rfl rfl rfl ?_ ?_ <;> intro _) | (refine qV rfl ?_ ?_ <;> intro _) | exact (rfl : (_ : D) = _) | exact (rfl : (_ : List D) = _))
      | true =>
      have hsn : (!(s.toList == (⟨#[]⟩ : ByteArray).toList)) = false := by rw [show (s.toList == (⟨#[]⟩ : ByteArray).toList) = true from hs0]; rfl
      cases hnn : n == 0 with
      | false =>
        have hnn' : (n != 0) = true := by simpa using hnn
        simp only [Bool.false_and, Bool.and_false]
        refine enter2 Tryd.func27 Tryd.ntmps27 rfl rfl fun w0 F0 => ?_
        repeat' (first | (refine qS rfl ?_ ?_; (first | exact True.intro | rfl | assumption | omega | (simp only [inR]; omega) | ((show _ ≤ (9223372036854775807 : Nat)); (try simp only [ByteArray.size_append]); omega) | exact tmod_ok (by omega) (by omega) | exact tdiv_ok (by omega) (by omega) | exact ⟨rfl, by decide, by decide⟩)) | refine qA ?_ | refine qB rfl ?_ | refine qC (by kernel_rfl) ?_ | refine qD ?_ | refine qE ?_ | refine qF ?_ | refine qG ?_ | refine qH rfl ?_ | (refine qT rfl ?_ ?_; (first | rfl | assumption)) | (refine qU rfl ?_ ?_; (first | rfl | assumption)) | refine qL rfl rfl ?_ | refine qM rfl rfl rfl ?_ | refine qO rfl rfl rfl ?_ | refine qX (b' := true) rfl rfl rfl rfl (by assumption) ?_ | refine qX (b' := false) rfl rfl rfl rfl (by assumption) ?_ | (refine qY rfl rfl rfl rfl ?_ ?_ <;> intro _) | exact (rfl : (_ : D) = _) | exact (rfl : (_ : List D) = _))
      | true =>
      have hnn' : (n != 0) = false := by simpa using hnn
      by_cases h64 : l.length ≤ 64
      · have hd : decide (((kids (.mk 8 n d s l)).length : Int) > 64) = false := by rw [hlen]; simp; omega
        rw [show decide (l.length ≤ 64) = true by simpa using h64]
        simp only [Bool.true_and]
        refine enter2 Tryd.func27 Tryd.ntmps27 rfl rfl fun w0 F0 => ?_
        repeat' (first | (refine qS rfl ?_ ?_; (first | exact True.intro | rfl | assumption | omega | (simp only [inR]; omega) | ((show _ ≤ (9223372036854775807 : Nat)); (try simp only [ByteArray.size_append]); omega) | exact tmod_ok (by omega) (by omega) | exact tdiv_ok (by omega) (by omega) | exact ⟨rfl, by decide, by decide⟩)) | refine qA ?_ | refine qB rfl ?_ | refine qC (by kernel_rfl) ?_ | refine qD ?_ | refine qE ?_ | refine qF ?_ | refine qG ?_ | refine qH rfl ?_ | (refine qT rfl ?_ ?_; (first | rfl | assumption)) | (refine qU rfl ?_ ?_; (first | rfl | assumption)) | refine qL rfl rfl ?_ | refine qM rfl rfl rfl ?_ | refine qO rfl rfl rfl ?_ | refine qX (b' := true) rfl rfl rfl rfl (by assumption) ?_ | refine qX (b' := false) rfl rfl rfl rfl (by assumption) ?_ | (refine qY rfl rfl rfl rfl ?_ ?_ <;> intro _) | exact (rfl : (_ : D) = _) | exact (rfl : (_ : List D) = _))
        refine go_loop_ (α := SA (okN m) l) (fun p => ⟨[(1, .d (.int (8 - ((m + 1 : Nat) : Int)))), (120, .d (.sl (kids (.mk 8 n d s l)))), (121, .d (.int (kids (.mk 8 n d s l)).length)), (122, .d (.int p.i))], []⟩) (fun p => l.length - p.i) ⟨0, by omega, rfl⟩ ((Le.of' 0 rfl (by repeat (first | exact trivial | refine ⟨⟨rfl, rfl⟩, ?_⟩)) (by repeat (first | exact trivial | refine ⟨rfl, ?_⟩)))) ?_
        rintro ⟨i, hi, ok⟩
        dsimp only
        rcases Nat.lt_or_ge i l.length with hlt | hge
        · have hd : decide ((i : Int) < ((kids (.mk 8 n d s l)).length : Int)) = true := by rw [hlen]; simpa using hlt
          have hx0 := List.getElem?_eq_getElem hlt
          generalize l[i] = v at hx0
          have hx : (kids (.mk 8 n d s l))[(i : Int).toNat]? = some (enc v) := by rw [hk]; exact encL_get (by rw [Int.toNat_natCast]; exact hx0)
          have hv := ih v
          rw [← hn1] at hv
          rw [ok, drop_at hx0, List.all_cons]
          cases hvv : okN m v with
          | true =>
            rw [hvv] at hv
            repeat' (first | (refine qS rfl ?_ ?_; (first | exact True.intro | rfl | assumption | omega | (simp only [inR]; omega) | ((show _ ≤ (9223372036854775807 : Nat)); (try simp only [ByteArray.size_append]); omega) | exact tmod_ok (by omega) (by omega) | exact tdiv_ok (by omega) (by omega) | exact ⟨rfl, by decide, by decide⟩)) | refine qA ?_ | refine qB rfl ?_ | refine qC (by kernel_rfl) ?_ | refine qD ?_ | refine qE ?_ | refine qF ?_ | refine qG ?_ | refine qH rfl ?_ | refine qI (enc _) rfl (guardX_ok rfl) rfl rfl rfl rfl rfl rfl (by first | omega | decide) hx ?_ | refine qP rfl rfl rfl rfl rfl rfl b27 (hv) ?_ | (refine qT rfl ?_ ?_; (first | rfl | assumption)) | (refine qU rfl ?_ ?_; (first | rfl | assumption)) | refine qL rfl rfl ?_ | refine qM rfl rfl rfl ?_ | refine qO rfl rfl rfl ?_ | refine qX (b' := true) rfl rfl rfl rfl (by assumption) ?_ | refine qX (b' := false) rfl rfl rfl rfl (by assumption) ?_ | (refine qY rfl rfl rfl rfl ?_ ?_ <;> intro _) | exact (rfl : (_ : D) = _) | exact (rfl : (_ : List D) = _))
            refine go_stop ?_
            refine ⟨⟨i + 1, by omega, by rw [ok, drop_at hx0, List.all_cons, hvv, Bool.true_and]⟩, by dsimp only; omega, (Le.of' 0 rfl (by repeat (first | exact trivial | refine ⟨⟨rfl, rfl⟩, ?_⟩)) (by repeat (first | exact trivial | refine ⟨rfl, ?_⟩)))⟩
          | false =>
            rw [hvv] at hv
            repeat' (first | (refine qS rfl ?_ ?_; (first | exact True.intro | rfl | assumption | omega | (simp only [inR]; omega) | ((show _ ≤ (9223372036854775807 : Nat)); (try simp only [ByteArray.size_append]); omega) | exact tmod_ok (by omega) (by omega) | exact tdiv_ok (by omega) (by omega) | exact ⟨rfl, by decide, by decide⟩)) | refine qA ?_ | refine qB rfl ?_ | refine qC (by kernel_rfl) ?_ | refine qD ?_ | refine qE ?_ | refine qF ?_ | refine qG ?_ | refine qH rfl ?_ | refine qI (enc _) rfl (guardX_ok rfl) rfl rfl rfl rfl rfl rfl (by first | omega | decide) hx ?_ | refine qP rfl rfl rfl rfl rfl rfl b27 (hv) ?_ | (refine qT rfl ?_ ?_; (first | rfl | assumption)) | (refine qU rfl ?_ ?_; (first | rfl | assumption)) | refine qL rfl rfl ?_ | refine qM rfl rfl rfl ?_ | refine qO rfl rfl rfl ?_ | refine qX (b' := true) rfl rfl rfl rfl (by assumption) ?_ | refine qX (b' := false) rfl rfl rfl rfl (by assumption) ?_ | (refine qY rfl rfl rfl rfl ?_ ?_ <;> intro _) | exact (rfl : (_ : D) = _) | exact (rfl : (_ : List D) = _))
        · have hd : decide ((i : Int) < ((kids (.mk 8 n d s l)).length : Int)) = false := by rw [hlen]; simp; omega
          have : l.drop i = [] := List.drop_eq_nil_of_le hge
          rw [ok, this]
          repeat' (first | (refine qS rfl ?_ ?_; (first | exact True.intro | rfl | assumption | omega | (simp only [inR]; omega) | ((show _ ≤ (9223372036854775807 : Nat)); (try simp only [ByteArray.size_append]); omega) | exact tmod_ok (by omega) (by omega) | exact tdiv_ok (by omega) (by omega) | exact ⟨rfl, by decide, by decide⟩)) | refine qA ?_ | refine qB rfl ?_ | refine qC (by kernel_rfl) ?_ | refine qD ?_ | refine qE ?_ | refine qF ?_ | refine qG ?_ | refine qH rfl ?_ | (refine qT rfl ?_ ?_; (first | rfl | assumption)) | (refine qU rfl ?_ ?_; (first | rfl | assumption)) | refine qL rfl rfl ?_ | refine qM rfl rfl rfl ?_ | refine qO rfl rfl rfl ?_ | refine qX (b' := true) rfl rfl rfl rfl (by assumption) ?_ | refine qX (b' := false) rfl rfl rfl rfl (by assumption) ?_ | (refine qY rfl rfl rfl rfl ?_ ?_ <;> intro _) | exact (rfl : (_ : D) = _) | exact (rfl : (_ : List D) = _))
      · have hd : decide (((kids (.mk 8 n d s l)).length : Int) > 64) = true := by rw [hlen]; simp; omega
        rw [show decide (l.length ≤ 64) = false by simpa using h64]
        simp only [Bool.false_and, Bool.and_false]
        refine enter2 Tryd.func27 Tryd.ntmps27 rfl rfl fun w0 F0 => ?_
        repeat' (first | (refine qS rfl ?_ ?_; (first | exact True.intro | rfl | assumption | omega | (simp only [inR]; omega) | ((show _ ≤ (9223372036854775807 : Nat)); (try simp only [ByteArray.size_append]); omega) | exact tmod_ok (by omega) (by omega) | exact tdiv_ok (by omega) (by omega) | exact ⟨rfl, by decide, by decide⟩)) | refine qA ?_ | refine qB rfl ?_ | refine qC (by kernel_rfl) ?_ | refine qD ?_ | refine qE ?_ | refine qF ?_ | refine qG ?_ | refine qH rfl ?_ | (refine qT rfl ?_ ?_; (first | rfl | assumption)) | (refine qU rfl ?_ ?_; (first | rfl | assumption)) | refine qL rfl rfl ?_ | refine qM rfl rfl rfl ?_ | refine qO rfl rfl rfl ?_ | refine qX (b' := true) rfl rfl rfl rfl (by assumption) ?_ | refine qX (b' := false) rfl rfl rfl rfl (by assumption) ?_ | (refine qY rfl rfl rfl rfl ?_ ?_ <;> intro _) | exact (rfl : (_ : D) = _) | exact (rfl : (_ : List D) = _))
    rw [okN_flat _ _ _ _ _ _ h7 h8]
    exact flat_ev hix k n d s l _ h7 h8
end Go.Proofs.YtpjnngfjbcjikaaDoor
