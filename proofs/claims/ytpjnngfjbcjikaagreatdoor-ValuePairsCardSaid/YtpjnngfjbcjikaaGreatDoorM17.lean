/- The specification's sum of signed wide numbers, and its comparison of fractions. Conditions: magnitudes up to 10^30. -/
import Derived.Test.YtpjnngfjbcjikaaGreatDoorM16
namespace Go.Proofs.YtpjnngfjbcjikaaGreatDoor
open Go Go.Abs Go.Val
attribute [local irreducible] go SGo HasBody Ev

theorem sgn_pos {n : Int} (h : n > 0) : sgn n = 1 := by unfold sgn; rw [if_neg (by omega), if_pos h]
theorem sgn_neg {n : Int} (h : n < 0) : sgn n = -1 := by unfold sgn; rw [if_pos h]
theorem sgn_zero : sgn 0 = 0 := rfl
theorem sum_ev (A B : Int) (hA : (A.natAbs : Int) ≤ 1000000000000000000000000000000) (hB : (B.natAbs : Int) ≤ 1000000000000000000000000000000) :
    Ev E 95 [.int (sgn A), .sl (encI (wdig 14 A.natAbs)), .int (sgn B), .sl (encI (wdig 14 B.natAbs))] (.tup [.int (sgn (A + B)), .sl (encI (wdig 14 (A + B).natAbs))]) := by
  have hpw : pw 14 = 1000000000000000000000000000000000000000000 := by decide
  have va : wv (wdig 14 A.natAbs) = A.natAbs := wv_wdig 14 _ (by omega) (by omega)
  have vb : wv (wdig 14 B.natAbs) = B.natAbs := wv_wdig 14 _ (by omega) (by omega)
  have hp := plus_ev (wdig 14 A.natAbs) (wdig 14 B.natAbs) (wdig_ok _ _) (wdig_ok _ _) (wdig_len _ _) (wdig_len _ _) (by rw [va, vb]; omega)
  have ho := order_ev (wdig 14 A.natAbs) (wdig 14 B.natAbs) (wdig_ok _ _) (wdig_ok _ _) (wdig_len _ _) (wdig_len _ _)
  have hm1 : (B.natAbs : Int) ≤ A.natAbs → _ := fun h => minus_ev (wdig 14 A.natAbs) (wdig 14 B.natAbs) (wdig_ok _ _) (wdig_ok _ _) (wdig_len _ _) (wdig_len _ _) (by rw [va, vb]; exact h)
  have hm2 : (A.natAbs : Int) ≤ B.natAbs → _ := fun h => minus_ev (wdig 14 B.natAbs) (wdig 14 A.natAbs) (wdig_ok _ _) (wdig_ok _ _) (wdig_len _ _) (wdig_len _ _) (by rw [va, vb]; exact h)
  have hp0 : Ev E 123 [.sl (List.replicate 14 (.int 0)), .sl (List.replicate 14 (.int 0))] (.d (.sl (encI (wdig 14 0)))) := plus_ev (List.replicate 14 0) (List.replicate 14 0) (fun d hd => by rw [(List.mem_replicate.1 hd).2]; omega) (fun d hd => by rw [(List.mem_replicate.1 hd).2]; omega) rfl rfl (by decide)
  rw [va, vb] at hp ho
  simp only [va, vb] at hm1 hm2
  have same : ∀ s : Int, sgn A = s → (sgn B = s ∨ sgn B = 0) → sgn (A + B) = s → ((A + B).natAbs : Int) = A.natAbs + B.natAbs → Ev E 95 [.int (sgn A), .sl (encI (wdig 14 A.natAbs)), .int (sgn B), .sl (encI (wdig 14 B.natAbs))] (.tup [.int (sgn (A + B)), .sl (encI (wdig 14 (A + B).natAbs))]) := by
    intro s h1 h2 h3 h4
    rw [h3, h4, h1]
    cases h5 : s == sgn B with
    | true =>
      refine enter4 Tryz.func95 Tryz.ntmps95 rfl rfl fun w0 F0 => ?_
      repeat' (first | (refine qS rfl ?_ ?_; (first | exact True.intro | rfl | assumption | omega | (simp only [inR]; omega) | ((show _ ≤ (9223372036854775807 : Nat)); (try simp only [ByteArray.size_append]); omega) | exact tmod_ok (by omega) (by omega) | exact tdiv_ok (by omega) (by omega) | exact ⟨rfl, by decide, by decide⟩)) | refine qA ?_ | refine qB rfl ?_ | refine qC (by kernel_rfl) ?_ | refine qD ?_ | refine qE ?_ | refine qF ?_ | refine qG ?_ | refine qH rfl ?_ | refine qP rfl rfl rfl rfl rfl rfl b123 (hp) ?_ | (refine qT rfl ?_ ?_; (first | rfl | assumption)) | (refine qU rfl ?_ ?_; (first | rfl | assumption)) | refine qL rfl rfl ?_ | refine qM rfl rfl rfl ?_ | refine qO rfl rfl rfl ?_ | refine qX (b' := true) rfl rfl rfl rfl (by assumption) ?_ | refine qX (b' := false) rfl rfl rfl rfl (by assumption) ?_ | (refine qY rfl rfl rfl rfl ?_ ?_ <;> intro _) | exact (rfl : (_ : D) = _) | exact (rfl : (_ : List D) = _))
    | false =>
      have h6 : (sgn B == 0) = true := by
        rcases h2 with h | h
        · rw [h] at h5; simp at h5
        · rw [h]; rfl
      refine enter4 Tryz.func95 Tryz.ntmps95 rfl rfl fun w0 F0 => ?_
      repeat' (first | (refine qS rfl ?_ ?_; (first | exact True.intro | rfl | assumption | omega | (simp only [inR]; omega) | ((show _ ≤ (9223372036854775807 : Nat)); (try simp only [ByteArray.size_append]); omega) | exact tmod_ok (by omega) (by omega) | exact tdiv_ok (by omega) (by omega) | exact ⟨rfl, by decide, by decide⟩)) | refine qA ?_ | refine qB rfl ?_ | refine qC (by kernel_rfl) ?_ | refine qD ?_ | refine qE ?_ | refine qF ?_ | refine qG ?_ | refine qH rfl ?_ | refine qP rfl rfl rfl rfl rfl rfl b123 (hp) ?_ | (refine qT rfl ?_ ?_; (first | rfl | assumption)) | (refine qU rfl ?_ ?_; (first | rfl | assumption)) | refine qL rfl rfl ?_ | refine qM rfl rfl rfl ?_ | refine qO rfl rfl rfl ?_ | refine qX (b' := true) rfl rfl rfl rfl (by assumption) ?_ | refine qX (b' := false) rfl rfl rfl rfl (by assumption) ?_ | (refine qY rfl rfl rfl rfl ?_ ?_ <;> intro _) | exact (rfl : (_ : D) = _) | exact (rfl : (_ : List D) = _))
  rcases (show A > 0 ∨ A = 0 ∨ A < 0 by omega) with h1 | h1 | h1 <;> rcases (show B > 0 ∨ B = 0 ∨ B < 0 by omega) with h2 | h2 | h2
  · exact same 1 (sgn_pos h1) (.inl (sgn_pos h2)) (sgn_pos (by omega)) (by omega)
  · exact same 1 (sgn_pos h1) (.inr (by rw [h2]; rfl)) (sgn_pos (by omega)) (by omega)
  rotate_left
  · subst h1
    have e : ((0 + B).natAbs : Int) = B.natAbs := by omega
    rw [e, Int.zero_add, sgn_pos h2]
    refine enter4 Tryz.func95 Tryz.ntmps95 rfl rfl fun w0 F0 => ?_
    repeat' (first | (refine qS rfl ?_ ?_; (first | exact True.intro | rfl | assumption | omega | (simp only [inR]; omega) | ((show _ ≤ (9223372036854775807 : Nat)); (try simp only [ByteArray.size_append]); omega) | exact tmod_ok (by omega) (by omega) | exact tdiv_ok (by omega) (by omega) | exact ⟨rfl, by decide, by decide⟩)) | refine qA ?_ | refine qB rfl ?_ | refine qC (by kernel_rfl) ?_ | refine qD ?_ | refine qE ?_ | refine qF ?_ | refine qG ?_ | refine qH rfl ?_ | (refine qT rfl ?_ ?_; (first | rfl | assumption)) | (refine qU rfl ?_ ?_; (first | rfl | assumption)) | refine qL rfl rfl ?_ | refine qM rfl rfl rfl ?_ | refine qO rfl rfl rfl ?_ | refine qX (b' := true) rfl rfl rfl rfl (by assumption) ?_ | refine qX (b' := false) rfl rfl rfl rfl (by assumption) ?_ | (refine qY rfl rfl rfl rfl ?_ ?_ <;> intro _) | exact (rfl : (_ : D) = _) | exact (rfl : (_ : List D) = _))
  · exact same 0 (by rw [h1]; rfl) (.inl (by rw [h2]; rfl)) (by rw [h1, h2]; rfl) (by omega)
  · subst h1
    have e : ((0 + B).natAbs : Int) = B.natAbs := by omega
    rw [e, Int.zero_add, sgn_neg h2]
    refine enter4 Tryz.func95 Tryz.ntmps95 rfl rfl fun w0 F0 => ?_
    repeat' (first | (refine qS rfl ?_ ?_; (first | exact True.intro | rfl | assumption | omega | (simp only [inR]; omega) | ((show _ ≤ (9223372036854775807 : Nat)); (try simp only [ByteArray.size_append]); omega) | exact tmod_ok (by omega) (by omega) | exact tdiv_ok (by omega) (by omega) | exact ⟨rfl, by decide, by decide⟩)) | refine qA ?_ | refine qB rfl ?_ | refine qC (by kernel_rfl) ?_ | refine qD ?_ | refine qE ?_ | refine qF ?_ | refine qG ?_ | refine qH rfl ?_ | (refine qT rfl ?_ ?_; (first | rfl | assumption)) | (refine qU rfl ?_ ?_; (first | rfl | assumption)) | refine qL rfl rfl ?_ | refine qM rfl rfl rfl ?_ | refine qO rfl rfl rfl ?_ | refine qX (b' := true) rfl rfl rfl rfl (by assumption) ?_ | refine qX (b' := false) rfl rfl rfl rfl (by assumption) ?_ | (refine qY rfl rfl rfl rfl ?_ ?_ <;> intro _) | exact (rfl : (_ : D) = _) | exact (rfl : (_ : List D) = _))
  rotate_left
  · exact same (-1) (sgn_neg h1) (.inr (by rw [h2]; rfl)) (sgn_neg (by omega)) (by omega)
  · exact same (-1) (sgn_neg h1) (.inl (sgn_neg h2)) (sgn_neg (by omega)) (by omega)
  all_goals
    first | rw [sgn_pos h1] | rw [sgn_neg h1]
    first | rw [sgn_pos h2] | rw [sgn_neg h2]
    rcases (show (A.natAbs : Int) - B.natAbs > 0 ∨ (A.natAbs : Int) - B.natAbs = 0 ∨ (A.natAbs : Int) - B.natAbs < 0 by omega) with h3 | h3 | h3
  · rw [sgn_pos h3] at ho
    have e : ((A + B).natAbs : Int) = A.natAbs - B.natAbs := by omega
    rw [e, sgn_pos (show A + B > 0 by omega)]
    refine enter4 Tryz.func95 Tryz.ntmps95 rfl rfl fun w0 F0 => ?_
    repeat' (first | (refine qS rfl ?_ ?_; (first | exact True.intro | rfl | assumption | omega | (simp only [inR]; omega) | ((show _ ≤ (9223372036854775807 : Nat)); (try simp only [ByteArray.size_append]); omega) | exact tmod_ok (by omega) (by omega) | exact tdiv_ok (by omega) (by omega) | exact ⟨rfl, by decide, by decide⟩)) | refine qA ?_ | refine qB rfl ?_ | refine qC (by kernel_rfl) ?_ | refine qD ?_ | refine qE ?_ | refine qF ?_ | refine qG ?_ | refine qH rfl ?_ | refine qP rfl rfl rfl rfl rfl rfl b124 (ho) ?_ | refine qP rfl rfl rfl rfl rfl rfl b125 (hm1 (by omega)) ?_ | (refine qT rfl ?_ ?_; (first | rfl | assumption)) | (refine qU rfl ?_ ?_; (first | rfl | assumption)) | refine qL rfl rfl ?_ | refine qM rfl rfl rfl ?_ | refine qO rfl rfl rfl ?_ | refine qX (b' := true) rfl rfl rfl rfl (by assumption) ?_ | refine qX (b' := false) rfl rfl rfl rfl (by assumption) ?_ | (refine qY rfl rfl rfl rfl ?_ ?_ <;> intro _) | exact (rfl : (_ : D) = _) | exact (rfl : (_ : List D) = _))
  · rw [h3, sgn_zero] at ho
    have e : A + B = 0 := by omega
    rw [e, sgn_zero]
    refine enter4 Tryz.func95 Tryz.ntmps95 rfl rfl fun w0 F0 => ?_
    repeat' (first | (refine qS rfl ?_ ?_; (first | exact True.intro | rfl | assumption | omega | (simp only [inR]; omega) | ((show _ ≤ (9223372036854775807 : Nat)); (try simp only [ByteArray.size_append]); omega) | exact tmod_ok (by omega) (by omega) | exact tdiv_ok (by omega) (by omega) | exact ⟨rfl, by decide, by decide⟩)) | refine qA ?_ | refine qB rfl ?_ | refine qC (by kernel_rfl) ?_ | refine qD ?_ | refine qE ?_ | refine qF ?_ | refine qG ?_ | refine qH rfl ?_ | refine qP rfl rfl rfl rfl rfl rfl b124 (ho) ?_ | refine go_makeD 14 rfl rfl rfl rfl rfl rfl rfl rfl rfl rfl (by decide) (by decide) ?_ | refine qP rfl rfl rfl rfl rfl rfl b123 (hp0) ?_ | (refine qT rfl ?_ ?_; (first | rfl | assumption)) | (refine qU rfl ?_ ?_; (first | rfl | assumption)) | refine qL rfl rfl ?_ | refine qM rfl rfl rfl ?_ | refine qO rfl rfl rfl ?_ | refine qX (b' := true) rfl rfl rfl rfl (by assumption) ?_ | refine qX (b' := false) rfl rfl rfl rfl (by assumption) ?_ | (refine qY rfl rfl rfl rfl ?_ ?_ <;> intro _) | exact (rfl : (_ : D) = _) | exact (rfl : (_ : List D) = _))
  · rw [sgn_neg h3] at ho
    have e : ((A + B).natAbs : Int) = B.natAbs - A.natAbs := by omega
    rw [e, sgn_neg (show A + B < 0 by omega)]
    refine enter4 Tryz.func95 Tryz.ntmps95 rfl rfl fun w0 F0 => ?_
    repeat' (first | (refine qS rfl ?_ ?_; (first | exact True.intro | rfl | assumption | omega | (simp only [inR]; omega) | ((show _ ≤ (9223372036854775807 : Nat)); (try simp only [ByteArray.size_append]); omega) | exact tmod_ok (by omega) (by omega) | exact tdiv_ok (by omega) (by omega) | exact ⟨rfl, by decide, by decide⟩)) | refine qA ?_ | refine qB rfl ?_ | refine qC (by kernel_rfl) ?_ | refine qD ?_ | refine qE ?_ | refine qF ?_ | refine qG ?_ | refine qH rfl ?_ | refine qP rfl rfl rfl rfl rfl rfl b124 (ho) ?_ | refine qP rfl rfl rfl rfl rfl rfl b125 (hm2 (by omega)) ?_ | (refine qT rfl ?_ ?_; (first | rfl | assumption)) | (refine qU rfl ?_ ?_; (first | rfl | assumption)) | refine qL rfl rfl ?_ | refine qM rfl rfl rfl ?_ | refine qO rfl rfl rfl ?_ | refine qX (b' := true) rfl rfl rfl rfl (by assumption) ?_ | refine qX (b' := false) rfl rfl rfl rfl (by assumption) ?_ | (refine qY rfl rfl rfl rfl ?_ ?_ <;> intro _) | exact (rfl : (_ : D) = _) | exact (rfl : (_ : List D) = _))
  · rw [sgn_pos h3] at ho
    have e : ((A + B).natAbs : Int) = A.natAbs - B.natAbs := by omega
    rw [e, sgn_neg (show A + B < 0 by omega)]
    refine enter4 Tryz.func95 Tryz.ntmps95 rfl rfl fun w0 F0 => ?_
    repeat' (first | (refine qS rfl ?_ ?_; (first | exact True.intro | rfl | assumption | omega | (simp only [inR]; omega) | ((show _ ≤ (9223372036854775807 : Nat)); (try simp only [ByteArray.size_append]); omega) | exact tmod_ok (by omega) (by omega) | exact tdiv_ok (by omega) (by omega) | exact ⟨rfl, by decide, by decide⟩)) | refine qA ?_ | refine qB rfl ?_ | refine qC (by kernel_rfl) ?_ | refine qD ?_ | refine qE ?_ | refine qF ?_ | refine qG ?_ | refine qH rfl ?_ | refine qP rfl rfl rfl rfl rfl rfl b124 (ho) ?_ | refine qP rfl rfl rfl rfl rfl rfl b125 (hm1 (by omega)) ?_ | (refine qT rfl ?_ ?_; (first | rfl | assumption)) | (refine qU rfl ?_ ?_; (first | rfl | assumption)) | refine qL rfl rfl ?_ | refine qM rfl rfl rfl ?_ | refine qO rfl rfl rfl ?_ | refine qX (b' := true) rfl rfl rfl rfl (by assumption) ?_ | refine qX (b' := false) rfl rfl rfl rfl (by assumption) ?_ | (refine qY rfl rfl rfl rfl ?_ ?_ <;> intro _) | exact (rfl : (_ : D) = _) | exact (rfl : (_ : List D) = _))
  · rw [h3, sgn_zero] at ho
    have e : A + B = 0 := by omega
    rw [e, sgn_zero]
    refine enter4 Tryz.func95 Tryz.ntmps95 rfl rfl fun w0 F0 => ?_
    repeat' (first | (refine qS rfl ?_ ?_; (first | exact True.intro | rfl | assumption | omega | (simp only [inR]; omega) | ((show _ ≤ (9223372036854775807 : Nat)); (try simp only [ByteArray.size_append]); omega) | exact tmod_ok (by omega) (by omega) | exact tdiv_ok (by omega) (by omega) | exact ⟨rfl, by decide, by decide⟩)) | refine qA ?_ | refine qB rfl ?_ | refine qC (by kernel_rfl) ?_ | refine qD ?_ | refine qE ?_ | refine qF ?_ | refine qG ?_ | refine qH rfl ?_ | refine qP rfl rfl rfl rfl rfl rfl b124 (ho) ?_ | refine go_makeD 14 rfl rfl rfl rfl rfl rfl rfl rfl rfl rfl (by decide) (by decide) ?_ | refine qP rfl rfl rfl rfl rfl rfl b123 (hp0) ?_ | (refine qT rfl ?_ ?_; (first | rfl | assumption)) | (refine qU rfl ?_ ?_; (first | rfl | assumption)) | refine qL rfl rfl ?_ | refine qM rfl rfl rfl ?_ | refine qO rfl rfl rfl ?_ | refine qX (b' := true) rfl rfl rfl rfl (by assumption) ?_ | refine qX (b' := false) rfl rfl rfl rfl (by assumption) ?_ | (refine qY rfl rfl rfl rfl ?_ ?_ <;> intro _) | exact (rfl : (_ : D) = _) | exact (rfl : (_ : List D) = _))
  · rw [sgn_neg h3] at ho
    have e : ((A + B).natAbs : Int) = B.natAbs - A.natAbs := by omega
    rw [e, sgn_pos (show A + B > 0 by omega)]
    refine enter4 Tryz.func95 Tryz.ntmps95 rfl rfl fun w0 F0 => ?_
    repeat' (first | (refine qS rfl ?_ ?_; (first | exact True.intro | rfl | assumption | omega | (simp only [inR]; omega) | ((show _ ≤ (9223372036854775807 : Nat)); (try simp only [ByteArray.size_append]); omega) | exact tmod_ok (by omega) (by omega) | exact tdiv_ok (by omega) (by omega) | exact ⟨rfl, by decide, by decide⟩)) | refine qA ?_ | refine qB rfl ?_ | refine qC (by kernel_rfl) ?_ | refine qD ?_ | refine qE ?_ | refine qF ?_ | refine qG ?_ | refine qH rfl ?_ | refine qP rfl rfl rfl rfl rfl rfl b124 (ho) ?_ | refine qP rfl rfl rfl rfl rfl rfl b125 (hm2 (by omega)) ?_ | (refine qT rfl ?_ ?_; (first | rfl | assumption)) | (refine qU rfl ?_ ?_; (first | rfl | assumption)) | refine qL rfl rfl ?_ | refine qM rfl rfl rfl ?_ | refine qO rfl rfl rfl ?_ | refine qX (b' := true) rfl rfl rfl rfl (by assumption) ?_ | refine qX (b' := false) rfl rfl rfl rfl (by assumption) ?_ | (refine qY rfl rfl rfl rfl ?_ ?_ <;> intro _) | exact (rfl : (_ : D) = _) | exact (rfl : (_ : List D) = _))

/-! ## Comparison -/
def fzn (n d : Int) : Int := bif fval n d then n else 0
def fzd (n d : Int) : Int := bif fval n d then d else 1
def cmpQ (an ad bn bd : Int) : Int := sgn (fzn an ad * fzd bn bd - fzn bn bd * fzd an ad)
theorem fz_bnd (n d : Int) : -1000000000000000 ≤ fzn n d ∧ fzn n d ≤ 1000000000000000 ∧ 1 ≤ fzd n d ∧ fzd n d ≤ 1000000000000000 := by
  unfold fzn fzd
  cases h : fval n d with
  | false => simp
  | true =>
    simp only [fval, Bool.and_eq_true, decide_eq_true_eq] at h
    have := (inM_iff n).1 h.2.2.1
    simp only [cond_true]
    omega
theorem mul_bnd {x y : Int} (hx : -1000000000000000 ≤ x ∧ x ≤ 1000000000000000) (hy : 1 ≤ y ∧ y ≤ 1000000000000000) : ((x * y).natAbs : Int) = x.natAbs * y ∧ ((x * y).natAbs : Int) ≤ 1000000000000000000000000000000 := by
  have e : ((x * y).natAbs : Int) = x.natAbs * y := by rw [Int.natAbs_mul, Int.natCast_mul, Int.natAbs_of_nonneg (show 0 ≤ y by omega)]
  refine ⟨e, ?_⟩
  rw [e]
  have := Int.mul_le_mul (show (x.natAbs : Int) ≤ 1000000000000000 by omega) hy.2 (by omega) (by omega)
  omega
theorem sgn_mul {x y : Int} (hy : 1 ≤ y) : sgn (x * y) = sgn x := by
  rcases (show x > 0 ∨ x = 0 ∨ x < 0 by omega) with h | h | h
  · rw [sgn_pos h, sgn_pos (Int.mul_pos h (by omega))]
  · rw [h, Int.zero_mul]
  · rw [sgn_neg h, sgn_neg (Int.mul_neg_of_neg_of_pos h (by omega))]
theorem sgn_opp (x : Int) : sgn (-x) = - sgn x := by
  rcases (show x > 0 ∨ x = 0 ∨ x < 0 by omega) with h | h | h
  · rw [sgn_pos h, sgn_neg (by omega)]
  · rw [h]; rfl
  · rw [sgn_neg h, sgn_pos (by omega)]; rfl
theorem sgn_rng (x : Int) : -1 ≤ sgn x ∧ sgn x ≤ 1 := by unfold sgn; split <;> (try split) <;> omega
theorem rcmp_ev (an ad bn bd : Int) : Ev E 63 [.agg [.int an, .int ad], .agg [.int bn, .int bd]] (.d (.int (cmpQ an ad bn bd))) := by
  have h1 := fz_bnd an ad
  have h2 := fz_bnd bn bd
  have hva := rvalid_ev an ad
  have hvb := rvalid_ev bn bd
  have key : ∀ n d n' d' : Int, (-1000000000000000 ≤ n ∧ n ≤ 1000000000000000) → (1 ≤ d ∧ d ≤ 1000000000000000) → (-1000000000000000 ≤ n' ∧ n' ≤ 1000000000000000) → (1 ≤ d' ∧ d' ≤ 1000000000000000) →
      Ev E 95 [.int (sgn n), .sl (encI (wdig 14 (n.natAbs * d'))), .int (0 - sgn n'), .sl (encI (wdig 14 (n'.natAbs * d)))] (.tup [.int (sgn (n * d' - n' * d)), .sl (encI (wdig 14 (n * d' - n' * d).natAbs))]) := by
    intro n d n' d' hn hd hn' hd'
    obtain ⟨m1, m2⟩ := mul_bnd hn hd'
    obtain ⟨m3, m4⟩ := mul_bnd hn' hd
    have := sum_ev (n * d') (-(n' * d)) m2 (by rw [Int.natAbs_neg]; exact m4)
    rw [Int.natAbs_neg, m1, m3, sgn_mul hd'.1, sgn_opp, sgn_mul hd.1, ← Int.sub_eq_add_neg] at this
    rw [show 0 - sgn n' = - sgn n' by omega]
    exact this
  have hs := key (fzn an ad) (fzd an ad) (fzn bn bd) (fzd bn bd) (by omega) (by omega) (by omega) (by omega)
  have ht1 := times_ev (fzn an ad).natAbs (fzd bn bd) (by omega) (by omega) (by omega) (by omega)
  have ht2 := times_ev (fzn bn bd).natAbs (fzd an ad) (by omega) (by omega) (by omega) (by omega)
  have hz1 := rsize_ev (fzn an ad) (by omega)
  have hz2 := rsize_ev (fzn bn bd) (by omega)
  have hg1 := rsign_ev (fzn an ad)
  have hg2 := rsign_ev (fzn bn bd)
  have hgr := sgn_rng (fzn bn bd)
  unfold cmpQ
  generalize hres : (fzn an ad * fzd bn bd - fzn bn bd * fzd an ad) = res at *
  clear hres key
  cases ha : fval an ad <;> cases hb : fval bn bd
  all_goals
    rw [ha] at hva
    rw [hb] at hvb
    simp only [fzn, fzd, ha, hb, cond_true, cond_false] at hs ht1 ht2 hz1 hz2 hg1 hg2 hgr h1 h2
    refine enter2 Tryz.func63 Tryz.ntmps63 rfl rfl fun w0 F0 => ?_
    repeat' (first | (refine qS rfl ?_ ?_; (first | exact True.intro | rfl | assumption | omega | (simp only [inR]; omega) | ((show _ ≤ (9223372036854775807 : Nat)); (try simp only [ByteArray.size_append]); omega) | exact tmod_ok (by omega) (by omega) | exact tdiv_ok (by omega) (by omega) | exact ⟨rfl, by decide, by decide⟩)) | refine qA ?_ | refine qB rfl ?_ | refine qC (by kernel_rfl) ?_ | refine qD ?_ | refine qE ?_ | refine qF ?_ | refine qG ?_ | refine qH rfl ?_ | refine qP rfl rfl rfl rfl rfl rfl b94 (hva) ?_ | refine qP rfl rfl rfl rfl rfl rfl b94 (hvb) ?_ | refine qP rfl rfl rfl rfl rfl rfl b96 (hg1) ?_ | refine qP rfl rfl rfl rfl rfl rfl b96 (hg2) ?_ | refine qP rfl rfl rfl rfl rfl rfl b98 (hz1) ?_ | refine qP rfl rfl rfl rfl rfl rfl b98 (hz2) ?_ | refine qP rfl rfl rfl rfl rfl rfl b97 (ht1) ?_ | refine qP rfl rfl rfl rfl rfl rfl b97 (ht2) ?_ | refine qP rfl rfl rfl rfl rfl rfl b95 (hs) ?_ | (refine qT rfl ?_ ?_; (first | rfl | assumption)) | (refine qU rfl ?_ ?_; (first | rfl | assumption)) | refine qL rfl rfl ?_ | refine qM rfl rfl rfl ?_ | refine qO rfl rfl rfl ?_ | refine qX (b' := true) rfl rfl rfl rfl (by assumption) ?_ | refine qX (b' := false) rfl rfl rfl rfl (by assumption) ?_ | (refine qY rfl rfl rfl rfl ?_ ?_ <;> intro _) | exact (rfl : (_ : D) = _) | exact (rfl : (_ : List D) = _))
end Go.Proofs.YtpjnngfjbcjikaaGreatDoor
