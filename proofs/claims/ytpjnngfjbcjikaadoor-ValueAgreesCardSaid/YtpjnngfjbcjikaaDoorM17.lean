/- The specification's sum of signed wide numbers, and its comparison of fractions. Conditions: magnitudes up to 10^30. -/
import Derived.Test.YtpjnngfjbcjikaaDoorM16
namespace Go.Proofs.YtpjnngfjbcjikaaDoor
open Go Go.Abs Go.Val
attribute [local irreducible] go SGo HasBody Ev

theorem sgn_pos {n : Int} (h : n > 0) : sgn n = 1 := by unfold sgn; rw [if_neg (by omega), if_pos h]
theorem sgn_neg {n : Int} (h : n < 0) : sgn n = -1 := by unfold sgn; rw [if_pos h]
theorem sgn_zero : sgn 0 = 0 := rfl
def fzn (n d : Int) : Int := bif fval n d then n else 0
def fzd (n d : Int) : Int := bif fval n d then d else 1
def cmpQ (an ad bn bd : Int) : Int := sgn (fzn an ad * fzd bn bd - fzn bn bd * fzd an ad)
theorem fz_bnd (n d : Int) : -1000000000000000 ≤ fzn n d ∧ fzn n d ≤ 1000000000000000 ∧ 1 ≤ fzd n d ∧ fzd n d ≤ 1000000000000000 := by
  unfold fzn fzd
  cases h : fval n d with
  | false => simp
  | true =>
    simp only [fval, Bool.and_eq_true, decide_eq_true_eq] at h
    have := (inM_iff n).1 h.2.2.1
    simp only [cond_true]
    omega
theorem mul_bnd {x y : Int} (hx : -1000000000000000 ≤ x ∧ x ≤ 1000000000000000) (hy : 1 ≤ y ∧ y ≤ 1000000000000000) : ((x * y).natAbs : Int) = x.natAbs * y ∧ ((x * y).natAbs : Int) ≤ 1000000000000000000000000000000 := by
  have e : ((x * y).natAbs : Int) = x.natAbs * y := by rw [Int.natAbs_mul, Int.natCast_mul, Int.natAbs_of_nonneg (show 0 ≤ y by omega)]
  refine ⟨e, ?_⟩
  rw [e]
  have := Int.mul_le_mul (show (x.natAbs : Int) ≤ 1000000000000000 by omega) hy.2 (by omega) (by omega)
  omega
theorem sgn_mul {x y : Int} (hy : 1 ≤ y) : sgn (x * y) = sgn x := by
  rcases (show x > 0 ∨ x = 0 ∨ x < 0 by omega) with h | h | h
  · rw [sgn_pos h, sgn_pos (Int.mul_pos h (by omega))]
  · rw [h, Int.zero_mul]
  · rw [sgn_neg h, sgn_neg (Int.mul_neg_of_neg_of_pos h (by omega))]
theorem sgn_opp (x : Int) : sgn (-x) = - sgn x := by
  rcases (show x > 0 ∨ x = 0 ∨ x < 0 by omega) with h | h | h
  · rw [sgn_pos h, sgn_neg (by omega)]
  · rw [h]; rfl
  · rw [sgn_neg h, sgn_pos (by omega)]; rfl
theorem sgn_rng (x : Int) : -1 ≤ sgn x ∧ sgn x ≤ 1 := by unfold sgn; split <;> (try split) <;> omega
end Go.Proofs.YtpjnngfjbcjikaaDoor
