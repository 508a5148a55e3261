/- The specification's product of wide numbers. Conditions: both factors between 0 and 10^15. -/
import Derived.Test.YtpjnngfjbcjikaaDoorM14
namespace Go.Proofs.YtpjnngfjbcjikaaDoor
open Go Go.Abs Go.Val
attribute [local irreducible] go SGo HasBody Ev

theorem ti_bound {a0 b d c carry a' : Int} {k i : Nat} {out : List Int} (ha0 : 0 ≤ a0) (ha1 : a0 ≤ 1000000000000000) (hb0 : 0 ≤ b) (hb1 : b ≤ 1000000000000000) (ok : wok out) (hd : 0 ≤ d) (hc : 0 ≤ c) (hca : carry > 0) (ha' : 0 ≤ a')
    (hv : wv out + pw k * (d * c + carry) + pw (i + 1) * (a' * b) = a0 * b) : k ≤ 10 := by
  have h1 := wv_nonneg out ok
  have h2 : 0 ≤ pw (i + 1) * (a' * b) := Int.mul_nonneg (by have := pw_pos (i + 1); omega) (Int.mul_nonneg ha' hb0)
  have h3 : a0 * b ≤ 1000000000000000 * 1000000000000000 := Int.mul_le_mul ha1 hb1 hb0 (by omega)
  have h4 : 1 ≤ d * c + carry := by have := Int.mul_nonneg hd hc; omega
  refine pw_bound h4 ?_
  rw [Int.mul_comm, show pw 10 = 1000000000000000 * 1000000000000000 from by decide]
  omega

theorem own_set (l : List Int) (k : Nat) (x y : Int) : (encI l).set ((k : Int)).toNat (subD (.int x) 0 (.int y)) = encI (l.set k y) := by
  rw [Int.toNat_natCast]
  exact encI_set l k y
theorem ti_next {a0 b d a' : Int} {i k j : Nat} {c carry x : Int} {out : List Int} (hk : k ≤ 10) (hj : k = i + j) (hcb : c * pw j ≤ 1000000000000000) (hc : 0 ≤ c) (hca : 0 ≤ carry ∧ carry ≤ 999) (ok : wok out) (hl : out.length = 14) (hx : out[k]? = some x) (hxr : 0 ≤ x ∧ x ≤ 999)
    (hp : 0 ≤ d * c.tmod 1000 ∧ d * c.tmod 1000 ≤ 998001) (hv : wv out + pw k * (d * c + carry) + pw (i + 1) * (a' * b) = a0 * b) :
    ∃ y : TI a0 b d a' i, y.k = k + 1 ∧ y.c = c.tdiv 1000 ∧ y.carry = (carry + x + d * c.tmod 1000).tdiv 1000 ∧ y.out = out.set k ((carry + x + d * c.tmod 1000).tmod 1000) := by
  have s1 : c.tmod 1000 = c % 1000 := Int.tmod_eq_emod_of_nonneg hc
  have s2 : c.tdiv 1000 = c / 1000 := Int.tdiv_eq_ediv_of_nonneg hc
  have t0 : 0 ≤ carry + x + d * c.tmod 1000 := by omega
  have s3 : (carry + x + d * c.tmod 1000).tmod 1000 = (carry + x + d * c.tmod 1000) % 1000 := Int.tmod_eq_emod_of_nonneg t0
  have s4 : (carry + x + d * c.tmod 1000).tdiv 1000 = (carry + x + d * c.tmod 1000) / 1000 := Int.tdiv_eq_ediv_of_nonneg t0
  refine ⟨⟨k + 1, c.tdiv 1000, (carry + x + d * c.tmod 1000).tdiv 1000, out.set k ((carry + x + d * c.tmod 1000).tmod 1000), by omega, by rw [s2]; omega, ⟨j + 1, by omega, ?_⟩, by rw [s4]; omega, wok_set ok k _ (by rw [s3]; omega), by simpa using hl, ?_⟩, rfl, rfl, rfl, rfl⟩
  · rw [s2]
    simp only [pw]
    have h1 : c / 1000 * 1000 ≤ c := by omega
    have := Int.mul_le_mul_of_nonneg_right h1 (show 0 ≤ pw j by have := pw_pos j; omega)
    rw [Int.mul_assoc] at this
    omega
  · rw [s3, s4, s1, s2]
    rw [s1] at t0
    exact ti_step hx t0 hc hv

end Go.Proofs.YtpjnngfjbcjikaaDoor
