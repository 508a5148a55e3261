/- The specification's product of wide numbers. Conditions: both factors between 0 and 10^15. -/
import Derived.Test.YtpjnngfjbcjikaaGreatDoorM14
namespace Go.Proofs.YtpjnngfjbcjikaaGreatDoor
open Go Go.Abs Go.Val
attribute [local irreducible] go SGo HasBody Ev

theorem ti_bound {a0 b d c carry a' : Int} {k i : Nat} {out : List Int} (ha0 : 0 ≤ a0) (ha1 : a0 ≤ 1000000000000000) (hb0 : 0 ≤ b) (hb1 : b ≤ 1000000000000000) (ok : wok out) (hd : 0 ≤ d) (hc : 0 ≤ c) (hca : carry > 0) (ha' : 0 ≤ a')
    (hv : wv out + pw k * (d * c + carry) + pw (i + 1) * (a' * b) = a0 * b) : k ≤ 10 := by
  have h1 := wv_nonneg out ok
  have h2 : 0 ≤ pw (i + 1) * (a' * b) := Int.mul_nonneg (by have := pw_pos (i + 1); omega) (Int.mul_nonneg ha' hb0)
  have h3 : a0 * b ≤ 1000000000000000 * 1000000000000000 := Int.mul_le_mul ha1 hb1 hb0 (by omega)
  have h4 : 1 ≤ d * c + carry := by have := Int.mul_nonneg hd hc; omega
  refine pw_bound h4 ?_
  rw [Int.mul_comm, show pw 10 = 1000000000000000 * 1000000000000000 from by decide]
  omega

theorem own_set (l : List Int) (k : Nat) (x y : Int) : (encI l).set ((k : Int)).toNat (subD (.int x) 0 (.int y)) = encI (l.set k y) := by
  rw [Int.toNat_natCast]
  exact encI_set l k y
theorem ti_next {a0 b d a' : Int} {i k j : Nat} {c carry x : Int} {out : List Int} (hk : k ≤ 10) (hj : k = i + j) (hcb : c * pw j ≤ 1000000000000000) (hc : 0 ≤ c) (hca : 0 ≤ carry ∧ carry ≤ 999) (ok : wok out) (hl : out.length = 14) (hx : out[k]? = some x) (hxr : 0 ≤ x ∧ x ≤ 999)
    (hp : 0 ≤ d * c.tmod 1000 ∧ d * c.tmod 1000 ≤ 998001) (hv : wv out + pw k * (d * c + carry) + pw (i + 1) * (a' * b) = a0 * b) :
    ∃ y : TI a0 b d a' i, y.k = k + 1 ∧ y.c = c.tdiv 1000 ∧ y.carry = (carry + x + d * c.tmod 1000).tdiv 1000 ∧ y.out = out.set k ((carry + x + d * c.tmod 1000).tmod 1000) := by
  have s1 : c.tmod 1000 = c % 1000 := Int.tmod_eq_emod_of_nonneg hc
  have s2 : c.tdiv 1000 = c / 1000 := Int.tdiv_eq_ediv_of_nonneg hc
  have t0 : 0 ≤ carry + x + d * c.tmod 1000 := by omega
  have s3 : (carry + x + d * c.tmod 1000).tmod 1000 = (carry + x + d * c.tmod 1000) % 1000 := Int.tmod_eq_emod_of_nonneg t0
  have s4 : (carry + x + d * c.tmod 1000).tdiv 1000 = (carry + x + d * c.tmod 1000) / 1000 := Int.tdiv_eq_ediv_of_nonneg t0
  refine ⟨⟨k + 1, c.tdiv 1000, (carry + x + d * c.tmod 1000).tdiv 1000, out.set k ((carry + x + d * c.tmod 1000).tmod 1000), by omega, by rw [s2]; omega, ⟨j + 1, by omega, ?_⟩, by rw [s4]; omega, wok_set ok k _ (by rw [s3]; omega), by simpa using hl, ?_⟩, rfl, rfl, rfl, rfl⟩
  · rw [s2]
    simp only [pw]
    have h1 : c / 1000 * 1000 ≤ c := by omega
    have := Int.mul_le_mul_of_nonneg_right h1 (show 0 ≤ pw j by have := pw_pos j; omega)
    rw [Int.mul_assoc] at this
    omega
  · rw [s3, s4, s1, s2]
    rw [s1] at t0
    exact ti_step hx t0 hc hv

theorem times_ev (a0 b : Int) (ha0 : 0 ≤ a0) (ha1 : a0 ≤ 1000000000000000) (hb0 : 0 ≤ b) (hb1 : b ≤ 1000000000000000) : Ev E 97 [.int a0, .int b] (.d (.sl (encI (wdig 14 (a0 * b))))) := by
  refine enter2 Tryz.func97 Tryz.ntmps97 rfl rfl fun w0 F0 => ?_
  repeat' (first | (refine qS rfl ?_ ?_; (first | exact True.intro | rfl | assumption | omega | (simp only [inR]; omega) | ((show _ ≤ (9223372036854775807 : Nat)); (try simp only [ByteArray.size_append]); omega) | exact tmod_ok (by omega) (by omega) | exact tdiv_ok (by omega) (by omega) | exact ⟨rfl, by decide, by decide⟩)) | refine qA ?_ | refine qB rfl ?_ | refine qC (by kernel_rfl) ?_ | refine qD ?_ | refine qE ?_ | refine qF ?_ | refine qG ?_ | refine qH rfl ?_ | (refine qT rfl ?_ ?_; (first | rfl | assumption)) | (refine qU rfl ?_ ?_; (first | rfl | assumption)) | refine qL rfl rfl ?_ | refine qM rfl rfl rfl ?_ | refine qO rfl rfl rfl ?_ | refine qX (b' := true) rfl rfl rfl rfl (by assumption) ?_ | refine qX (b' := false) rfl rfl rfl rfl (by assumption) ?_ | (refine qY rfl rfl rfl rfl ?_ ?_ <;> intro _) | exact (rfl : (_ : D) = _) | exact (rfl : (_ : List D) = _))
  refine go_loop_ (α := TO a0 b) (fun p => ⟨[(0, .d (.int p.a)), (1, .d (.int b)), (5, .own 0), (6, .d (.int p.i))], [.row 3 1 (encI p.out)]⟩) (fun p => p.a.toNat) ⟨0, a0, List.replicate 14 0, ha0, by simp only [pw]; omega, fun d hd => by rw [(List.mem_replicate.1 hd).2]; omega, by simp, by simp [pw, wv, List.replicate]⟩ ((Le.of' 1 rfl (by repeat (first | exact trivial | refine ⟨⟨rfl, rfl⟩, ?_⟩)) (by repeat (first | exact trivial | refine ⟨rfl, ?_⟩)))) ?_
  rintro ⟨i, a, out, ha, hb, ok, hl, hv⟩
  dsimp only
  by_cases hpos : a > 0
  · have hd : decide (a > 0) = true := by simpa using hpos
    have hi5 : i ≤ 5 := pw_bound (show 1 ≤ a by omega) (by rw [pw5]; exact hb)
    have q1 : a.tmod 1000 = a % 1000 := Int.tmod_eq_emod_of_nonneg ha
    have q2 : a.tdiv 1000 = a / 1000 := Int.tdiv_eq_ediv_of_nonneg ha
    have ha2 : a ≤ 1000000000000000 := by
      have := Int.mul_le_mul_of_nonneg_left (pw_pos i) ha
      rw [Int.mul_one] at this
      omega
    have r1 : inR .i64 (a.tmod 1000) := by rw [q1]; simp only [inR]; omega
    have hinit : wv out + pw i * (a.tmod 1000 * b + 0) + pw (i + 1) * (a.tdiv 1000 * b) = a0 * b := by
      rw [← hv, q1, q2, Int.add_zero]
      have e : a * b = a % 1000 * b + 1000 * (a / 1000 * b) := by
        rw [← Int.mul_assoc, ← Int.add_mul, show a % 1000 + 1000 * (a / 1000) = a from by omega]
      rw [e, Int.mul_add]
      simp only [pw]
      rw [Int.mul_comm 1000 (pw i), Int.mul_assoc]
      omega
    repeat' (first | (refine qS rfl ?_ ?_; (first | exact True.intro | rfl | assumption | omega | (simp only [inR]; omega) | ((show _ ≤ (9223372036854775807 : Nat)); (try simp only [ByteArray.size_append]); omega) | exact tmod_ok (by omega) (by omega) | exact tdiv_ok (by omega) (by omega) | exact ⟨rfl, by decide, by decide⟩)) | refine qA ?_ | refine qB rfl ?_ | refine qC (by kernel_rfl) ?_ | refine qD ?_ | refine qE ?_ | refine qF ?_ | refine qG ?_ | refine qH rfl ?_ | (refine qT rfl ?_ ?_; (first | rfl | assumption)) | (refine qU rfl ?_ ?_; (first | rfl | assumption)) | refine qL rfl rfl ?_ | refine qM rfl rfl rfl ?_ | refine qO rfl rfl rfl ?_ | refine qX (b' := true) rfl rfl rfl rfl (by assumption) ?_ | refine qX (b' := false) rfl rfl rfl rfl (by assumption) ?_ | (refine qY rfl rfl rfl rfl ?_ ?_ <;> intro _) | exact (rfl : (_ : D) = _) | exact (rfl : (_ : List D) = _))
    refine go_loop_ (α := TI a0 b (a.tmod 1000) (a.tdiv 1000) i) (fun p => ⟨[(0, .d (.int (a.tdiv 1000))), (1, .d (.int b)), (5, .own 0), (6, .d (.int i)), (7, .d (.int (a.tmod 1000))), (8, .d (.int p.c)), (9, .d (.int p.carry)), (10, .d (.int p.k))], [.row 3 1 (encI p.out)]⟩) (fun p => 20 - p.k) ⟨i, b, 0, out, by omega, hb0, ⟨0, rfl, by simp only [pw]; omega⟩, by omega, ok, hl, hinit⟩ ((Le.of' 1 rfl (by repeat (first | exact trivial | refine ⟨⟨rfl, rfl⟩, ?_⟩)) (by repeat (first | exact trivial | refine ⟨rfl, ?_⟩)))) ?_
    rintro ⟨k, c, carry, o2, hk, hc, ⟨j, hj, hcb⟩, hca, ok2, hl2, hv2⟩
    dsimp only
    have hd0 : 0 ≤ a.tmod 1000 ∧ a.tmod 1000 ≤ 999 := by rw [q1]; omega
    by_cases hcont : c > 0 ∨ carry > 0
    · have hk10 : k ≤ 10 := by
        rcases hcont with h | h
        · have : j ≤ 5 := pw_bound (show 1 ≤ c by omega) (by rw [pw5]; exact hcb)
          omega
        · exact ti_bound ha0 ha1 hb0 hb1 ok2 hd0.1 hc h (by rw [q2]; omega) hv2
      obtain ⟨x, hx⟩ := get14 hl2 (show k < 14 by omega)
      have hx' : (encI o2)[((k : Int)).toNat]? = some (.int x) := encI_get (by rw [Int.toNat_natCast]; exact hx)
      have hxr := ok2 x (List.mem_of_getElem? hx)
      have hle : (encI o2).length = 14 := by rw [encI_len]; exact hl2
      have s1 : c.tmod 1000 = c % 1000 := Int.tmod_eq_emod_of_nonneg hc
      have s2 : c.tdiv 1000 = c / 1000 := Int.tdiv_eq_ediv_of_nonneg hc
      have hp : 0 ≤ a.tmod 1000 * c.tmod 1000 ∧ a.tmod 1000 * c.tmod 1000 ≤ 998001 := by
        have h1 : 0 ≤ c.tmod 1000 ∧ c.tmod 1000 ≤ 999 := by rw [s1]; omega
        refine ⟨Int.mul_nonneg hd0.1 h1.1, ?_⟩
        have := Int.mul_le_mul hd0.2 h1.2 h1.1 (by omega)
        omega
      have hc15 : c ≤ 1000000000000000 := by
        have := Int.mul_le_mul_of_nonneg_left (pw_pos j) hc
        rw [Int.mul_one] at this
        omega
      obtain ⟨y, e1, e2, e3, e4⟩ := ti_next hk10 hj hcb hc hca ok2 hl2 hx hxr hp hv2
      by_cases hc0 : c > 0
      · have g1 : decide (c > 0) = true := by simpa using hc0
        repeat' (first | (refine qS rfl ?_ ?_; (first | exact True.intro | rfl | assumption | omega | (simp only [inR]; omega) | ((show _ ≤ (9223372036854775807 : Nat)); (try simp only [ByteArray.size_append]); omega) | exact tmod_ok (by omega) (by omega) | exact tdiv_ok (by omega) (by omega) | exact ⟨rfl, by decide, by decide⟩)) | refine qA ?_ | refine qB rfl ?_ | refine qC (by kernel_rfl) ?_ | refine qD ?_ | refine qE ?_ | refine qF ?_ | refine qG ?_ | refine qH rfl ?_ | refine qW (.int x) rfl rfl rfl rfl rfl rfl hx' rfl ?_ | refine qZ (.int x) rfl rfl rfl rfl rfl rfl hx' rfl rfl rfl ?_ | (refine qT rfl ?_ ?_; (first | rfl | assumption)) | (refine qU rfl ?_ ?_; (first | rfl | assumption)) | refine qL rfl rfl ?_ | refine qM rfl rfl rfl ?_ | refine qO rfl rfl rfl ?_ | refine qX (b' := true) rfl rfl rfl rfl (by assumption) ?_ | refine qX (b' := false) rfl rfl rfl rfl (by assumption) ?_ | (refine qY rfl rfl rfl rfl ?_ ?_ <;> intro _) | exact (rfl : (_ : D) = _) | exact (rfl : (_ : List D) = _))
        refine go_stop ?_
        refine ⟨y, by omega, ?_⟩
        rw [e1, e2, e3, e4, ← own_set o2 k x]
        exact (Le.of' 1 rfl (by repeat (first | exact trivial | refine ⟨⟨rfl, rfl⟩, ?_⟩)) (by repeat (first | exact trivial | refine ⟨rfl, ?_⟩)))
      · have g1 : decide (c > 0) = false := by simpa using hc0
        have g2 : decide (carry > 0) = true := by simp; omega
        repeat' (first | (refine qS rfl ?_ ?_; (first | exact True.intro | rfl | assumption | omega | (simp only [inR]; omega) | ((show _ ≤ (9223372036854775807 : Nat)); (try simp only [ByteArray.size_append]); omega) | exact tmod_ok (by omega) (by omega) | exact tdiv_ok (by omega) (by omega) | exact ⟨rfl, by decide, by decide⟩)) | refine qA ?_ | refine qB rfl ?_ | refine qC (by kernel_rfl) ?_ | refine qD ?_ | refine qE ?_ | refine qF ?_ | refine qG ?_ | refine qH rfl ?_ | refine qW (.int x) rfl rfl rfl rfl rfl rfl hx' rfl ?_ | refine qZ (.int x) rfl rfl rfl rfl rfl rfl hx' rfl rfl rfl ?_ | (refine qT rfl ?_ ?_; (first | rfl | assumption)) | (refine qU rfl ?_ ?_; (first | rfl | assumption)) | refine qL rfl rfl ?_ | refine qM rfl rfl rfl ?_ | refine qO rfl rfl rfl ?_ | refine qX (b' := true) rfl rfl rfl rfl (by assumption) ?_ | refine qX (b' := false) rfl rfl rfl rfl (by assumption) ?_ | (refine qY rfl rfl rfl rfl ?_ ?_ <;> intro _) | exact (rfl : (_ : D) = _) | exact (rfl : (_ : List D) = _))
        refine go_stop ?_
        refine ⟨y, by omega, ?_⟩
        rw [e1, e2, e3, e4, ← own_set o2 k x]
        exact (Le.of' 1 rfl (by repeat (first | exact trivial | refine ⟨⟨rfl, rfl⟩, ?_⟩)) (by repeat (first | exact trivial | refine ⟨rfl, ?_⟩)))
    · have g1 : decide (c > 0) = false := by simp; omega
      have g2 : decide (carry > 0) = false := by simp; omega
      have hc0 : c = 0 := by omega
      have hca0 : carry = 0 := by omega
      subst hc0 hca0
      repeat' (first | (refine qS rfl ?_ ?_; (first | exact True.intro | rfl | assumption | omega | (simp only [inR]; omega) | ((show _ ≤ (9223372036854775807 : Nat)); (try simp only [ByteArray.size_append]); omega) | exact tmod_ok (by omega) (by omega) | exact tdiv_ok (by omega) (by omega) | exact ⟨rfl, by decide, by decide⟩)) | refine qA ?_ | refine qB rfl ?_ | refine qC (by kernel_rfl) ?_ | refine qD ?_ | refine qE ?_ | refine qF ?_ | refine qG ?_ | refine qH rfl ?_ | (refine qT rfl ?_ ?_; (first | rfl | assumption)) | (refine qU rfl ?_ ?_; (first | rfl | assumption)) | refine qL rfl rfl ?_ | refine qM rfl rfl rfl ?_ | refine qO rfl rfl rfl ?_ | refine qX (b' := true) rfl rfl rfl rfl (by assumption) ?_ | refine qX (b' := false) rfl rfl rfl rfl (by assumption) ?_ | (refine qY rfl rfl rfl rfl ?_ ?_ <;> intro _) | exact (rfl : (_ : D) = _) | exact (rfl : (_ : List D) = _))
      refine go_stop ?_
      refine ⟨⟨i + 1, a.tdiv 1000, o2, by rw [q2]; omega, ?_, ok2, hl2, ?_⟩, by dsimp only; omega, (Le.of' 1 rfl (by repeat (first | exact trivial | refine ⟨⟨rfl, rfl⟩, ?_⟩)) (by repeat (first | exact trivial | refine ⟨rfl, ?_⟩)))⟩
      · rw [q2]
        simp only [pw]
        have h1 : a / 1000 * 1000 ≤ a := by omega
        have := Int.mul_le_mul_of_nonneg_right h1 (show 0 ≤ pw i by have := pw_pos i; omega)
        rw [Int.mul_assoc] at this
        omega
      · rw [← hv2, Int.mul_zero, Int.add_zero, Int.mul_zero, Int.add_zero]
  · have hd : decide (a > 0) = false := by simpa using hpos
    have ha' : a = 0 := by omega
    subst ha'
    rw [Int.zero_mul, Int.mul_zero, Int.add_zero] at hv
    rw [← wdig_of ok hl hv]
    repeat' (first | (refine qS rfl ?_ ?_; (first | exact True.intro | rfl | assumption | omega | (simp only [inR]; omega) | ((show _ ≤ (9223372036854775807 : Nat)); (try simp only [ByteArray.size_append]); omega) | exact tmod_ok (by omega) (by omega) | exact tdiv_ok (by omega) (by omega) | exact ⟨rfl, by decide, by decide⟩)) | refine qA ?_ | refine qB rfl ?_ | refine qC (by kernel_rfl) ?_ | refine qD ?_ | refine qE ?_ | refine qF ?_ | refine qG ?_ | refine qH rfl ?_ | (refine qT rfl ?_ ?_; (first | rfl | assumption)) | (refine qU rfl ?_ ?_; (first | rfl | assumption)) | refine qL rfl rfl ?_ | refine qM rfl rfl rfl ?_ | refine qO rfl rfl rfl ?_ | refine qX (b' := true) rfl rfl rfl rfl (by assumption) ?_ | refine qX (b' := false) rfl rfl rfl rfl (by assumption) ?_ | (refine qY rfl rfl rfl rfl ?_ ?_ <;> intro _) | exact (rfl : (_ : D) = _) | exact (rfl : (_ : List D) = _))
    refine go_frz 0 rfl ?_
    repeat' (first | (refine qS rfl ?_ ?_; (first | exact True.intro | rfl | assumption | omega | (simp only [inR]; omega) | ((show _ ≤ (9223372036854775807 : Nat)); (try simp only [ByteArray.size_append]); omega) | exact tmod_ok (by omega) (by omega) | exact tdiv_ok (by omega) (by omega) | exact ⟨rfl, by decide, by decide⟩)) | refine qA ?_ | refine qB rfl ?_ | refine qC (by kernel_rfl) ?_ | refine qD ?_ | refine qE ?_ | refine qF ?_ | refine qG ?_ | refine qH rfl ?_ | (refine qT rfl ?_ ?_; (first | rfl | assumption)) | (refine qU rfl ?_ ?_; (first | rfl | assumption)) | refine qL rfl rfl ?_ | refine qM rfl rfl rfl ?_ | refine qO rfl rfl rfl ?_ | refine qX (b' := true) rfl rfl rfl rfl (by assumption) ?_ | refine qX (b' := false) rfl rfl rfl rfl (by assumption) ?_ | (refine qY rfl rfl rfl rfl ?_ ?_ <;> intro _) | exact (rfl : (_ : D) = _) | exact (rfl : (_ : List D) = _))
end Go.Proofs.YtpjnngfjbcjikaaGreatDoor
