/- What the functions of layers 1 and 3 return: In, Gcd, Valid of both texts. Conditions: the bounds of Go's int, where a contract states them. -/
import Derived.Test.YtpjnngfjbcjikaaDoorEnv
import Derived.Test.YtpjnngfjbcjikaaDoorVal
namespace Go.Proofs.YtpjnngfjbcjikaaDoor
open Go Go.Abs Go.Val
attribute [local irreducible] go SGo HasBody Ev

theorem in_ev (n : Int) : Ev E 42 [.int n] (.d (.bool (inM n))) := by
  refine enter1 Tryd.func42 Tryd.ntmps42 rfl rfl fun w0 F0 => ?_
  repeat' (first | (refine qS rfl ?_ ?_; (first | exact True.intro | rfl | assumption | omega | (simp only [inR]; omega) | ((show _ ≤ (9223372036854775807 : Nat)); (try simp only [ByteArray.size_append]); omega) | exact tmod_ok (by omega) (by omega) | exact tdiv_ok (by omega) (by omega) | exact ⟨rfl, by decide, by decide⟩)) | refine qA ?_ | refine qB rfl ?_ | refine qC (by kernel_rfl) ?_ | refine qD ?_ | refine qE ?_ | refine qF ?_ | refine qG ?_ | refine qH rfl ?_ | (refine qT rfl ?_ ?_; (first | rfl | assumption)) | (refine qU rfl ?_ ?_; (first | rfl | assumption)) | refine qL rfl rfl ?_ | refine qM rfl rfl rfl ?_ | refine qO rfl rfl rfl ?_ | refine qX (b' := true) rfl rfl rfl rfl (by assumption) ?_ | refine qX (b' := false) rfl rfl rfl rfl (by assumption) ?_ | (refine qY rfl rfl rfl rfl ?_ ?_ <;> intro _) | (refine qV rfl ?_ ?_ <;> intro _) | exact (rfl : (_ : D) = _) | exact (rfl : (_ : List D) = _))
  all_goals (simp_all [inM]; try omega)
theorem abs_ev (n : Int) (h : inM n = true) : Ev E 70 [.int n] (.d (.int (n.natAbs : Int))) := by
  have hb := (inM_iff n).1 h
  refine enter1 Tryd.func70 Tryd.ntmps70 rfl rfl fun w0 F0 => ?_
  repeat' (first | (refine qS rfl ?_ ?_; (first | exact True.intro | rfl | assumption | omega | (simp only [inR]; omega) | ((show _ ≤ (9223372036854775807 : Nat)); (try simp only [ByteArray.size_append]); omega) | exact tmod_ok (by omega) (by omega) | exact tdiv_ok (by omega) (by omega) | exact ⟨rfl, by decide, by decide⟩)) | refine qA ?_ | refine qB rfl ?_ | refine qC (by kernel_rfl) ?_ | refine qD ?_ | refine qE ?_ | refine qF ?_ | refine qG ?_ | refine qH rfl ?_ | (refine qT rfl ?_ ?_; (first | rfl | assumption)) | (refine qU rfl ?_ ?_; (first | rfl | assumption)) | refine qL rfl rfl ?_ | refine qM rfl rfl rfl ?_ | refine qO rfl rfl rfl ?_ | refine qX (b' := true) rfl rfl rfl rfl (by assumption) ?_ | refine qX (b' := false) rfl rfl rfl rfl (by assumption) ?_ | (refine qY rfl rfl rfl rfl ?_ ?_ <;> intro _) | (refine qV rfl ?_ ?_ <;> intro _) | exact (rfl : (_ : D) = _) | exact (rfl : (_ : List D) = _))
  all_goals (simp only [cond_true]; congr 3; omega)
theorem tmod_facts {x y : Int} (hx : 0 ≤ x) (hy : 0 < y) : x.tmod y = x % y ∧ 0 ≤ x % y ∧ x % y < y := ⟨Int.tmod_eq_emod_of_nonneg hx, Int.emod_nonneg x (by omega), Int.emod_lt_of_pos x hy⟩
theorem gcd_step {x y : Int} (hx : 0 ≤ x) (hy : 0 ≤ y) : Int.gcd y (x % y) = Int.gcd x y := by
  obtain ⟨a, rfl⟩ := Int.eq_ofNat_of_zero_le hx
  obtain ⟨b, rfl⟩ := Int.eq_ofNat_of_zero_le hy
  have e : ((a : Int) % (b : Int)) = ((a % b : Nat) : Int) := by omega
  rw [e]
  simp only [Int.gcd, Int.natAbs_natCast]
  rw [Nat.gcd_comm b, ← Nat.gcd_rec, Nat.gcd_comm]
/-- The state of Euclid's loop. -/
structure GS (g : Nat) where
  x : Int
  y : Int
  hx : 0 ≤ x
  hy : 0 ≤ y
  bx : x ≤ 9223372036854775807
  by_ : y ≤ 9223372036854775807
  hg : Int.gcd x y = g
theorem gcd_ev (a b : Int) : Ev E 56 [.int a, .int b] (.d (.int (gcdF a b))) := by
  cases ha : inM a with
  | false =>
    have ia : Ev E 42 [.int a] (.d (.bool false)) := ha ▸ in_ev a
    refine enter2 Tryd.func56 Tryd.ntmps56 rfl rfl fun w0 F0 => ?_
    repeat' (first | (refine qS rfl ?_ ?_; (first | exact True.intro | rfl | assumption | omega | (simp only [inR]; omega) | ((show _ ≤ (9223372036854775807 : Nat)); (try simp only [ByteArray.size_append]); omega) | exact tmod_ok (by omega) (by omega) | exact tdiv_ok (by omega) (by omega) | exact ⟨rfl, by decide, by decide⟩)) | refine qA ?_ | refine qB rfl ?_ | refine qC (by kernel_rfl) ?_ | refine qD ?_ | refine qE ?_ | refine qF ?_ | refine qG ?_ | refine qH rfl ?_ | refine qP rfl rfl rfl rfl rfl rfl b42 (ia) ?_ | (refine qT rfl ?_ ?_; (first | rfl | assumption)) | (refine qU rfl ?_ ?_; (first | rfl | assumption)) | refine qL rfl rfl ?_ | refine qM rfl rfl rfl ?_ | refine qO rfl rfl rfl ?_ | refine qX (b' := true) rfl rfl rfl rfl (by assumption) ?_ | refine qX (b' := false) rfl rfl rfl rfl (by assumption) ?_ | (refine qY rfl rfl rfl rfl ?_ ?_ <;> intro _) | exact (rfl : (_ : D) = _) | exact (rfl : (_ : List D) = _))
    simp [gcdF, ha]
  | true =>
    have ia : Ev E 42 [.int a] (.d (.bool true)) := ha ▸ in_ev a
    cases hb : inM b with
    | false =>
      have ib : Ev E 42 [.int b] (.d (.bool false)) := hb ▸ in_ev b
      refine enter2 Tryd.func56 Tryd.ntmps56 rfl rfl fun w0 F0 => ?_
      repeat' (first | (refine qS rfl ?_ ?_; (first | exact True.intro | rfl | assumption | omega | (simp only [inR]; omega) | ((show _ ≤ (9223372036854775807 : Nat)); (try simp only [ByteArray.size_append]); omega) | exact tmod_ok (by omega) (by omega) | exact tdiv_ok (by omega) (by omega) | exact ⟨rfl, by decide, by decide⟩)) | refine qA ?_ | refine qB rfl ?_ | refine qC (by kernel_rfl) ?_ | refine qD ?_ | refine qE ?_ | refine qF ?_ | refine qG ?_ | refine qH rfl ?_ | refine qP rfl rfl rfl rfl rfl rfl b42 (ia) ?_ | refine qP rfl rfl rfl rfl rfl rfl b42 (ib) ?_ | (refine qT rfl ?_ ?_; (first | rfl | assumption)) | (refine qU rfl ?_ ?_; (first | rfl | assumption)) | refine qL rfl rfl ?_ | refine qM rfl rfl rfl ?_ | refine qO rfl rfl rfl ?_ | refine qX (b' := true) rfl rfl rfl rfl (by assumption) ?_ | refine qX (b' := false) rfl rfl rfl rfl (by assumption) ?_ | (refine qY rfl rfl rfl rfl ?_ ?_ <;> intro _) | exact (rfl : (_ : D) = _) | exact (rfl : (_ : List D) = _))
      simp [gcdF, ha, hb]
    | true =>
      have ib : Ev E 42 [.int b] (.d (.bool true)) := hb ▸ in_ev b
      have ba := (inM_iff a).1 ha
      have bb := (inM_iff b).1 hb
      refine enter2 Tryd.func56 Tryd.ntmps56 rfl rfl fun w0 F0 => ?_
      repeat' (first | (refine qS rfl ?_ ?_; (first | exact True.intro | rfl | assumption | omega | (simp only [inR]; omega) | ((show _ ≤ (9223372036854775807 : Nat)); (try simp only [ByteArray.size_append]); omega) | exact tmod_ok (by omega) (by omega) | exact tdiv_ok (by omega) (by omega) | exact ⟨rfl, by decide, by decide⟩)) | refine qA ?_ | refine qB rfl ?_ | refine qC (by kernel_rfl) ?_ | refine qD ?_ | refine qE ?_ | refine qF ?_ | refine qG ?_ | refine qH rfl ?_ | refine qP rfl rfl rfl rfl rfl rfl b42 (ia) ?_ | refine qP rfl rfl rfl rfl rfl rfl b42 (ib) ?_ | refine qP rfl rfl rfl rfl rfl rfl b70 (abs_ev a ha) ?_ | refine qP rfl rfl rfl rfl rfl rfl b70 (abs_ev b hb) ?_ | (refine qT rfl ?_ ?_; (first | rfl | assumption)) | (refine qU rfl ?_ ?_; (first | rfl | assumption)) | refine qL rfl rfl ?_ | refine qM rfl rfl rfl ?_ | refine qO rfl rfl rfl ?_ | refine qX (b' := true) rfl rfl rfl rfl (by assumption) ?_ | refine qX (b' := false) rfl rfl rfl rfl (by assumption) ?_ | (refine qY rfl rfl rfl rfl ?_ ?_ <;> intro _) | exact (rfl : (_ : D) = _) | exact (rfl : (_ : List D) = _))
      refine go_loop_ (α := GS (Int.gcd a b)) (fun p => ⟨[(0, .d (.int p.x)), (1, .d (.int p.y))], []⟩) (fun p => p.y.toNat) ⟨a.natAbs, b.natAbs, by omega, by omega, by omega, by omega, by simp [Int.gcd]⟩ ((Le.of' 0 rfl (by repeat (first | exact trivial | refine ⟨⟨rfl, rfl⟩, ?_⟩)) (by repeat (first | exact trivial | refine ⟨rfl, ?_⟩)))) ?_
      rintro ⟨x, y, hx, hy, bx, by_, hg⟩
      dsimp only
      by_cases hlt : y = 0
      · subst hlt
        repeat' (first | (refine qS rfl ?_ ?_; (first | exact True.intro | rfl | assumption | omega | (simp only [inR]; omega) | ((show _ ≤ (9223372036854775807 : Nat)); (try simp only [ByteArray.size_append]); omega) | exact tmod_ok (by omega) (by omega) | exact tdiv_ok (by omega) (by omega) | exact ⟨rfl, by decide, by decide⟩)) | refine qA ?_ | refine qB rfl ?_ | refine qC (by kernel_rfl) ?_ | refine qD ?_ | refine qE ?_ | refine qF ?_ | refine qG ?_ | refine qH rfl ?_ | (refine qT rfl ?_ ?_; (first | rfl | assumption)) | (refine qU rfl ?_ ?_; (first | rfl | assumption)) | refine qL rfl rfl ?_ | refine qM rfl rfl rfl ?_ | refine qO rfl rfl rfl ?_ | refine qX (b' := true) rfl rfl rfl rfl (by assumption) ?_ | refine qX (b' := false) rfl rfl rfl rfl (by assumption) ?_ | (refine qY rfl rfl rfl rfl ?_ ?_ <;> intro _) | exact (rfl : (_ : D) = _) | exact (rfl : (_ : List D) = _))
        simp only [gcdF, ha, hb, Bool.and_self, cond_true]
        rw [← hg, Int.gcd_zero_right]
        congr 3
        omega
      · have hd : (y != 0) = true := by simpa using hlt
        obtain ⟨e1, e2, e3⟩ := tmod_facts hx (show 0 < y by omega)
        repeat' (first | (refine qS rfl ?_ ?_; (first | exact True.intro | rfl | assumption | omega | (simp only [inR]; omega) | ((show _ ≤ (9223372036854775807 : Nat)); (try simp only [ByteArray.size_append]); omega) | exact tmod_ok (by omega) (by omega) | exact tdiv_ok (by omega) (by omega) | exact ⟨rfl, by decide, by decide⟩)) | refine qA ?_ | refine qB rfl ?_ | refine qC (by kernel_rfl) ?_ | refine qD ?_ | refine qE ?_ | refine qF ?_ | refine qG ?_ | refine qH rfl ?_ | refine go_v rfl rfl rfl rfl ⟨by omega, by rw [e1]; simp only [inR]; omega⟩ ?_ | (refine qT rfl ?_ ?_; (first | rfl | assumption)) | (refine qU rfl ?_ ?_; (first | rfl | assumption)) | refine qL rfl rfl ?_ | refine qM rfl rfl rfl ?_ | refine qO rfl rfl rfl ?_ | refine qX (b' := true) rfl rfl rfl rfl (by assumption) ?_ | refine qX (b' := false) rfl rfl rfl rfl (by assumption) ?_ | (refine qY rfl rfl rfl rfl ?_ ?_ <;> intro _) | exact (rfl : (_ : D) = _) | exact (rfl : (_ : List D) = _))
        refine go_stop ?_
        refine ⟨⟨y, x % y, hy, e2, by_, by omega, by rw [gcd_step hx hy]; exact hg⟩, by dsimp only; omega, ?_⟩
        dsimp only
        rw [← e1]
        exact (Le.of' 0 rfl (by repeat (first | exact trivial | refine ⟨⟨rfl, rfl⟩, ?_⟩)) (by repeat (first | exact trivial | refine ⟨rfl, ?_⟩)))

/-- Fractions: what Valid of the program asks. -/
theorem fvalid_ev (n d : Int) : Ev E 43 [.agg [.int n, .int d]] (.d (.bool (fval n d))) := by
  have hg := gcd_ev n d
  cases hn : inM n with
  | false =>
    have i1 : Ev E 42 [.int n] (.d (.bool false)) := hn ▸ in_ev n
    refine enter1 Tryd.func43 Tryd.ntmps43 rfl rfl fun w0 F0 => ?_
    repeat' (first | (refine qS rfl ?_ ?_; (first | exact True.intro | rfl | assumption | omega | (simp only [inR]; omega) | ((show _ ≤ (9223372036854775807 : Nat)); (try simp only [ByteArray.size_append]); omega) | exact tmod_ok (by omega) (by omega) | exact tdiv_ok (by omega) (by omega) | exact ⟨rfl, by decide, by decide⟩)) | refine qA ?_ | refine qB rfl ?_ | refine qC (by kernel_rfl) ?_ | refine qD ?_ | refine qE ?_ | refine qF ?_ | refine qG ?_ | refine qH rfl ?_ | refine qP rfl rfl rfl rfl rfl rfl b42 (i1) ?_ | (refine qT rfl ?_ ?_; (first | rfl | assumption)) | (refine qU rfl ?_ ?_; (first | rfl | assumption)) | refine qL rfl rfl ?_ | refine qM rfl rfl rfl ?_ | refine qO rfl rfl rfl ?_ | refine qX (b' := true) rfl rfl rfl rfl (by assumption) ?_ | refine qX (b' := false) rfl rfl rfl rfl (by assumption) ?_ | (refine qY rfl rfl rfl rfl ?_ ?_ <;> intro _) | exact (rfl : (_ : D) = _) | exact (rfl : (_ : List D) = _))
    all_goals (refine congrArg D.bool ?_; clear i1 hg; simp_all [fval])
  | true =>
    have i1 : Ev E 42 [.int n] (.d (.bool true)) := hn ▸ in_ev n
    refine enter1 Tryd.func43 Tryd.ntmps43 rfl rfl fun w0 F0 => ?_
    repeat' (first | (refine qS rfl ?_ ?_; (first | exact True.intro | rfl | assumption | omega | (simp only [inR]; omega) | ((show _ ≤ (9223372036854775807 : Nat)); (try simp only [ByteArray.size_append]); omega) | exact tmod_ok (by omega) (by omega) | exact tdiv_ok (by omega) (by omega) | exact ⟨rfl, by decide, by decide⟩)) | refine qA ?_ | refine qB rfl ?_ | refine qC (by kernel_rfl) ?_ | refine qD ?_ | refine qE ?_ | refine qF ?_ | refine qG ?_ | refine qH rfl ?_ | refine qP rfl rfl rfl rfl rfl rfl b42 (i1) ?_ | refine qP rfl rfl rfl rfl rfl rfl b56 (hg) ?_ | (refine qT rfl ?_ ?_; (first | rfl | assumption)) | (refine qU rfl ?_ ?_; (first | rfl | assumption)) | refine qL rfl rfl ?_ | refine qM rfl rfl rfl ?_ | refine qO rfl rfl rfl ?_ | refine qX (b' := true) rfl rfl rfl rfl (by assumption) ?_ | refine qX (b' := false) rfl rfl rfl rfl (by assumption) ?_ | (refine qY rfl rfl rfl rfl ?_ ?_ <;> intro _) | exact (rfl : (_ : D) = _) | exact (rfl : (_ : List D) = _))
    all_goals (refine congrArg D.bool ?_; clear i1 hg; simp_all [fval, gcdF]; try omega)
    rw [(inM_iff d).2 (by omega)]
    rfl
end Go.Proofs.YtpjnngfjbcjikaaDoor
