/- The program's wide numbers and its comparison of fractions. Conditions: the bounds of each lemma. -/
import Derived.Test.YtpjnngfjbcjikaaDoorM17
import Derived.Test.YtpjnngfjbcjikaaDoorEng15
import Derived.Shelf.Spec.BitsCarry
namespace Go.Proofs.YtpjnngfjbcjikaaDoor
open Go Go.Abs Go.Val
attribute [local irreducible] go SGo HasBody Ev ExtEv

theorem fsize_ev (n : Int) : Ev E 66 [.int n] (.d (.imm (.int .u64 (n.natAbs : Int)))) := Ev.fit fun hfit => by
  have hn := (hfit (.int n) (by simp)).int
  simp only [inR] at hn
  by_cases h : n < 0
  · have g1 : decide (n < 0) = true := by simpa using h
    have w1 : IntKind.u64.wrap n = n + 18446744073709551616 := by simp [IntKind.wrap, IntKind.signed, IntKind.bits]; omega
    have w2 : IntKind.u64.wrap (0 - (n + 18446744073709551616)) = n.natAbs := by simp [IntKind.wrap, IntKind.signed, IntKind.bits]; omega
    refine enter1 Tryd.func66 Tryd.ntmps66 rfl rfl fun w0 F0 => ?_
    repeat' (first | (refine qS rfl ?_ ?_; (first | exact True.intro | rfl | assumption | omega | (simp only [inR]; omega) | ((show _ ≤ (9223372036854775807 : Nat)); (try simp only [ByteArray.size_append]); omega) | exact tmod_ok (by omega) (by omega) | exact tdiv_ok (by omega) (by omega) | exact ⟨rfl, by decide, by decide⟩)) | refine qA ?_ | refine qB rfl ?_ | refine qC (by kernel_rfl) ?_ | refine qD ?_ | refine qE ?_ | refine qF ?_ | refine qG ?_ | refine qH rfl ?_ | (refine go_convW _ rfl rfl rfl rfl rfl rfl rfl w1 ?_) | (refine go_negW _ rfl rfl rfl rfl rfl w2 ?_) | (refine qT rfl ?_ ?_; (first | rfl | assumption)) | (refine qU rfl ?_ ?_; (first | rfl | assumption)) | refine qL rfl rfl ?_ | refine qM rfl rfl rfl ?_ | refine qO rfl rfl rfl ?_ | refine qX (b' := true) rfl rfl rfl rfl (by assumption) ?_ | refine qX (b' := false) rfl rfl rfl rfl (by assumption) ?_ | (refine qY rfl rfl rfl rfl ?_ ?_ <;> intro _) | exact (rfl : (_ : D) = _) | exact (rfl : (_ : List D) = _))
  · have g1 : decide (n < 0) = false := by simpa using h
    have e : (n.natAbs : Int) = n := by omega
    rw [e]
    refine enter1 Tryd.func66 Tryd.ntmps66 rfl rfl fun w0 F0 => ?_
    repeat' (first | (refine qS rfl ?_ ?_; (first | exact True.intro | rfl | assumption | omega | (simp only [inR]; omega) | ((show _ ≤ (9223372036854775807 : Nat)); (try simp only [ByteArray.size_append]); omega) | exact tmod_ok (by omega) (by omega) | exact tdiv_ok (by omega) (by omega) | exact ⟨rfl, by decide, by decide⟩)) | refine qA ?_ | refine qB rfl ?_ | refine qC (by kernel_rfl) ?_ | refine qD ?_ | refine qE ?_ | refine qF ?_ | refine qG ?_ | refine qH rfl ?_ | (refine qT rfl ?_ ?_; (first | rfl | assumption)) | (refine qU rfl ?_ ?_; (first | rfl | assumption)) | refine qL rfl rfl ?_ | refine qM rfl rfl rfl ?_ | refine qO rfl rfl rfl ?_ | refine qX (b' := true) rfl rfl rfl rfl (by assumption) ?_ | refine qX (b' := false) rfl rfl rfl rfl (by assumption) ?_ | (refine qY rfl rfl rfl rfl ?_ ?_ <;> intro _) | exact (rfl : (_ : D) = _) | exact (rfl : (_ : List D) = _))
/-- A wide number as data: its sign and its magnitude. -/
def wideD (neg : Bool) (m : Nat) : D := .agg [.imm (.bool neg), .imm (.int .u64 ((m / 18446744073709551616 : Nat) : Int)), .imm (.int .u64 ((m % 18446744073709551616 : Nat) : Int))]
def sv (neg : Bool) (m : Nat) : Int := bif neg then -(m : Int) else m
theorem mul64_ev (x y : Nat) (hx : x < 18446744073709551616) (hy : y < 18446744073709551616) : Ev E 65 [.imm (.int .u64 (x : Int)), .imm (.int .u64 (y : Int))] (.tup [.imm (.int .u64 ((x * y / 18446744073709551616 : Nat) : Int)), .imm (.int .u64 ((x * y % 18446744073709551616 : Nat) : Int))]) := by
  refine Ev.mk fun w F vs hF hG hl hr => ?_
  match vs, hl with
  | [v, u], _ =>
    obtain ⟨rfl, -⟩ := Rd.imm_inv (hr 0 _ v rfl rfl)
    obtain ⟨rfl, -⟩ := Rd.imm_inv (hr 1 _ u rfl rfl)
    refine (Tryd.bits_Mul64 x y hx hy w).mono ?_
    rintro e w' ⟨rfl, rfl⟩
    refine ⟨_, F, rfl, Ext.refl hF, [_, _], rfl, rfl, fun i d v hd hv => ?_⟩
    have hq : x * y / 18446744073709551616 < 18446744073709551616 := by
      have : x * y < 18446744073709551616 * 18446744073709551616 := Nat.mul_lt_mul_of_lt_of_le hx (Nat.le_of_lt hy) (by omega)
      exact Nat.div_lt_of_lt_mul this
    have hm : x * y % 18446744073709551616 < 18446744073709551616 := Nat.mod_lt _ (by omega)
    match i with
    | 0 => simp at hd hv; subst hd hv; exact Rd.imm _ (inR_ok (k := .u64) (by simp only [inR]; omega))
    | 1 => simp at hd hv; subst hd hv; exact Rd.imm _ (inR_ok (k := .u64) (by simp only [inR]; omega))
    | i + 2 => simp at hd
theorem product_ev (a b : Int) : Ev E 52 [.int a, .int b] (.d (wideD (!(decide (a < 0) == decide (b < 0))) (a.natAbs * b.natAbs))) := Ev.fit fun hfit => by
  have ha := (hfit (.int a) (by simp)).int
  have hb := (hfit (.int b) (by simp)).int
  simp only [inR] at ha hb
  have h1 := fsize_ev a
  have h2 := fsize_ev b
  have h3 := mul64_ev a.natAbs b.natAbs (by omega) (by omega)
  refine enter2 Tryd.func52 Tryd.ntmps52 rfl rfl fun w0 F0 => ?_
  repeat' (first | (refine qS rfl ?_ ?_; (first | exact True.intro | rfl | assumption | omega | (simp only [inR]; omega) | ((show _ ≤ (9223372036854775807 : Nat)); (try simp only [ByteArray.size_append]); omega) | exact tmod_ok (by omega) (by omega) | exact tdiv_ok (by omega) (by omega) | exact ⟨rfl, by decide, by decide⟩)) | refine qA ?_ | refine qB rfl ?_ | refine qC (by kernel_rfl) ?_ | refine qD ?_ | refine qE ?_ | refine qF ?_ | refine qG ?_ | refine qH rfl ?_ | refine qP rfl rfl rfl rfl rfl rfl b66 (h1) ?_ | refine qP rfl rfl rfl rfl rfl rfl b66 (h2) ?_ | refine qP rfl rfl rfl rfl rfl rfl b65 (h3) ?_ | (refine qT rfl ?_ ?_; (first | rfl | assumption)) | (refine qU rfl ?_ ?_; (first | rfl | assumption)) | refine qL rfl rfl ?_ | refine qM rfl rfl rfl ?_ | refine qO rfl rfl rfl ?_ | refine qX (b' := true) rfl rfl rfl rfl (by assumption) ?_ | refine qX (b' := false) rfl rfl rfl rfl (by assumption) ?_ | (refine qY rfl rfl rfl rfl ?_ ?_ <;> intro _) | exact (rfl : (_ : D) = _) | exact (rfl : (_ : List D) = _))
theorem wless_ev (p q : Bool) (m n : Nat) : Ev E 68 [wideD p m, wideD q n] (.d (.bool (decide (m < n)))) := by
  have e1 : decide (((m / 18446744073709551616 : Nat) : Int) < ((n / 18446744073709551616 : Nat) : Int)) = decide (m / 18446744073709551616 < n / 18446744073709551616) := by simp only [decide_eq_decide]; omega
  rcases Nat.lt_trichotomy (m / 18446744073709551616) (n / 18446744073709551616) with h | h | h
  · have g1 : decide (((m / 18446744073709551616 : Nat) : Int) < ((n / 18446744073709551616 : Nat) : Int)) = true := by simp only [decide_eq_true_eq]; omega
    have g3 : decide (m < n) = true := by simp only [decide_eq_true_eq]; omega
    rw [g3]
    refine enter2 Tryd.func68 Tryd.ntmps68 rfl rfl fun w0 F0 => ?_
    repeat' (first | (refine qS rfl ?_ ?_; (first | exact True.intro | rfl | assumption | omega | (simp only [inR]; omega) | ((show _ ≤ (9223372036854775807 : Nat)); (try simp only [ByteArray.size_append]); omega) | exact tmod_ok (by omega) (by omega) | exact tdiv_ok (by omega) (by omega) | exact ⟨rfl, by decide, by decide⟩)) | refine qA ?_ | refine qB rfl ?_ | refine qC (by kernel_rfl) ?_ | refine qD ?_ | refine qE ?_ | refine qF ?_ | refine qG ?_ | refine qH rfl ?_ | (refine qT rfl ?_ ?_; (first | rfl | assumption)) | (refine qU rfl ?_ ?_; (first | rfl | assumption)) | refine qL rfl rfl ?_ | refine qM rfl rfl rfl ?_ | refine qO rfl rfl rfl ?_ | refine qX (b' := true) rfl rfl rfl rfl (by assumption) ?_ | refine qX (b' := false) rfl rfl rfl rfl (by assumption) ?_ | (refine qY rfl rfl rfl rfl ?_ ?_ <;> intro _) | exact (rfl : (_ : D) = _) | exact (rfl : (_ : List D) = _))
  · have g1 : decide (((m / 18446744073709551616 : Nat) : Int) < ((n / 18446744073709551616 : Nat) : Int)) = false := by simp only [decide_eq_false_iff_not]; omega
    have g2 : (((m / 18446744073709551616 : Nat) : Int) == ((n / 18446744073709551616 : Nat) : Int)) = true := by simp only [beq_iff_eq]; omega
    have g3 : decide (m < n) = decide (((m % 18446744073709551616 : Nat) : Int) < ((n % 18446744073709551616 : Nat) : Int)) := by simp only [decide_eq_decide]; omega
    rw [g3]
    refine enter2 Tryd.func68 Tryd.ntmps68 rfl rfl fun w0 F0 => ?_
    repeat' (first | (refine qS rfl ?_ ?_; (first | exact True.intro | rfl | assumption | omega | (simp only [inR]; omega) | ((show _ ≤ (9223372036854775807 : Nat)); (try simp only [ByteArray.size_append]); omega) | exact tmod_ok (by omega) (by omega) | exact tdiv_ok (by omega) (by omega) | exact ⟨rfl, by decide, by decide⟩)) | refine qA ?_ | refine qB rfl ?_ | refine qC (by kernel_rfl) ?_ | refine qD ?_ | refine qE ?_ | refine qF ?_ | refine qG ?_ | refine qH rfl ?_ | (refine qT rfl ?_ ?_; (first | rfl | assumption)) | (refine qU rfl ?_ ?_; (first | rfl | assumption)) | refine qL rfl rfl ?_ | refine qM rfl rfl rfl ?_ | refine qO rfl rfl rfl ?_ | refine qX (b' := true) rfl rfl rfl rfl (by assumption) ?_ | refine qX (b' := false) rfl rfl rfl rfl (by assumption) ?_ | (refine qY rfl rfl rfl rfl ?_ ?_ <;> intro _) | exact (rfl : (_ : D) = _) | exact (rfl : (_ : List D) = _))
  · have g1 : decide (((m / 18446744073709551616 : Nat) : Int) < ((n / 18446744073709551616 : Nat) : Int)) = false := by simp only [decide_eq_false_iff_not]; omega
    have g2 : (((m / 18446744073709551616 : Nat) : Int) == ((n / 18446744073709551616 : Nat) : Int)) = false := by simp only [beq_eq_false_iff_ne]; omega
    have g3 : decide (m < n) = false := by simp only [decide_eq_false_iff_not]; omega
    rw [g3]
    refine enter2 Tryd.func68 Tryd.ntmps68 rfl rfl fun w0 F0 => ?_
    repeat' (first | (refine qS rfl ?_ ?_; (first | exact True.intro | rfl | assumption | omega | (simp only [inR]; omega) | ((show _ ≤ (9223372036854775807 : Nat)); (try simp only [ByteArray.size_append]); omega) | exact tmod_ok (by omega) (by omega) | exact tdiv_ok (by omega) (by omega) | exact ⟨rfl, by decide, by decide⟩)) | refine qA ?_ | refine qB rfl ?_ | refine qC (by kernel_rfl) ?_ | refine qD ?_ | refine qE ?_ | refine qF ?_ | refine qG ?_ | refine qH rfl ?_ | (refine qT rfl ?_ ?_; (first | rfl | assumption)) | (refine qU rfl ?_ ?_; (first | rfl | assumption)) | refine qL rfl rfl ?_ | refine qM rfl rfl rfl ?_ | refine qO rfl rfl rfl ?_ | refine qX (b' := true) rfl rfl rfl rfl (by assumption) ?_ | refine qX (b' := false) rfl rfl rfl rfl (by assumption) ?_ | (refine qY rfl rfl rfl rfl ?_ ?_ <;> intro _) | exact (rfl : (_ : D) = _) | exact (rfl : (_ : List D) = _))
theorem add64_run (x y c : Nat) (hc : c ≤ 1) (w : World) : (callFunc 67 [Value.int .u64 (x : Int), .int .u64 (y : Int), .int .u64 (c : Int)].toArray).run E.P w =
    .ok (.value (.tuple #[.int .u64 (((x + y + c) % 18446744073709551616 : Nat) : Int), .int .u64 (((x + y + c) / 18446744073709551616 : Nat) : Int)])) w := by
  have := run_callFunc_extern Tryd.func67 (by kernel_rfl) (by kernel_rfl) (by kernel_rfl) (e := add64Entry) (by kernel_rfl) #[.int .u64 (x : Int), .int .u64 (y : Int), .int .u64 (c : Int)] w
  refine this.trans ?_
  rw [run_add64 x y c (by omega) (by omega) (by omega) (by omega)]
  simp only [Result.andThen]
  congr 5 <;> omega
theorem sub64_run (x y b : Nat) (hb : b ≤ 1) (w : World) : (callFunc 69 [Value.int .u64 (x : Int), .int .u64 (y : Int), .int .u64 (b : Int)].toArray).run E.P w =
    .ok (.value (.tuple #[.int .u64 (((x + 18446744073709551616 - y - b) % 18446744073709551616 : Nat) : Int), .int .u64 ((if x < y + b then 1 else 0 : Nat) : Int)])) w := by
  have := run_callFunc_extern Tryd.func69 (by kernel_rfl) (by kernel_rfl) (by kernel_rfl) (e := sub64Entry) (by kernel_rfl) #[.int .u64 (x : Int), .int .u64 (y : Int), .int .u64 (b : Int)] w
  refine this.trans ?_
  rw [run_sub64 x y b hb]
  rfl
theorem pair_rd {a b : Nat} (ha : a < 18446744073709551616) (hb : b < 18446744073709551616) (w : World) (F : Nat → Prop) : RdX w F [] (.tup [.imm (.int .u64 (a : Int)), .imm (.int .u64 (b : Int))]) (.tuple #[.int .u64 (a : Int), .int .u64 (b : Int)]) := by
  refine ⟨[_, _], rfl, rfl, fun i d v hd hv => ?_⟩
  match i with
  | 0 => simp at hd hv; subst hd hv; exact Rd.imm _ (inR_ok (k := .u64) (by simp only [inR]; omega))
  | 1 => simp at hd hv; subst hd hv; exact Rd.imm _ (inR_ok (k := .u64) (by simp only [inR]; omega))
  | i + 2 => simp at hd
/-- The sum, as the program computes it. -/
def wsum (p q : Bool) (m n : Nat) : Bool × Nat := bif p == q then (p, m + n) else (bif decide (m < n) then (q, n - m) else (p, m - n))
theorem wsum_sv (p q : Bool) (m n : Nat) : sv (wsum p q m n).1 (wsum p q m n).2 = sv p m + sv q n := by
  cases p <;> cases q <;> (simp only [wsum, sv]; cases h : decide (m < n) <;> simp at h <;> simp <;> omega)
theorem wsum_le (p q : Bool) (m n : Nat) : (wsum p q m n).2 ≤ m + n := by
  unfold wsum
  cases p == q <;> cases decide (m < n) <;> simp <;> omega
theorem wplus_ev (p q : Bool) (m n : Nat) (hm : m ≤ 1000000000000000000000000000000) (hn : n ≤ 1000000000000000000000000000000) : Ev E 53 [wideD p m, wideD q n] (.d (wideD (wsum p q m n).1 (wsum p q m n).2)) := by
  cases hpq : p == q with
  | true =>
    have e : wsum p q m n = (p, m + n) := by unfold wsum; rw [hpq]; rfl
    rw [e]
    have a1 := add64_run (m % 18446744073709551616) (n % 18446744073709551616) 0 (by omega)
    have a2 := add64_run (m / 18446744073709551616) (n / 18446744073709551616) ((m % 18446744073709551616 + n % 18446744073709551616 + 0) / 18446744073709551616) (by omega)
    have r1 := pair_rd (a := (m % 18446744073709551616 + n % 18446744073709551616 + 0) % 18446744073709551616) (b := (m % 18446744073709551616 + n % 18446744073709551616 + 0) / 18446744073709551616) (by omega) (by omega)
    have r2 := pair_rd (a := (m / 18446744073709551616 + n / 18446744073709551616 + (m % 18446744073709551616 + n % 18446744073709551616 + 0) / 18446744073709551616) % 18446744073709551616) (b := (m / 18446744073709551616 + n / 18446744073709551616 + (m % 18446744073709551616 + n % 18446744073709551616 + 0) / 18446744073709551616) / 18446744073709551616) (by omega) (by omega)
    have d1 : (m / 18446744073709551616 + n / 18446744073709551616 + (m % 18446744073709551616 + n % 18446744073709551616 + 0) / 18446744073709551616) % 18446744073709551616 = (m + n) / 18446744073709551616 := by omega
    have d2 : (m % 18446744073709551616 + n % 18446744073709551616 + 0) % 18446744073709551616 = (m + n) % 18446744073709551616 := by omega
    unfold wideD
    rw [← d1, ← d2]
    clear d1 d2 e
    replace a1 := ExtEv.mk a1 r1
    replace a2 := ExtEv.mk a2 r2
    clear r1 r2
    generalize m / 18446744073709551616 = mh at *
    generalize m % 18446744073709551616 = ml at *
    generalize n / 18446744073709551616 = nh at *
    generalize n % 18446744073709551616 = nl at *
    generalize (ml + nl + 0) % 18446744073709551616 = lo at *
    generalize (ml + nl + 0) / 18446744073709551616 = c1 at *
    generalize (mh + nh + c1) % 18446744073709551616 = hi at *
    generalize (mh + nh + c1) / 18446744073709551616 = c2 at *
    refine enter2 Tryd.func53 Tryd.ntmps53 rfl rfl fun w0 F0 => ?_
    repeat' (first | (refine qS rfl ?_ ?_; (first | exact True.intro | rfl | assumption | omega | (simp only [inR]; omega) | ((show _ ≤ (9223372036854775807 : Nat)); (try simp only [ByteArray.size_append]); omega) | exact tmod_ok (by omega) (by omega) | exact tdiv_ok (by omega) (by omega) | exact ⟨rfl, by decide, by decide⟩)) | refine qA ?_ | refine qB rfl ?_ | refine qC (by kernel_rfl) ?_ | refine qD ?_ | refine qE ?_ | refine qF ?_ | refine qG ?_ | refine qH rfl ?_ | refine go_callV rfl rfl rfl rfl rfl a1 rfl ?_ | refine go_callV rfl rfl rfl rfl rfl a2 rfl ?_ | (refine qT rfl ?_ ?_; (first | rfl | assumption)) | (refine qU rfl ?_ ?_; (first | rfl | assumption)) | refine qL rfl rfl ?_ | refine qM rfl rfl rfl ?_ | refine qO rfl rfl rfl ?_ | refine qX (b' := true) rfl rfl rfl rfl (by assumption) ?_ | refine qX (b' := false) rfl rfl rfl rfl (by assumption) ?_ | (refine qY rfl rfl rfl rfl ?_ ?_ <;> intro _) | exact (rfl : (_ : D) = _) | exact (rfl : (_ : List D) = _))
  | false =>
    have hl := wless_ev p q m n
    have key : ∀ (p' q' : Bool) (m' n' : Nat), n' ≤ m' → m' ≤ 1000000000000000000000000000000 → True := fun _ _ _ _ _ _ => trivial
    cases hlt : decide (m < n) with
    | true =>
      have e : wsum p q m n = (q, n - m) := by unfold wsum; rw [hpq, hlt]; rfl
      rw [e]
      rw [hlt] at hl
      have hmn : m < n := of_decide_eq_true hlt
      have a1 := sub64_run (n % 18446744073709551616) (m % 18446744073709551616) 0 (by omega)
      have a2 := sub64_run (n / 18446744073709551616) (m / 18446744073709551616) (if n % 18446744073709551616 < m % 18446744073709551616 + 0 then 1 else 0) (by split <;> omega)
      have r1 := pair_rd (a := (n % 18446744073709551616 + 18446744073709551616 - m % 18446744073709551616 - 0) % 18446744073709551616) (b := if n % 18446744073709551616 < m % 18446744073709551616 + 0 then 1 else 0) (by omega) (by split <;> omega)
      have r2 := pair_rd (a := (n / 18446744073709551616 + 18446744073709551616 - m / 18446744073709551616 - (if n % 18446744073709551616 < m % 18446744073709551616 + 0 then 1 else 0)) % 18446744073709551616) (b := if n / 18446744073709551616 < m / 18446744073709551616 + (if n % 18446744073709551616 < m % 18446744073709551616 + 0 then 1 else 0) then 1 else 0) (by omega) (by split <;> split <;> omega)
      have d1 : (n / 18446744073709551616 + 18446744073709551616 - m / 18446744073709551616 - (if n % 18446744073709551616 < m % 18446744073709551616 + 0 then 1 else 0)) % 18446744073709551616 = (n - m) / 18446744073709551616 := by split <;> omega
      have d2 : (n % 18446744073709551616 + 18446744073709551616 - m % 18446744073709551616 - 0) % 18446744073709551616 = (n - m) % 18446744073709551616 := by omega
      unfold wideD at *
      rw [← d1, ← d2]
      clear d1 d2 e
      replace a1 := ExtEv.mk a1 r1
      replace a2 := ExtEv.mk a2 r2
      clear r1 r2
      generalize m / 18446744073709551616 = mh at *
      generalize m % 18446744073709551616 = ml at *
      generalize n / 18446744073709551616 = nh at *
      generalize n % 18446744073709551616 = nl at *
      generalize (if nl < ml + 0 then 1 else 0 : Nat) = bo at *
      generalize (nl + 18446744073709551616 - ml - 0) % 18446744073709551616 = lo at *
      generalize (nh + 18446744073709551616 - mh - bo) % 18446744073709551616 = hi at *
      generalize (if nh < mh + bo then 1 else 0 : Nat) = c2 at *
      refine enter2 Tryd.func53 Tryd.ntmps53 rfl rfl fun w0 F0 => ?_
      repeat' (first | (refine qS rfl ?_ ?_; (first | exact True.intro | rfl | assumption | omega | (simp only [inR]; omega) | ((show _ ≤ (9223372036854775807 : Nat)); (try simp only [ByteArray.size_append]); omega) | exact tmod_ok (by omega) (by omega) | exact tdiv_ok (by omega) (by omega) | exact ⟨rfl, by decide, by decide⟩)) | refine qA ?_ | refine qB rfl ?_ | refine qC (by kernel_rfl) ?_ | refine qD ?_ | refine qE ?_ | refine qF ?_ | refine qG ?_ | refine qH rfl ?_ | refine qP rfl rfl rfl rfl rfl rfl b68 (hl) ?_ | refine go_callV rfl rfl rfl rfl rfl a1 rfl ?_ | refine go_callV rfl rfl rfl rfl rfl a2 rfl ?_ | (refine qT rfl ?_ ?_; (first | rfl | assumption)) | (refine qU rfl ?_ ?_; (first | rfl | assumption)) | refine qL rfl rfl ?_ | refine qM rfl rfl rfl ?_ | refine qO rfl rfl rfl ?_ | refine qX (b' := true) rfl rfl rfl rfl (by assumption) ?_ | refine qX (b' := false) rfl rfl rfl rfl (by assumption) ?_ | (refine qY rfl rfl rfl rfl ?_ ?_ <;> intro _) | exact (rfl : (_ : D) = _) | exact (rfl : (_ : List D) = _))
    | false =>
      have e : wsum p q m n = (p, m - n) := by unfold wsum; rw [hpq, hlt]; rfl
      rw [e]
      rw [hlt] at hl
      have hmn : ¬ m < n := of_decide_eq_false hlt
      have a1 := sub64_run (m % 18446744073709551616) (n % 18446744073709551616) 0 (by omega)
      have a2 := sub64_run (m / 18446744073709551616) (n / 18446744073709551616) (if m % 18446744073709551616 < n % 18446744073709551616 + 0 then 1 else 0) (by split <;> omega)
      have r1 := pair_rd (a := (m % 18446744073709551616 + 18446744073709551616 - n % 18446744073709551616 - 0) % 18446744073709551616) (b := if m % 18446744073709551616 < n % 18446744073709551616 + 0 then 1 else 0) (by omega) (by split <;> omega)
      have r2 := pair_rd (a := (m / 18446744073709551616 + 18446744073709551616 - n / 18446744073709551616 - (if m % 18446744073709551616 < n % 18446744073709551616 + 0 then 1 else 0)) % 18446744073709551616) (b := if m / 18446744073709551616 < n / 18446744073709551616 + (if m % 18446744073709551616 < n % 18446744073709551616 + 0 then 1 else 0) then 1 else 0) (by omega) (by split <;> split <;> omega)
      have d1 : (m / 18446744073709551616 + 18446744073709551616 - n / 18446744073709551616 - (if m % 18446744073709551616 < n % 18446744073709551616 + 0 then 1 else 0)) % 18446744073709551616 = (m - n) / 18446744073709551616 := by split <;> omega
      have d2 : (m % 18446744073709551616 + 18446744073709551616 - n % 18446744073709551616 - 0) % 18446744073709551616 = (m - n) % 18446744073709551616 := by omega
      unfold wideD at *
      rw [← d1, ← d2]
      clear d1 d2 e
      replace a1 := ExtEv.mk a1 r1
      replace a2 := ExtEv.mk a2 r2
      clear r1 r2
      generalize m / 18446744073709551616 = mh at *
      generalize m % 18446744073709551616 = ml at *
      generalize n / 18446744073709551616 = nh at *
      generalize n % 18446744073709551616 = nl at *
      generalize (if ml < nl + 0 then 1 else 0 : Nat) = bo at *
      generalize (ml + 18446744073709551616 - nl - 0) % 18446744073709551616 = lo at *
      generalize (mh + 18446744073709551616 - nh - bo) % 18446744073709551616 = hi at *
      generalize (if mh < nh + bo then 1 else 0 : Nat) = c2 at *
      refine enter2 Tryd.func53 Tryd.ntmps53 rfl rfl fun w0 F0 => ?_
      repeat' (first | (refine qS rfl ?_ ?_; (first | exact True.intro | rfl | assumption | omega | (simp only [inR]; omega) | ((show _ ≤ (9223372036854775807 : Nat)); (try simp only [ByteArray.size_append]); omega) | exact tmod_ok (by omega) (by omega) | exact tdiv_ok (by omega) (by omega) | exact ⟨rfl, by decide, by decide⟩)) | refine qA ?_ | refine qB rfl ?_ | refine qC (by kernel_rfl) ?_ | refine qD ?_ | refine qE ?_ | refine qF ?_ | refine qG ?_ | refine qH rfl ?_ | refine qP rfl rfl rfl rfl rfl rfl b68 (hl) ?_ | refine go_callV rfl rfl rfl rfl rfl a1 rfl ?_ | refine go_callV rfl rfl rfl rfl rfl a2 rfl ?_ | (refine qT rfl ?_ ?_; (first | rfl | assumption)) | (refine qU rfl ?_ ?_; (first | rfl | assumption)) | refine qL rfl rfl ?_ | refine qM rfl rfl rfl ?_ | refine qO rfl rfl rfl ?_ | refine qX (b' := true) rfl rfl rfl rfl (by assumption) ?_ | refine qX (b' := false) rfl rfl rfl rfl (by assumption) ?_ | (refine qY rfl rfl rfl rfl ?_ ?_ <;> intro _) | exact (rfl : (_ : D) = _) | exact (rfl : (_ : List D) = _))
theorem or_run (t : TypeId) (a b : Nat) (ha : a < 18446744073709551616) (hb : b < 18446744073709551616) (w : World) : (binOp .or t (.int .u64 (a : Int)) (.int .u64 (b : Int))).run E.P w = .ok (.int .u64 ((a ||| b : Nat) : Int)) w := by
  have h1 : BitVec.ofInt 64 (a : Int) = BitVec.ofNat 64 a := by simp
  have h2 : BitVec.ofInt 64 (b : Int) = BitVec.ofNat 64 b := by simp
  have hor : a ||| b < 18446744073709551616 := Nat.or_lt_two_pow (n := 64) ha hb
  have h3 : (BitVec.ofNat 64 a ||| BitVec.ofNat 64 b).toNat = a ||| b := by
    rw [BitVec.toNat_or, BitVec.toNat_ofNat, BitVec.toNat_ofNat, Nat.mod_eq_of_lt ha, Nat.mod_eq_of_lt hb]
  have hw : IntKind.u64.wrap ((a ||| b : Nat) : Int) = ((a ||| b : Nat) : Int) := inR_wrap (k := .u64) (by simp only [inR]; omega)
  show (Op.intBits .or .u64 (a : Int) (b : Int)).run E.P w = _
  simp only [Op.intBits]
  show (pure (Value.int .u64 (IntKind.u64.wrap (BitVec.ofInt 64 (a : Int) ||| BitVec.ofInt 64 (b : Int)).toNat)) : Sem Value).run E.P w = _
  rw [h1, h2, h3, hw]
  rfl
theorem wsign_ev (p : Bool) (m : Nat) (hm : m < 18446744073709551616 * 18446744073709551616) : Ev E 54 [wideD p m] (.d (.int (sgn (sv p m)))) := by
  have hr := or_run 70 (m / 18446744073709551616) (m % 18446744073709551616) (Nat.div_lt_of_lt_mul hm) (Nat.mod_lt _ (by omega))
  have hor : m / 18446744073709551616 ||| m % 18446744073709551616 < 18446744073709551616 := Nat.or_lt_two_pow (n := 64) (Nat.div_lt_of_lt_mul hm) (Nat.mod_lt _ (by omega))
  have hok : Go.Abs.okV (.int .u64 ((m / 18446744073709551616 ||| m % 18446744073709551616 : Nat) : Int)) = true := inR_ok (k := .u64) (by simp only [inR]; omega)
  by_cases h0 : m = 0
  · subst h0
    have e : sgn (sv p 0) = 0 := by cases p <;> rfl
    rw [e]
    refine enter1 Tryd.func54 Tryd.ntmps54 rfl rfl fun w0 F0 => ?_
    repeat' (first | (refine qS rfl ?_ ?_; (first | exact True.intro | rfl | assumption | omega | (simp only [inR]; omega) | ((show _ ≤ (9223372036854775807 : Nat)); (try simp only [ByteArray.size_append]); omega) | exact tmod_ok (by omega) (by omega) | exact tdiv_ok (by omega) (by omega) | exact ⟨rfl, by decide, by decide⟩)) | refine qA ?_ | refine qB rfl ?_ | refine qC (by kernel_rfl) ?_ | refine qD ?_ | refine qE ?_ | refine qF ?_ | refine qG ?_ | refine qH rfl ?_ | (refine go_binW _ rfl rfl rfl rfl rfl rfl hr hok ?_) | (refine qT rfl ?_ ?_; (first | rfl | assumption)) | (refine qU rfl ?_ ?_; (first | rfl | assumption)) | refine qL rfl rfl ?_ | refine qM rfl rfl rfl ?_ | refine qO rfl rfl rfl ?_ | refine qX (b' := true) rfl rfl rfl rfl (by assumption) ?_ | refine qX (b' := false) rfl rfl rfl rfl (by assumption) ?_ | (refine qY rfl rfl rfl rfl ?_ ?_ <;> intro _) | exact (rfl : (_ : D) = _) | exact (rfl : (_ : List D) = _))
  · have g1 : (((m / 18446744073709551616 ||| m % 18446744073709551616 : Nat) : Int) == 0) = false := by
      rw [beq_eq_false_iff_ne]
      intro h
      have h' : m / 18446744073709551616 ||| m % 18446744073709551616 = 0 := by omega
      rw [Nat.or_eq_zero_iff] at h'
      omega
    cases p with
    | true =>
      rw [sgn_neg (show sv true m < 0 by simp only [sv, cond_true]; omega)]
      refine enter1 Tryd.func54 Tryd.ntmps54 rfl rfl fun w0 F0 => ?_
      repeat' (first | (refine qS rfl ?_ ?_; (first | exact True.intro | rfl | assumption | omega | (simp only [inR]; omega) | ((show _ ≤ (9223372036854775807 : Nat)); (try simp only [ByteArray.size_append]); omega) | exact tmod_ok (by omega) (by omega) | exact tdiv_ok (by omega) (by omega) | exact ⟨rfl, by decide, by decide⟩)) | refine qA ?_ | refine qB rfl ?_ | refine qC (by kernel_rfl) ?_ | refine qD ?_ | refine qE ?_ | refine qF ?_ | refine qG ?_ | refine qH rfl ?_ | (refine go_binW _ rfl rfl rfl rfl rfl rfl hr hok ?_) | (refine qT rfl ?_ ?_; (first | rfl | assumption)) | (refine qU rfl ?_ ?_; (first | rfl | assumption)) | refine qL rfl rfl ?_ | refine qM rfl rfl rfl ?_ | refine qO rfl rfl rfl ?_ | refine qX (b' := true) rfl rfl rfl rfl (by assumption) ?_ | refine qX (b' := false) rfl rfl rfl rfl (by assumption) ?_ | (refine qY rfl rfl rfl rfl ?_ ?_ <;> intro _) | exact (rfl : (_ : D) = _) | exact (rfl : (_ : List D) = _))
    | false =>
      rw [sgn_pos (show sv false m > 0 by simp only [sv, cond_false]; omega)]
      refine enter1 Tryd.func54 Tryd.ntmps54 rfl rfl fun w0 F0 => ?_
      repeat' (first | (refine qS rfl ?_ ?_; (first | exact True.intro | rfl | assumption | omega | (simp only [inR]; omega) | ((show _ ≤ (9223372036854775807 : Nat)); (try simp only [ByteArray.size_append]); omega) | exact tmod_ok (by omega) (by omega) | exact tdiv_ok (by omega) (by omega) | exact ⟨rfl, by decide, by decide⟩)) | refine qA ?_ | refine qB rfl ?_ | refine qC (by kernel_rfl) ?_ | refine qD ?_ | refine qE ?_ | refine qF ?_ | refine qG ?_ | refine qH rfl ?_ | (refine go_binW _ rfl rfl rfl rfl rfl rfl hr hok ?_) | (refine qT rfl ?_ ?_; (first | rfl | assumption)) | (refine qU rfl ?_ ?_; (first | rfl | assumption)) | refine qL rfl rfl ?_ | refine qM rfl rfl rfl ?_ | refine qO rfl rfl rfl ?_ | refine qX (b' := true) rfl rfl rfl rfl (by assumption) ?_ | refine qX (b' := false) rfl rfl rfl rfl (by assumption) ?_ | (refine qY rfl rfl rfl rfl ?_ ?_ <;> intro _) | exact (rfl : (_ : D) = _) | exact (rfl : (_ : List D) = _))
theorem sv_mul (a b : Int) : sv (!(decide (a < 0) == decide (b < 0))) (a.natAbs * b.natAbs) = a * b := by
  have e : ((a.natAbs * b.natAbs : Nat) : Int) = (a.natAbs : Int) * b.natAbs := Int.natCast_mul _ _
  by_cases ha : a < 0 <;> by_cases hb : b < 0
  · rw [show decide (a < 0) = true by simpa using ha, show decide (b < 0) = true by simpa using hb]
    show ((a.natAbs * b.natAbs : Nat) : Int) = _
    rw [e, show (a.natAbs : Int) = -a by omega, show (b.natAbs : Int) = -b by omega, Int.neg_mul_neg]
  · rw [show decide (a < 0) = true by simpa using ha, show decide (b < 0) = false by simpa using hb]
    show -((a.natAbs * b.natAbs : Nat) : Int) = _
    rw [e, show (a.natAbs : Int) = -a by omega, show (b.natAbs : Int) = b by omega, Int.neg_mul, Int.neg_neg]
  · rw [show decide (a < 0) = false by simpa using ha, show decide (b < 0) = true by simpa using hb]
    show -((a.natAbs * b.natAbs : Nat) : Int) = _
    rw [e, show (a.natAbs : Int) = a by omega, show (b.natAbs : Int) = -b by omega, Int.mul_neg, Int.neg_neg]
  · rw [show decide (a < 0) = false by simpa using ha, show decide (b < 0) = false by simpa using hb]
    show ((a.natAbs * b.natAbs : Nat) : Int) = _
    rw [e, show (a.natAbs : Int) = a by omega, show (b.natAbs : Int) = b by omega]
theorem nat_mul_bnd {a b : Int} (ha : -1000000000000000 ≤ a ∧ a ≤ 1000000000000000) (hb : -1000000000000000 ≤ b ∧ b ≤ 1000000000000000) : a.natAbs * b.natAbs ≤ 1000000000000000000000000000000 := by
  have := Nat.mul_le_mul (show a.natAbs ≤ 1000000000000000 by omega) (show b.natAbs ≤ 1000000000000000 by omega)
  omega
theorem cmp_ev (an ad bn bd : Int) : Ev E 37 [.agg [.int an, .int ad], .agg [.int bn, .int bd]] (.d (.int (cmpQ an ad bn bd))) := by
  have h1 := fz_bnd an ad
  have h2 := fz_bnd bn bd
  have hva := fvalid_ev an ad
  have hvb := fvalid_ev bn bd
  have key : ∀ n d n' d' : Int, (-1000000000000000 ≤ n ∧ n ≤ 1000000000000000) → (1 ≤ d ∧ d ≤ 1000000000000000) → (-1000000000000000 ≤ n' ∧ n' ≤ 1000000000000000) → (1 ≤ d' ∧ d' ≤ 1000000000000000) →
      ∃ (p q r : Bool) (m m' m'' : Nat), Ev E 52 [.int n, .int d'] (.d (wideD p m)) ∧ Ev E 52 [.int (0 - n'), .int d] (.d (wideD q m')) ∧ Ev E 53 [wideD p m, wideD q m'] (.d (wideD r m'')) ∧ Ev E 54 [wideD r m''] (.d (.int (sgn (n * d' - n' * d)))) := by
    intro n d n' d' hn hd hn' hd'
    have b1 := nat_mul_bnd (a := n) (b := d') hn (by omega)
    have b2 := nat_mul_bnd (a := 0 - n') (b := d) (by omega) (by omega)
    refine ⟨_, _, _, _, _, _, product_ev n d', product_ev (0 - n') d, wplus_ev _ _ _ _ b1 b2, ?_⟩
    have hle := wsum_le (!(decide (n < 0) == decide (d' < 0))) (!(decide (0 - n' < 0) == decide (d < 0))) (n.natAbs * d'.natAbs) ((0 - n').natAbs * d.natAbs)
    have hs := wsign_ev (wsum (!(decide (n < 0) == decide (d' < 0))) (!(decide (0 - n' < 0) == decide (d < 0))) (n.natAbs * d'.natAbs) ((0 - n').natAbs * d.natAbs)).1 _ (Nat.lt_of_le_of_lt hle (by omega))
    rw [wsum_sv, sv_mul, sv_mul, Int.zero_sub, Int.neg_mul, ← Int.sub_eq_add_neg, ← Int.zero_sub n'] at hs
    exact hs
  obtain ⟨p, q, r, m, m', m'', e1, e2, e3, e4⟩ := key (fzn an ad) (fzd an ad) (fzn bn bd) (fzd bn bd) (by omega) (by omega) (by omega) (by omega)
  unfold cmpQ
  generalize hres : (fzn an ad * fzd bn bd - fzn bn bd * fzd an ad) = res at *
  clear hres key
  cases ha : fval an ad <;> cases hb : fval bn bd
  all_goals
    rw [ha] at hva
    rw [hb] at hvb
    simp only [fzn, fzd, ha, hb, cond_true, cond_false] at e1 e2 h1 h2
    refine enter2 Tryd.func37 Tryd.ntmps37 rfl rfl fun w0 F0 => ?_
    repeat' (first | (refine qS rfl ?_ ?_; (first | exact True.intro | rfl | assumption | omega | (simp only [inR]; omega) | ((show _ ≤ (9223372036854775807 : Nat)); (try simp only [ByteArray.size_append]); omega) | exact tmod_ok (by omega) (by omega) | exact tdiv_ok (by omega) (by omega) | exact ⟨rfl, by decide, by decide⟩)) | refine qA ?_ | refine qB rfl ?_ | refine qC (by kernel_rfl) ?_ | refine qD ?_ | refine qE ?_ | refine qF ?_ | refine qG ?_ | refine qH rfl ?_ | refine qP rfl rfl rfl rfl rfl rfl b43 (hva) ?_ | refine qP rfl rfl rfl rfl rfl rfl b43 (hvb) ?_ | refine qP (d := 17) rfl rfl rfl rfl rfl rfl b52 (e1) ?_ | refine qP rfl rfl rfl rfl rfl rfl b52 (e2) ?_ | refine qP rfl rfl rfl rfl rfl rfl b53 (e3) ?_ | refine qP rfl rfl rfl rfl rfl rfl b54 (e4) ?_ | (refine qT rfl ?_ ?_; (first | rfl | assumption)) | (refine qU rfl ?_ ?_; (first | rfl | assumption)) | refine qL rfl rfl ?_ | refine qM rfl rfl rfl ?_ | refine qO rfl rfl rfl ?_ | refine qX (b' := true) rfl rfl rfl rfl (by assumption) ?_ | refine qX (b' := false) rfl rfl rfl rfl (by assumption) ?_ | (refine qY rfl rfl rfl rfl ?_ ?_ <;> intro _) | exact (rfl : (_ : D) = _) | exact (rfl : (_ : List D) = _))
end Go.Proofs.YtpjnngfjbcjikaaDoor
