/- What the law's own same comes to; The specification's wide numbers: their value, and what times, plus, minus, order and sum come to; The specification's product of wide numbers; The specification's sums of wide numbers; The specification's sum of signed wide numbers, and its comparison of fractions; The program's wide numbers and its comparison of fractions; A small lemma for seats that do not build texts of values; Comparisons: of integers, strings, lists; the specification's order of values; The program's order of values; equality and Less of both texts; Expressions as plain trees, how they . Conditions: each part's own, as it says. -/
import Derived.Test.YtkjebcnlmanhlaaGreatDoorGC
import Derived.Test.YtkjebcnlmanhlaaGreatDoorMA
import Derived.Test.YtkjebcnlmanhlaaGreatDoorGA
import Derived.Test.YtkjebcnlmanhlaaGreatDoorGB
import Derived.Shelf.Spec.BitsCarry
set_option linter.unusedVariables false
set_option linter.unusedSimpArgs false
/- What the law's own same comes to. Conditions: none. -/
namespace Go.Proofs.YtkjebcnlmanhlaaGreatDoor
open Go Go.Abs Go.Val
attribute [local irreducible] go SGo HasBody Ev

theorem vind {P : V → Prop} (h : ∀ (k n d : Int) (s : ByteArray) (l : List V), (∀ x ∈ l, P x) → P (.mk k n d s l)) (v : V) : P v :=
  V.rec (motive_1 := P) (motive_2 := fun l => ∀ x ∈ l, P x) (fun k n d s l ih => h k n d s l ih) (fun x hx => by simp at hx)
    (fun a r ha hr x hx => by
      rcases List.mem_cons.1 hx with e | e
      · rw [e]; exact ha
      · exact hr x e) v
end Go.Proofs.YtkjebcnlmanhlaaGreatDoor

/- The specification's wide numbers: their value, and what times, plus, minus, order and sum come to. Conditions: the bounds of each lemma. -/
namespace Go.Proofs.YtkjebcnlmanhlaaGreatDoor
open Go Go.Abs Go.Val
attribute [local irreducible] go SGo HasBody Ev

def encI (l : List Int) : List D := l.map fun n => .int n
theorem encI_get {l : List Int} {i : Nat} {x : Int} (h : l[i]? = some x) : (encI l)[i]? = some (.int x) := by
  unfold encI
  rw [List.getElem?_map, h]
  rfl
theorem encI_len (l : List Int) : (encI l).length = l.length := by simp [encI]
def sgn (n : Int) : Int := if n < 0 then -1 else if n > 0 then 1 else 0
end Go.Proofs.YtkjebcnlmanhlaaGreatDoor

/- The specification's product of wide numbers. Conditions: both factors between 0 and 10^15. -/
namespace Go.Proofs.YtkjebcnlmanhlaaGreatDoor
open Go Go.Abs Go.Val
attribute [local irreducible] go SGo HasBody Ev



end Go.Proofs.YtkjebcnlmanhlaaGreatDoor

/- The specification's sums of wide numbers. Conditions: fourteen digits each. -/
namespace Go.Proofs.YtkjebcnlmanhlaaGreatDoor
open Go Go.Abs Go.Val
attribute [local irreducible] go SGo HasBody Ev

end Go.Proofs.YtkjebcnlmanhlaaGreatDoor

/- The specification's sum of signed wide numbers, and its comparison of fractions. Conditions: magnitudes up to 10^30. -/
namespace Go.Proofs.YtkjebcnlmanhlaaGreatDoor
open Go Go.Abs Go.Val
attribute [local irreducible] go SGo HasBody Ev

theorem sgn_pos {n : Int} (h : n > 0) : sgn n = 1 := by unfold sgn; rw [if_neg (by omega), if_pos h]
theorem sgn_neg {n : Int} (h : n < 0) : sgn n = -1 := by unfold sgn; rw [if_pos h]
def fzn (n d : Int) : Int := bif fval n d then n else 0
def fzd (n d : Int) : Int := bif fval n d then d else 1
def cmpQ (an ad bn bd : Int) : Int := sgn (fzn an ad * fzd bn bd - fzn bn bd * fzd an ad)
theorem fz_bnd (n d : Int) : -1000000000000000 ≤ fzn n d ∧ fzn n d ≤ 1000000000000000 ∧ 1 ≤ fzd n d ∧ fzd n d ≤ 1000000000000000 := by
  unfold fzn fzd
  cases h : fval n d with
  | false => simp
  | true =>
    simp only [fval, Bool.and_eq_true, decide_eq_true_eq] at h
    have := (inM_iff n).1 h.2.2.1
    simp only [cond_true]
    omega
end Go.Proofs.YtkjebcnlmanhlaaGreatDoor

/- The program's wide numbers and its comparison of fractions. Conditions: the bounds of each lemma. -/
namespace Go.Proofs.YtkjebcnlmanhlaaGreatDoor
open Go Go.Abs Go.Val
attribute [local irreducible] go SGo HasBody Ev ExtEv

theorem fsize_ev (n : Int) : Ev E 127 [.int n] (.d (.imm (.int .u64 (n.natAbs : Int)))) := Ev.fit fun hfit => by
  have hn := (hfit (.int n) (by simp)).int
  simp only [inR] at hn
  by_cases h : n < 0
  · have g1 : decide (n < 0) = true := by simpa using h
    have w1 : IntKind.u64.wrap n = n + 18446744073709551616 := by simp [IntKind.wrap, IntKind.signed, IntKind.bits]; omega
    have w2 : IntKind.u64.wrap (0 - (n + 18446744073709551616)) = n.natAbs := by simp [IntKind.wrap, IntKind.signed, IntKind.bits]; omega
    refine enter1 Tryz.func127 Tryz.ntmps127 rfl rfl fun w0 F0 O => ?_
    repeat' (first | refine zS rfl ?_ | refine qA ?_ | refine qB rfl ?_ | refine qD ?_ | (refine go_convW _ rfl rfl rfl rfl rfl rfl rfl w1 ?_) | (refine go_negW _ rfl rfl rfl rfl rfl w2 ?_) | refine zT rfl ?_ | refine qL rfl rfl ?_ | exact zD)
  · have g1 : decide (n < 0) = false := by simpa using h
    have e : (n.natAbs : Int) = n := by omega
    rw [e]
    refine enter1 Tryz.func127 Tryz.ntmps127 rfl rfl fun w0 F0 O => ?_
    repeat' (first | refine zS rfl ?_ | refine qA ?_ | refine qB rfl ?_ | refine qD ?_ | refine qE ?_ | refine zU rfl ?_ | refine qL rfl rfl ?_ | exact zD)
/-- A wide number as data: its sign and its magnitude. -/
def wideD (neg : Bool) (m : Nat) : D := .agg [.imm (.bool neg), .imm (.int .u64 ((m / 18446744073709551616 : Nat) : Int)), .imm (.int .u64 ((m % 18446744073709551616 : Nat) : Int))]
def sv (neg : Bool) (m : Nat) : Int := bif neg then -(m : Int) else m
theorem mul64_ev (x y : Nat) (hx : x < 18446744073709551616) (hy : y < 18446744073709551616) : Ev E 126 [.imm (.int .u64 (x : Int)), .imm (.int .u64 (y : Int))] (.tup [.imm (.int .u64 ((x * y / 18446744073709551616 : Nat) : Int)), .imm (.int .u64 ((x * y % 18446744073709551616 : Nat) : Int))]) := by
  refine Ev.mk fun w F vs hF hG hl hr => ?_
  match vs, hl with
  | [v, u], _ =>
    obtain ⟨rfl, -⟩ := Rd.imm_inv (hr 0 _ v rfl rfl)
    obtain ⟨rfl, -⟩ := Rd.imm_inv (hr 1 _ u rfl rfl)
    refine (Tryz.bits_Mul64 x y hx hy w).mono ?_
    rintro e w' ⟨rfl, rfl⟩
    refine ⟨_, F, rfl, Ext.refl hF, [_, _], rfl, rfl, fun i d v hd hv => ?_⟩
    have hq : x * y / 18446744073709551616 < 18446744073709551616 := by
      have : x * y < 18446744073709551616 * 18446744073709551616 := Nat.mul_lt_mul_of_lt_of_le hx (Nat.le_of_lt hy) (by omega)
      exact Nat.div_lt_of_lt_mul this
    have hm : x * y % 18446744073709551616 < 18446744073709551616 := Nat.mod_lt _ (by omega)
    match i with
    | 0 => simp at hd hv; subst hd hv; exact Rd.imm _ (inR_ok (k := .u64) (by simp only [inR]; omega))
    | 1 => simp at hd hv; subst hd hv; exact Rd.imm _ (inR_ok (k := .u64) (by simp only [inR]; omega))
    | i + 2 => simp at hd
theorem product_ev (a b : Int) : Ev E 122 [.int a, .int b] (.d (wideD (!(decide (a < 0) == decide (b < 0))) (a.natAbs * b.natAbs))) := Ev.fit fun hfit => by
  have ha := (hfit (.int a) (by simp)).int
  have hb := (hfit (.int b) (by simp)).int
  simp only [inR] at ha hb
  have h1 := fsize_ev a
  have h2 := fsize_ev b
  have h3 := mul64_ev a.natAbs b.natAbs (by omega) (by omega)
  refine enter2 Tryz.func122 Tryz.ntmps122 rfl rfl fun w0 F0 O => ?_
  repeat' (first | refine zS rfl ?_ | refine qA ?_ | refine qB rfl ?_ | refine qD ?_ | refine qP rfl rfl rfl rfl rfl rfl b127 (h1) ?_ | refine qP rfl rfl rfl rfl rfl rfl b127 (h2) ?_ | refine qP rfl rfl rfl rfl rfl rfl b126 (h3) ?_ | refine qL rfl rfl ?_ | exact zD)
theorem wless_ev (p q : Bool) (m n : Nat) : Ev E 129 [wideD p m, wideD q n] (.d (.bool (decide (m < n)))) := by
  have e1 : decide (((m / 18446744073709551616 : Nat) : Int) < ((n / 18446744073709551616 : Nat) : Int)) = decide (m / 18446744073709551616 < n / 18446744073709551616) := by simp only [decide_eq_decide]; omega
  rcases Nat.lt_trichotomy (m / 18446744073709551616) (n / 18446744073709551616) with h | h | h
  · have g1 : decide (((m / 18446744073709551616 : Nat) : Int) < ((n / 18446744073709551616 : Nat) : Int)) = true := by simp only [decide_eq_true_eq]; omega
    have g3 : decide (m < n) = true := by simp only [decide_eq_true_eq]; omega
    rw [g3]
    refine enter2 Tryz.func129 Tryz.ntmps129 rfl rfl fun w0 F0 O => ?_
    repeat' (first | refine zS rfl ?_ | refine qA ?_ | refine qB rfl ?_ | refine qD ?_ | refine qL rfl rfl ?_ | refine zX rfl rfl rfl rfl ?_ | exact zD)
  · have g1 : decide (((m / 18446744073709551616 : Nat) : Int) < ((n / 18446744073709551616 : Nat) : Int)) = false := by simp only [decide_eq_false_iff_not]; omega
    have g2 : (((m / 18446744073709551616 : Nat) : Int) == ((n / 18446744073709551616 : Nat) : Int)) = true := by simp only [beq_iff_eq]; omega
    have g3 : decide (m < n) = decide (((m % 18446744073709551616 : Nat) : Int) < ((n % 18446744073709551616 : Nat) : Int)) := by simp only [decide_eq_decide]; omega
    rw [g3]
    refine enter2 Tryz.func129 Tryz.ntmps129 rfl rfl fun w0 F0 O => ?_
    repeat' (first | refine zS rfl ?_ | refine qA ?_ | refine qB rfl ?_ | refine qD ?_ | refine qL rfl rfl ?_ | refine zX rfl rfl rfl rfl ?_ | refine zW rfl rfl rfl rfl ?_ | exact zD)
  · have g1 : decide (((m / 18446744073709551616 : Nat) : Int) < ((n / 18446744073709551616 : Nat) : Int)) = false := by simp only [decide_eq_false_iff_not]; omega
    have g2 : (((m / 18446744073709551616 : Nat) : Int) == ((n / 18446744073709551616 : Nat) : Int)) = false := by simp only [beq_eq_false_iff_ne]; omega
    have g3 : decide (m < n) = false := by simp only [decide_eq_false_iff_not]; omega
    rw [g3]
    refine enter2 Tryz.func129 Tryz.ntmps129 rfl rfl fun w0 F0 O => ?_
    repeat' (first | refine zS rfl ?_ | refine qA ?_ | refine qB rfl ?_ | refine qD ?_ | refine qL rfl rfl ?_ | refine zW rfl rfl rfl rfl ?_ | exact zD)
theorem add64_run (x y c : Nat) (hc : c ≤ 1) (w : World) : (callFunc 128 [Value.int .u64 (x : Int), .int .u64 (y : Int), .int .u64 (c : Int)].toArray).run E.P w =
    .ok (.value (.tuple #[.int .u64 (((x + y + c) % 18446744073709551616 : Nat) : Int), .int .u64 (((x + y + c) / 18446744073709551616 : Nat) : Int)])) w := by
  have := run_callFunc_extern Tryz.func128 (by kernel_rfl) (by kernel_rfl) (by kernel_rfl) (e := add64Entry) (by kernel_rfl) #[.int .u64 (x : Int), .int .u64 (y : Int), .int .u64 (c : Int)] w
  refine this.trans ?_
  rw [run_add64 x y c (by omega) (by omega) (by omega) (by omega)]
  simp only [Result.andThen]
  congr 5 <;> omega
theorem sub64_run (x y b : Nat) (hb : b ≤ 1) (w : World) : (callFunc 130 [Value.int .u64 (x : Int), .int .u64 (y : Int), .int .u64 (b : Int)].toArray).run E.P w =
    .ok (.value (.tuple #[.int .u64 (((x + 18446744073709551616 - y - b) % 18446744073709551616 : Nat) : Int), .int .u64 ((if x < y + b then 1 else 0 : Nat) : Int)])) w := by
  have := run_callFunc_extern Tryz.func130 (by kernel_rfl) (by kernel_rfl) (by kernel_rfl) (e := sub64Entry) (by kernel_rfl) #[.int .u64 (x : Int), .int .u64 (y : Int), .int .u64 (b : Int)] w
  refine this.trans ?_
  rw [run_sub64 x y b hb]
  rfl
theorem pair_rd {a b : Nat} (ha : a < 18446744073709551616) (hb : b < 18446744073709551616) (w : World) (F : Nat → Prop) : RdX w F [] (.tup [.imm (.int .u64 (a : Int)), .imm (.int .u64 (b : Int))]) (.tuple #[.int .u64 (a : Int), .int .u64 (b : Int)]) := by
  refine ⟨[_, _], rfl, rfl, fun i d v hd hv => ?_⟩
  match i with
  | 0 => simp at hd hv; subst hd hv; exact Rd.imm _ (inR_ok (k := .u64) (by simp only [inR]; omega))
  | 1 => simp at hd hv; subst hd hv; exact Rd.imm _ (inR_ok (k := .u64) (by simp only [inR]; omega))
  | i + 2 => simp at hd
/-- The sum, as the program computes it. -/
def wsum (p q : Bool) (m n : Nat) : Bool × Nat := bif p == q then (p, m + n) else (bif decide (m < n) then (q, n - m) else (p, m - n))
theorem wsum_sv (p q : Bool) (m n : Nat) : sv (wsum p q m n).1 (wsum p q m n).2 = sv p m + sv q n := by
  cases p <;> cases q <;> (simp only [wsum, sv]; cases h : decide (m < n) <;> simp at h <;> simp <;> omega)
theorem wsum_le (p q : Bool) (m n : Nat) : (wsum p q m n).2 ≤ m + n := by
  unfold wsum
  cases p == q <;> cases decide (m < n) <;> simp <;> omega
theorem wplus_ev (p q : Bool) (m n : Nat) (hm : m ≤ 1000000000000000000000000000000) (hn : n ≤ 1000000000000000000000000000000) : Ev E 123 [wideD p m, wideD q n] (.d (wideD (wsum p q m n).1 (wsum p q m n).2)) := by
  cases hpq : p == q with
  | true =>
    have e : wsum p q m n = (p, m + n) := by unfold wsum; rw [hpq]; rfl
    rw [e]
    have a1 := add64_run (m % 18446744073709551616) (n % 18446744073709551616) 0 (by omega)
    have a2 := add64_run (m / 18446744073709551616) (n / 18446744073709551616) ((m % 18446744073709551616 + n % 18446744073709551616 + 0) / 18446744073709551616) (by omega)
    have r1 := pair_rd (a := (m % 18446744073709551616 + n % 18446744073709551616 + 0) % 18446744073709551616) (b := (m % 18446744073709551616 + n % 18446744073709551616 + 0) / 18446744073709551616) (by omega) (by omega)
    have r2 := pair_rd (a := (m / 18446744073709551616 + n / 18446744073709551616 + (m % 18446744073709551616 + n % 18446744073709551616 + 0) / 18446744073709551616) % 18446744073709551616) (b := (m / 18446744073709551616 + n / 18446744073709551616 + (m % 18446744073709551616 + n % 18446744073709551616 + 0) / 18446744073709551616) / 18446744073709551616) (by omega) (by omega)
    have d1 : (m / 18446744073709551616 + n / 18446744073709551616 + (m % 18446744073709551616 + n % 18446744073709551616 + 0) / 18446744073709551616) % 18446744073709551616 = (m + n) / 18446744073709551616 := by omega
    have d2 : (m % 18446744073709551616 + n % 18446744073709551616 + 0) % 18446744073709551616 = (m + n) % 18446744073709551616 := by omega
    unfold wideD
    rw [← d1, ← d2]
    clear d1 d2 e
    replace a1 := ExtEv.mk a1 r1
    replace a2 := ExtEv.mk a2 r2
    clear r1 r2
    generalize m / 18446744073709551616 = mh at *
    generalize m % 18446744073709551616 = ml at *
    generalize n / 18446744073709551616 = nh at *
    generalize n % 18446744073709551616 = nl at *
    generalize (ml + nl + 0) % 18446744073709551616 = lo at *
    generalize (ml + nl + 0) / 18446744073709551616 = c1 at *
    generalize (mh + nh + c1) % 18446744073709551616 = hi at *
    generalize (mh + nh + c1) / 18446744073709551616 = c2 at *
    refine enter2 Tryz.func123 Tryz.ntmps123 rfl rfl fun w0 F0 O => ?_
    repeat' (first | refine zS rfl ?_ | refine qA ?_ | refine qB rfl ?_ | refine qD ?_ | refine go_callV rfl rfl rfl rfl rfl a1 rfl ?_ | refine go_callV rfl rfl rfl rfl rfl a2 rfl ?_ | refine zT rfl ?_ | refine qL rfl rfl ?_ | exact zD)
  | false =>
    have hl := wless_ev p q m n
    have key : ∀ (p' q' : Bool) (m' n' : Nat), n' ≤ m' → m' ≤ 1000000000000000000000000000000 → True := fun _ _ _ _ _ _ => trivial
    cases hlt : decide (m < n) with
    | true =>
      have e : wsum p q m n = (q, n - m) := by unfold wsum; rw [hpq, hlt]; rfl
      rw [e]
      rw [hlt] at hl
      have hmn : m < n := of_decide_eq_true hlt
      have a1 := sub64_run (n % 18446744073709551616) (m % 18446744073709551616) 0 (by omega)
      have a2 := sub64_run (n / 18446744073709551616) (m / 18446744073709551616) (if n % 18446744073709551616 < m % 18446744073709551616 + 0 then 1 else 0) (by split <;> omega)
      have r1 := pair_rd (a := (n % 18446744073709551616 + 18446744073709551616 - m % 18446744073709551616 - 0) % 18446744073709551616) (b := if n % 18446744073709551616 < m % 18446744073709551616 + 0 then 1 else 0) (by omega) (by split <;> omega)
      have r2 := pair_rd (a := (n / 18446744073709551616 + 18446744073709551616 - m / 18446744073709551616 - (if n % 18446744073709551616 < m % 18446744073709551616 + 0 then 1 else 0)) % 18446744073709551616) (b := if n / 18446744073709551616 < m / 18446744073709551616 + (if n % 18446744073709551616 < m % 18446744073709551616 + 0 then 1 else 0) then 1 else 0) (by omega) (by split <;> split <;> omega)
      have d1 : (n / 18446744073709551616 + 18446744073709551616 - m / 18446744073709551616 - (if n % 18446744073709551616 < m % 18446744073709551616 + 0 then 1 else 0)) % 18446744073709551616 = (n - m) / 18446744073709551616 := by split <;> omega
      have d2 : (n % 18446744073709551616 + 18446744073709551616 - m % 18446744073709551616 - 0) % 18446744073709551616 = (n - m) % 18446744073709551616 := by omega
      unfold wideD at *
      rw [← d1, ← d2]
      clear d1 d2 e
      replace a1 := ExtEv.mk a1 r1
      replace a2 := ExtEv.mk a2 r2
      clear r1 r2
      generalize m / 18446744073709551616 = mh at *
      generalize m % 18446744073709551616 = ml at *
      generalize n / 18446744073709551616 = nh at *
      generalize n % 18446744073709551616 = nl at *
      generalize (if nl < ml + 0 then 1 else 0 : Nat) = bo at *
      generalize (nl + 18446744073709551616 - ml - 0) % 18446744073709551616 = lo at *
      generalize (nh + 18446744073709551616 - mh - bo) % 18446744073709551616 = hi at *
      generalize (if nh < mh + bo then 1 else 0 : Nat) = c2 at *
      refine enter2 Tryz.func123 Tryz.ntmps123 rfl rfl fun w0 F0 O => ?_
      repeat' (first | refine zS rfl ?_ | refine qA ?_ | refine qB rfl ?_ | refine qD ?_ | refine qE ?_ | refine qP rfl rfl rfl rfl rfl rfl b129 (hl) ?_ | refine go_callV rfl rfl rfl rfl rfl a1 rfl ?_ | refine go_callV rfl rfl rfl rfl rfl a2 rfl ?_ | refine zT rfl ?_ | refine zU rfl ?_ | refine qL rfl rfl ?_ | exact zD)
    | false =>
      have e : wsum p q m n = (p, m - n) := by unfold wsum; rw [hpq, hlt]; rfl
      rw [e]
      rw [hlt] at hl
      have hmn : ¬ m < n := of_decide_eq_false hlt
      have a1 := sub64_run (m % 18446744073709551616) (n % 18446744073709551616) 0 (by omega)
      have a2 := sub64_run (m / 18446744073709551616) (n / 18446744073709551616) (if m % 18446744073709551616 < n % 18446744073709551616 + 0 then 1 else 0) (by split <;> omega)
      have r1 := pair_rd (a := (m % 18446744073709551616 + 18446744073709551616 - n % 18446744073709551616 - 0) % 18446744073709551616) (b := if m % 18446744073709551616 < n % 18446744073709551616 + 0 then 1 else 0) (by omega) (by split <;> omega)
      have r2 := pair_rd (a := (m / 18446744073709551616 + 18446744073709551616 - n / 18446744073709551616 - (if m % 18446744073709551616 < n % 18446744073709551616 + 0 then 1 else 0)) % 18446744073709551616) (b := if m / 18446744073709551616 < n / 18446744073709551616 + (if m % 18446744073709551616 < n % 18446744073709551616 + 0 then 1 else 0) then 1 else 0) (by omega) (by split <;> split <;> omega)
      have d1 : (m / 18446744073709551616 + 18446744073709551616 - n / 18446744073709551616 - (if m % 18446744073709551616 < n % 18446744073709551616 + 0 then 1 else 0)) % 18446744073709551616 = (m - n) / 18446744073709551616 := by split <;> omega
      have d2 : (m % 18446744073709551616 + 18446744073709551616 - n % 18446744073709551616 - 0) % 18446744073709551616 = (m - n) % 18446744073709551616 := by omega
      unfold wideD at *
      rw [← d1, ← d2]
      clear d1 d2 e
      replace a1 := ExtEv.mk a1 r1
      replace a2 := ExtEv.mk a2 r2
      clear r1 r2
      generalize m / 18446744073709551616 = mh at *
      generalize m % 18446744073709551616 = ml at *
      generalize n / 18446744073709551616 = nh at *
      generalize n % 18446744073709551616 = nl at *
      generalize (if ml < nl + 0 then 1 else 0 : Nat) = bo at *
      generalize (ml + 18446744073709551616 - nl - 0) % 18446744073709551616 = lo at *
      generalize (mh + 18446744073709551616 - nh - bo) % 18446744073709551616 = hi at *
      generalize (if mh < nh + bo then 1 else 0 : Nat) = c2 at *
      refine enter2 Tryz.func123 Tryz.ntmps123 rfl rfl fun w0 F0 O => ?_
      repeat' (first | refine zS rfl ?_ | refine qA ?_ | refine qB rfl ?_ | refine qD ?_ | refine qE ?_ | refine qP rfl rfl rfl rfl rfl rfl b129 (hl) ?_ | refine go_callV rfl rfl rfl rfl rfl a1 rfl ?_ | refine go_callV rfl rfl rfl rfl rfl a2 rfl ?_ | refine zU rfl ?_ | refine qL rfl rfl ?_ | exact zD)
theorem or_run (t : TypeId) (a b : Nat) (ha : a < 18446744073709551616) (hb : b < 18446744073709551616) (w : World) : (binOp .or t (.int .u64 (a : Int)) (.int .u64 (b : Int))).run E.P w = .ok (.int .u64 ((a ||| b : Nat) : Int)) w := by
  have h1 : BitVec.ofInt 64 (a : Int) = BitVec.ofNat 64 a := by simp
  have h2 : BitVec.ofInt 64 (b : Int) = BitVec.ofNat 64 b := by simp
  have hor : a ||| b < 18446744073709551616 := Nat.or_lt_two_pow (n := 64) ha hb
  have h3 : (BitVec.ofNat 64 a ||| BitVec.ofNat 64 b).toNat = a ||| b := by
    rw [BitVec.toNat_or, BitVec.toNat_ofNat, BitVec.toNat_ofNat, Nat.mod_eq_of_lt ha, Nat.mod_eq_of_lt hb]
  have hw : IntKind.u64.wrap ((a ||| b : Nat) : Int) = ((a ||| b : Nat) : Int) := inR_wrap (k := .u64) (by simp only [inR]; omega)
  show (Op.intBits .or .u64 (a : Int) (b : Int)).run E.P w = _
  simp only [Op.intBits]
  show (pure (Value.int .u64 (IntKind.u64.wrap (BitVec.ofInt 64 (a : Int) ||| BitVec.ofInt 64 (b : Int)).toNat)) : Sem Value).run E.P w = _
  rw [h1, h2, h3, hw]
  rfl
theorem wsign_ev (p : Bool) (m : Nat) (hm : m < 18446744073709551616 * 18446744073709551616) : Ev E 124 [wideD p m] (.d (.int (sgn (sv p m)))) := by
  have hr := or_run 133 (m / 18446744073709551616) (m % 18446744073709551616) (Nat.div_lt_of_lt_mul hm) (Nat.mod_lt _ (by omega))
  have hor : m / 18446744073709551616 ||| m % 18446744073709551616 < 18446744073709551616 := Nat.or_lt_two_pow (n := 64) (Nat.div_lt_of_lt_mul hm) (Nat.mod_lt _ (by omega))
  have hok : Go.Abs.okV (.int .u64 ((m / 18446744073709551616 ||| m % 18446744073709551616 : Nat) : Int)) = true := inR_ok (k := .u64) (by simp only [inR]; omega)
  by_cases h0 : m = 0
  · subst h0
    have e : sgn (sv p 0) = 0 := by cases p <;> rfl
    rw [e]
    refine enter1 Tryz.func124 Tryz.ntmps124 rfl rfl fun w0 F0 O => ?_
    repeat' (first | refine zS rfl ?_ | refine qA ?_ | refine qB rfl ?_ | refine qD ?_ | refine qF ?_ | (refine go_binW _ rfl rfl rfl rfl rfl rfl hr hok ?_) | refine zT rfl ?_ | refine qL rfl rfl ?_ | exact zD)
  · have g1 : (((m / 18446744073709551616 ||| m % 18446744073709551616 : Nat) : Int) == 0) = false := by
      rw [beq_eq_false_iff_ne]
      intro h
      have h' : m / 18446744073709551616 ||| m % 18446744073709551616 = 0 := by omega
      rw [Nat.or_eq_zero_iff] at h'
      omega
    cases p with
    | true =>
      rw [sgn_neg (show sv true m < 0 by simp only [sv, cond_true]; omega)]
      refine enter1 Tryz.func124 Tryz.ntmps124 rfl rfl fun w0 F0 O => ?_
      repeat' (first | refine zS rfl ?_ | refine qA ?_ | refine qB rfl ?_ | refine qD ?_ | refine qF ?_ | (refine go_binW _ rfl rfl rfl rfl rfl rfl hr hok ?_) | refine zT rfl ?_ | refine zU rfl ?_ | refine qL rfl rfl ?_ | exact zD)
    | false =>
      rw [sgn_pos (show sv false m > 0 by simp only [sv, cond_false]; omega)]
      refine enter1 Tryz.func124 Tryz.ntmps124 rfl rfl fun w0 F0 O => ?_
      repeat' (first | refine zS rfl ?_ | refine qA ?_ | refine qB rfl ?_ | refine qD ?_ | refine qE ?_ | refine qF ?_ | refine qG ?_ | (refine go_binW _ rfl rfl rfl rfl rfl rfl hr hok ?_) | refine zU rfl ?_ | refine qL rfl rfl ?_ | exact zD)
theorem sv_mul (a b : Int) : sv (!(decide (a < 0) == decide (b < 0))) (a.natAbs * b.natAbs) = a * b := by
  have e : ((a.natAbs * b.natAbs : Nat) : Int) = (a.natAbs : Int) * b.natAbs := Int.natCast_mul _ _
  by_cases ha : a < 0 <;> by_cases hb : b < 0
  · rw [show decide (a < 0) = true by simpa using ha, show decide (b < 0) = true by simpa using hb]
    show ((a.natAbs * b.natAbs : Nat) : Int) = _
    rw [e, show (a.natAbs : Int) = -a by omega, show (b.natAbs : Int) = -b by omega, Int.neg_mul_neg]
  · rw [show decide (a < 0) = true by simpa using ha, show decide (b < 0) = false by simpa using hb]
    show -((a.natAbs * b.natAbs : Nat) : Int) = _
    rw [e, show (a.natAbs : Int) = -a by omega, show (b.natAbs : Int) = b by omega, Int.neg_mul, Int.neg_neg]
  · rw [show decide (a < 0) = false by simpa using ha, show decide (b < 0) = true by simpa using hb]
    show -((a.natAbs * b.natAbs : Nat) : Int) = _
    rw [e, show (a.natAbs : Int) = a by omega, show (b.natAbs : Int) = -b by omega, Int.mul_neg, Int.neg_neg]
  · rw [show decide (a < 0) = false by simpa using ha, show decide (b < 0) = false by simpa using hb]
    show ((a.natAbs * b.natAbs : Nat) : Int) = _
    rw [e, show (a.natAbs : Int) = a by omega, show (b.natAbs : Int) = b by omega]
theorem nat_mul_bnd {a b : Int} (ha : -1000000000000000 ≤ a ∧ a ≤ 1000000000000000) (hb : -1000000000000000 ≤ b ∧ b ≤ 1000000000000000) : a.natAbs * b.natAbs ≤ 1000000000000000000000000000000 := by
  have := Nat.mul_le_mul (show a.natAbs ≤ 1000000000000000 by omega) (show b.natAbs ≤ 1000000000000000 by omega)
  omega
theorem cmp_ev (an ad bn bd : Int) : Ev E 119 [.agg [.int an, .int ad], .agg [.int bn, .int bd]] (.d (.int (cmpQ an ad bn bd))) := by
  have h1 := fz_bnd an ad
  have h2 := fz_bnd bn bd
  have hva := fvalid_ev an ad
  have hvb := fvalid_ev bn bd
  have key : ∀ n d n' d' : Int, (-1000000000000000 ≤ n ∧ n ≤ 1000000000000000) → (1 ≤ d ∧ d ≤ 1000000000000000) → (-1000000000000000 ≤ n' ∧ n' ≤ 1000000000000000) → (1 ≤ d' ∧ d' ≤ 1000000000000000) →
      ∃ (p q r : Bool) (m m' m'' : Nat), Ev E 122 [.int n, .int d'] (.d (wideD p m)) ∧ Ev E 122 [.int (0 - n'), .int d] (.d (wideD q m')) ∧ Ev E 123 [wideD p m, wideD q m'] (.d (wideD r m'')) ∧ Ev E 124 [wideD r m''] (.d (.int (sgn (n * d' - n' * d)))) := by
    intro n d n' d' hn hd hn' hd'
    have b1 := nat_mul_bnd (a := n) (b := d') hn (by omega)
    have b2 := nat_mul_bnd (a := 0 - n') (b := d) (by omega) (by omega)
    refine ⟨_, _, _, _, _, _, product_ev n d', product_ev (0 - n') d, wplus_ev _ _ _ _ b1 b2, ?_⟩
    have hle := wsum_le (!(decide (n < 0) == decide (d' < 0))) (!(decide (0 - n' < 0) == decide (d < 0))) (n.natAbs * d'.natAbs) ((0 - n').natAbs * d.natAbs)
    have hs := wsign_ev (wsum (!(decide (n < 0) == decide (d' < 0))) (!(decide (0 - n' < 0) == decide (d < 0))) (n.natAbs * d'.natAbs) ((0 - n').natAbs * d.natAbs)).1 _ (Nat.lt_of_le_of_lt hle (by omega))
    rw [wsum_sv, sv_mul, sv_mul, Int.zero_sub, Int.neg_mul, ← Int.sub_eq_add_neg, ← Int.zero_sub n'] at hs
    exact hs
  obtain ⟨p, q, r, m, m', m'', e1, e2, e3, e4⟩ := key (fzn an ad) (fzd an ad) (fzn bn bd) (fzd bn bd) (by omega) (by omega) (by omega) (by omega)
  unfold cmpQ
  generalize hres : (fzn an ad * fzd bn bd - fzn bn bd * fzd an ad) = res at *
  clear hres key
  cases ha : fval an ad <;> cases hb : fval bn bd
  all_goals
    rw [ha] at hva
    rw [hb] at hvb
    simp only [fzn, fzd, ha, hb, cond_true, cond_false] at e1 e2 h1 h2
    refine enter2 Tryz.func119 Tryz.ntmps119 rfl rfl fun w0 F0 O => ?_
    repeat' (first | refine zS rfl ?_ | refine qA ?_ | refine qB rfl ?_ | refine qC (by kernel_rfl) ?_ | refine qD ?_ | refine qE ?_ | refine qP rfl rfl rfl rfl rfl rfl b111 (hva) ?_ | refine qP rfl rfl rfl rfl rfl rfl b111 (hvb) ?_ | refine qP (d := 17) rfl rfl rfl rfl rfl rfl b122 (e1) ?_ | refine qP rfl rfl rfl rfl rfl rfl b122 (e2) ?_ | refine qP rfl rfl rfl rfl rfl rfl b123 (e3) ?_ | refine qP rfl rfl rfl rfl rfl rfl b124 (e4) ?_ | refine zT rfl ?_ | refine zU rfl ?_ | refine qL rfl rfl ?_ | exact zD)
end Go.Proofs.YtkjebcnlmanhlaaGreatDoor

/- A small lemma for seats that do not build texts of values. Conditions: none. -/
namespace Go.Proofs.YtkjebcnlmanhlaaGreatDoor
open Go Go.Abs Go.Val
theorem okV_k {v : V} (h : Val.okV v = true) : v.k = 0 ∨ v.k = 1 ∨ v.k = 2 ∨ v.k = 3 ∨ v.k = 4 ∨ v.k = 5 ∨ v.k = 6 ∨ v.k = 7 ∨ v.k = 8 := by
  unfold Val.okV at h
  simp only [okN, okFlat, Bool.or_eq_true, Bool.and_eq_true, beq_iff_eq] at h
  omega
end Go.Proofs.YtkjebcnlmanhlaaGreatDoor

/- Comparisons: of integers, strings, lists; the specification's order of values. Conditions: none. -/
namespace Go.Proofs.YtkjebcnlmanhlaaGreatDoor
open Go Go.Abs Go.Val Go.RowKit
attribute [local irreducible] go SGo HasBody Ev ExtEv EvO

def ci (x y : Int) : Int := Lib.compareInt x y
theorem ci_eq (x : Int) : ci x x = 0 := by unfold ci Lib.compareInt; rw [if_neg (by omega), if_neg (by omega)]
/-- The order of strings. -/
def cs (a b : ByteArray) : Int := bif Op.bytesLess a.toList b.toList then -1 else bif (Op.bytesLess a.toList b.toList || a.toList == b.toList) then 0 else 1
def orI (x y : Int) : Int := bif x != 0 then x else y
theorem nanS_ev (a : ByteArray) : Ev E 101 [.str a] (.d (.bool false)) := by
  have h : (!(a.toList == a.toList)) = false := by simp
  rw [← h]
  refine enter1 Tryz.func101 Tryz.ntmps101 rfl rfl fun w0 F0 O => ?_
  repeat' (first | refine zS rfl ?_ | refine qA ?_ | refine qB rfl ?_ | refine qC (by kernel_rfl) ?_ | refine qD ?_ | refine qE ?_ | refine qF ?_ | refine qG ?_ | refine qH rfl ?_ | refine zT rfl ?_ | refine zU rfl ?_ | refine qL rfl rfl ?_ | refine qM rfl rfl rfl ?_ | refine qO rfl rfl rfl ?_ | refine zX rfl rfl rfl rfl ?_ | refine zW rfl rfl rfl rfl ?_ | (refine qY rfl rfl rfl rfl ?_ ?_ <;> intro _) | exact zD | exact zL)
theorem compareS_ev (a b : ByteArray) : Ev E 107 [.str a, .str b] (.d (.int (cs a b))) := by
  unfold cs
  cases h1 : Op.bytesLess a.toList b.toList with
  | true =>
    refine enter2 Tryz.func107 Tryz.ntmps107 rfl rfl fun w0 F0 O => ?_
    repeat' (first | refine zS rfl ?_ | refine qA ?_ | refine qB rfl ?_ | refine qC (by kernel_rfl) ?_ | refine qD ?_ | refine qE ?_ | refine qF ?_ | refine qG ?_ | refine qH rfl ?_ | refine qP rfl rfl rfl rfl rfl rfl b101 (nanS_ev _) ?_ | refine zT rfl ?_ | refine zU rfl ?_ | refine qL rfl rfl ?_ | refine qM rfl rfl rfl ?_ | refine qO rfl rfl rfl ?_ | refine zX rfl rfl rfl rfl ?_ | refine zW rfl rfl rfl rfl ?_ | (refine qY rfl rfl rfl rfl ?_ ?_ <;> intro _) | exact zD | exact zL)
  | false =>
    cases h2 : a.toList == b.toList with
    | true =>
      have g2 : (!(Op.bytesLess a.toList b.toList || a.toList == b.toList)) = false := by rw [h1, h2]; rfl
      refine enter2 Tryz.func107 Tryz.ntmps107 rfl rfl fun w0 F0 O => ?_
      repeat' (first | refine zS rfl ?_ | refine qA ?_ | refine qB rfl ?_ | refine qC (by kernel_rfl) ?_ | refine qD ?_ | refine qE ?_ | refine qF ?_ | refine qG ?_ | refine qH rfl ?_ | refine qP rfl rfl rfl rfl rfl rfl b101 (nanS_ev _) ?_ | refine zT rfl ?_ | refine zU rfl ?_ | refine qL rfl rfl ?_ | refine qM rfl rfl rfl ?_ | refine qO rfl rfl rfl ?_ | refine zX rfl rfl rfl rfl ?_ | refine zW rfl rfl rfl rfl ?_ | (refine qY rfl rfl rfl rfl ?_ ?_ <;> intro _) | exact zD | exact zL)
    | false =>
      have g2 : (!(Op.bytesLess a.toList b.toList || a.toList == b.toList)) = true := by rw [h1, h2]; rfl
      refine enter2 Tryz.func107 Tryz.ntmps107 rfl rfl fun w0 F0 O => ?_
      repeat' (first | refine zS rfl ?_ | refine qA ?_ | refine qB rfl ?_ | refine qC (by kernel_rfl) ?_ | refine qD ?_ | refine qE ?_ | refine qF ?_ | refine qG ?_ | refine qH rfl ?_ | refine qP rfl rfl rfl rfl rfl rfl b101 (nanS_ev _) ?_ | refine zT rfl ?_ | refine zU rfl ?_ | refine qL rfl rfl ?_ | refine qM rfl rfl rfl ?_ | refine qO rfl rfl rfl ?_ | refine zX rfl rfl rfl rfl ?_ | refine zW rfl rfl rfl rfl ?_ | (refine qY rfl rfl rfl rfl ?_ ?_ <;> intro _) | exact zD | exact zL)
/-- The first that is not zero. -/
def orL : List Int → Int
  | [] => 0
  | x :: r => orI x (orL r)
structure SOr (l : List Int) where
  i : Nat
  hi : i ≤ l.length
  ok : orL l = orL (l.drop i)
theorem or_ev2 (l : List Int) : Ev E 106 [.sl (encI l)] (.d (.int (orL l))) := Ev.fit fun hfit => by
  have hmax := ((hfit (.sl (encI l)) (by simp)).sls).1
  rw [encI_len] at hmax
  have hle : (encI l).length = l.length := encI_len l
  refine enter1 Tryz.func106 Tryz.ntmps106 rfl rfl fun w0 F0 O => ?_
  repeat' (first | refine zS rfl ?_ | refine qA ?_ | refine qB rfl ?_ | refine qC (by kernel_rfl) ?_ | refine qD ?_ | refine qE ?_ | refine qF ?_ | refine qG ?_ | refine qH rfl ?_ | refine zT rfl ?_ | refine zU rfl ?_ | refine qL rfl rfl ?_ | refine qM rfl rfl rfl ?_ | refine qO rfl rfl rfl ?_ | refine zX rfl rfl rfl rfl ?_ | refine zW rfl rfl rfl rfl ?_ | (refine qY rfl rfl rfl rfl ?_ ?_ <;> intro _) | exact zD | exact zL)
  refine go_loop_ (α := SOr l) (fun p => ⟨[(3, .d (.int 0)), (6, .d (.sl (encI l))), (7, .d (.int (encI l).length)), (8, .d (.int p.i))], []⟩) (fun p => l.length - p.i) ⟨0, by omega, rfl⟩ ((zle 0)) ?_
  rintro ⟨i, hi, ok⟩
  dsimp only
  rcases Nat.lt_or_ge i l.length with hlt | hge
  · have g1 : decide ((i : Int) < ((encI l).length : Int)) = true := by rw [hle]; simpa using hlt
    have hx0 := List.getElem?_eq_getElem hlt
    generalize l[i] = x at hx0
    have hx : (encI l)[(i : Int).toNat]? = some (.int x) := encI_get (by rw [Int.toNat_natCast]; exact hx0)
    rw [ok, drop_at hx0]
    simp only [orL, orI]
    cases h : x != 0 with
    | true =>
      repeat' (first | refine zS rfl ?_ | refine qA ?_ | refine qB rfl ?_ | refine qC (by kernel_rfl) ?_ | refine qD ?_ | refine qE ?_ | refine qF ?_ | refine qG ?_ | refine qH rfl ?_ | refine qI (.int x) rfl (guardX_ok rfl) rfl rfl rfl rfl rfl rfl (by first | omega | decide) hx ?_ | refine zT rfl ?_ | refine zU rfl ?_ | refine qL rfl rfl ?_ | refine qM rfl rfl rfl ?_ | refine qO rfl rfl rfl ?_ | refine zX rfl rfl rfl rfl ?_ | refine zW rfl rfl rfl rfl ?_ | (refine qY rfl rfl rfl rfl ?_ ?_ <;> intro _) | exact zD | exact zL)
    | false =>
      repeat' (first | refine zS rfl ?_ | refine qA ?_ | refine qB rfl ?_ | refine qC (by kernel_rfl) ?_ | refine qD ?_ | refine qE ?_ | refine qF ?_ | refine qG ?_ | refine qH rfl ?_ | refine qI (.int x) rfl (guardX_ok rfl) rfl rfl rfl rfl rfl rfl (by first | omega | decide) hx ?_ | refine zT rfl ?_ | refine zU rfl ?_ | refine qL rfl rfl ?_ | refine qM rfl rfl rfl ?_ | refine qO rfl rfl rfl ?_ | refine zX rfl rfl rfl rfl ?_ | refine zW rfl rfl rfl rfl ?_ | (refine qY rfl rfl rfl rfl ?_ ?_ <;> intro _) | exact zD | exact zL)
      refine go_stop ?_
      exact ⟨⟨i + 1, by omega, by rw [ok, drop_at hx0]; simp only [orL, orI]; rw [h]; rfl⟩, by dsimp only; omega, (zle 0)⟩
  · have g1 : decide ((i : Int) < ((encI l).length : Int)) = false := by rw [hle]; simp; omega
    have : l.drop i = [] := List.drop_eq_nil_of_le hge
    rw [ok, this]
    repeat' (first | refine zS rfl ?_ | refine qA ?_ | refine qB rfl ?_ | refine qC (by kernel_rfl) ?_ | refine qD ?_ | refine qE ?_ | refine qF ?_ | refine qG ?_ | refine qH rfl ?_ | refine zT rfl ?_ | refine zU rfl ?_ | refine qL rfl rfl ?_ | refine qM rfl rfl rfl ?_ | refine qO rfl rfl rfl ?_ | refine zX rfl rfl rfl rfl ?_ | refine zW rfl rfl rfl rfl ?_ | (refine qY rfl rfl rfl rfl ?_ ?_ <;> intro _) | exact zD | exact zL)
/-- The order of lists by an order of their elements. -/
def cmpL (g : V → V → Int) : List V → List V → Int
  | [], [] => 0
  | [], _ :: _ => -1
  | _ :: _, [] => 1
  | x :: r, y :: q => orI (g x y) (cmpL g r q)
structure SCF (g : V → V → Int) (a b : List V) where
  i : Nat
  hi : i ≤ a.length
  hj : i ≤ b.length
  ok : cmpL g a b = cmpL g (a.drop i) (b.drop i)
theorem compareFunc_ev (f : FuncId) (hb : HasBody E f) (g : V → V → Int) (a b : List V) (hf : ∀ x ∈ a, ∀ y ∈ b, Ev E f [enc x, enc y] (.d (.int (g x y)))) :
    Ev E 108 [.sl (encL a), .sl (encL b), .imm (.func (.func f) #[] #[])] (.d (.int (cmpL g a b))) := Ev.fit fun hfit => by
  obtain ⟨hma, -⟩ := fit_encL (hfit (.sl (encL a)) (by simp))
  have hla : (encL a).length = a.length := encL_len a
  have hlb : (encL b).length = b.length := encL_len b
  refine enter3 Tryz.func108 Tryz.ntmps108 rfl rfl fun w0 F0 O => ?_
  repeat' (first | refine zS rfl ?_ | refine qA ?_ | refine qB rfl ?_ | refine qC (by kernel_rfl) ?_ | refine qD ?_ | refine qE ?_ | refine qF ?_ | refine qG ?_ | refine qH rfl ?_ | refine zT rfl ?_ | refine zU rfl ?_ | refine qL rfl rfl ?_ | refine qM rfl rfl rfl ?_ | refine qO rfl rfl rfl ?_ | refine zX rfl rfl rfl rfl ?_ | refine zW rfl rfl rfl rfl ?_ | (refine qY rfl rfl rfl rfl ?_ ?_ <;> intro _) | exact zD | exact zL)
  refine go_loop_ (α := SCF g a b) (fun p => ⟨[(0, .d (.sl (encL a))), (1, .d (.sl (encL b))), (2, .d (.imm (.func (.func f) #[] #[]))), (11, .d (.sl (encL a))), (12, .d (.int (encL a).length)), (13, .d (.int p.i))], []⟩) (fun p => a.length - p.i) ⟨0, by omega, by omega, rfl⟩ ((zle 0)) ?_
  rintro ⟨i, hi, hj, ok⟩
  dsimp only
  rcases Nat.lt_or_ge i a.length with hlt | hge
  · have g1 : decide ((i : Int) < ((encL a).length : Int)) = true := by rw [hla]; simpa using hlt
    have hx0 := List.getElem?_eq_getElem hlt
    generalize a[i] = x at hx0
    have hx : (encL a)[(i : Int).toNat]? = some (enc x) := encL_get (by rw [Int.toNat_natCast]; exact hx0)
    rcases Nat.lt_or_ge i b.length with hltb | hgeb
    · have g2 : decide ((i : Int) ≥ ((encL b).length : Int)) = false := by rw [hlb]; simpa using hltb
      have hy0 := List.getElem?_eq_getElem hltb
      generalize b[i] = y at hy0
      have hy : (encL b)[(i : Int).toNat]? = some (enc y) := encL_get (by rw [Int.toNat_natCast]; exact hy0)
      have hxy := hf x (List.mem_of_getElem? hx0) y (List.mem_of_getElem? hy0)
      rw [ok, drop_at hx0, drop_at hy0]
      simp only [cmpL, orI]
      cases h : g x y != 0 with
      | true =>
        repeat' (first | refine zS rfl ?_ | refine qA ?_ | refine qB rfl ?_ | refine qC (by kernel_rfl) ?_ | refine qD ?_ | refine qE ?_ | refine qF ?_ | refine qG ?_ | refine qH rfl ?_ | refine qI (enc x) rfl (guardX_ok rfl) rfl rfl rfl rfl rfl rfl (by first | omega | decide) hx ?_ | refine qI (enc y) rfl (guardX_ok rfl) rfl rfl rfl rfl rfl rfl (by first | omega | decide) hy ?_ | refine qP rfl rfl rfl rfl rfl rfl hb (hxy) ?_ | refine zT rfl ?_ | refine zU rfl ?_ | refine qL rfl rfl ?_ | refine qM rfl rfl rfl ?_ | refine qO rfl rfl rfl ?_ | refine zX rfl rfl rfl rfl ?_ | refine zW rfl rfl rfl rfl ?_ | (refine qY rfl rfl rfl rfl ?_ ?_ <;> intro _) | exact zD | exact zL)
      | false =>
        repeat' (first | refine zS rfl ?_ | refine qA ?_ | refine qB rfl ?_ | refine qC (by kernel_rfl) ?_ | refine qD ?_ | refine qE ?_ | refine qF ?_ | refine qG ?_ | refine qH rfl ?_ | refine qI (enc x) rfl (guardX_ok rfl) rfl rfl rfl rfl rfl rfl (by first | omega | decide) hx ?_ | refine qI (enc y) rfl (guardX_ok rfl) rfl rfl rfl rfl rfl rfl (by first | omega | decide) hy ?_ | refine qP rfl rfl rfl rfl rfl rfl hb (hxy) ?_ | refine zT rfl ?_ | refine zU rfl ?_ | refine qL rfl rfl ?_ | refine qM rfl rfl rfl ?_ | refine qO rfl rfl rfl ?_ | refine zX rfl rfl rfl rfl ?_ | refine zW rfl rfl rfl rfl ?_ | (refine qY rfl rfl rfl rfl ?_ ?_ <;> intro _) | exact zD | exact zL)
        refine go_stop ?_
        exact ⟨⟨i + 1, by omega, by omega, by rw [ok, drop_at hx0, drop_at hy0]; simp only [cmpL, orI]; rw [h]; rfl⟩, by dsimp only; omega, (zle 0)⟩
    · have g2 : decide ((i : Int) ≥ ((encL b).length : Int)) = true := by rw [hlb]; simp; omega
      rw [ok, drop_at hx0, List.drop_eq_nil_of_le hgeb]
      repeat' (first | refine zS rfl ?_ | refine qA ?_ | refine qB rfl ?_ | refine qC (by kernel_rfl) ?_ | refine qD ?_ | refine qE ?_ | refine qF ?_ | refine qG ?_ | refine qH rfl ?_ | refine qI (enc x) rfl (guardX_ok rfl) rfl rfl rfl rfl rfl rfl (by first | omega | decide) hx ?_ | refine zT rfl ?_ | refine zU rfl ?_ | refine qL rfl rfl ?_ | refine qM rfl rfl rfl ?_ | refine qO rfl rfl rfl ?_ | refine zX rfl rfl rfl rfl ?_ | refine zW rfl rfl rfl rfl ?_ | (refine qY rfl rfl rfl rfl ?_ ?_ <;> intro _) | exact zD | exact zL)
  · have g1 : decide ((i : Int) < ((encL a).length : Int)) = false := by rw [hla]; simp; omega
    have hia : i = a.length := by omega
    rcases Nat.lt_or_ge i b.length with hltb | hgeb
    · have g2 : decide (((encL a).length : Int) < ((encL b).length : Int)) = true := by rw [hla, hlb, decide_eq_true_eq]; omega
      rw [ok, List.drop_eq_nil_of_le hge, List.drop_eq_getElem_cons hltb]
      repeat' (first | refine zS rfl ?_ | refine qA ?_ | refine qB rfl ?_ | refine qC (by kernel_rfl) ?_ | refine qD ?_ | refine qE ?_ | refine qF ?_ | refine qG ?_ | refine qH rfl ?_ | refine zT rfl ?_ | refine zU rfl ?_ | refine qL rfl rfl ?_ | refine qM rfl rfl rfl ?_ | refine qO rfl rfl rfl ?_ | refine zX rfl rfl rfl rfl ?_ | refine zW rfl rfl rfl rfl ?_ | (refine qY rfl rfl rfl rfl ?_ ?_ <;> intro _) | exact zD | exact zL)
    · have g2 : decide (((encL a).length : Int) < ((encL b).length : Int)) = false := by rw [hla, hlb, decide_eq_false_iff_not]; omega
      rw [ok, List.drop_eq_nil_of_le hge, List.drop_eq_nil_of_le hgeb]
      repeat' (first | refine zS rfl ?_ | refine qA ?_ | refine qB rfl ?_ | refine qC (by kernel_rfl) ?_ | refine qD ?_ | refine qE ?_ | refine qF ?_ | refine qG ?_ | refine qH rfl ?_ | refine zT rfl ?_ | refine zU rfl ?_ | refine qL rfl rfl ?_ | refine qM rfl rfl rfl ?_ | refine qO rfl rfl rfl ?_ | refine zX rfl rfl rfl rfl ?_ | refine zW rfl rfl rfl rfl ?_ | (refine qY rfl rfl rfl rfl ?_ ?_ <;> intro _) | exact zD | exact zL)

/-! ## The order of values -/
def rcls (k : Int) : Int := bif k == 0 then 0 else bif k == 1 then 1 else bif k == 2 || k == 3 then 2 else bif k == 4 then 3 else bif k == 5 then 4 else bif k == 6 then 5 else bif k == 8 then 6 else 7
def headO (a b : V) (t : Int) : Int := orI (ci a.k b.k) (orI (ci a.n b.n) (orI (ci a.d b.d) (orI (cs a.s b.s) t)))
/-- The specification's order, given that of the elements. -/
def stepO (a b : V) (t : Int) : Int :=
  bif Val.okV a != Val.okV b then 1 - tt (Val.okV a) else
  bif !Val.okV a then headO a b t else
  bif ci (rcls a.k) (rcls b.k) != 0 then ci (rcls a.k) (rcls b.k) else
  bif isNum a then cmpQ (numN a) (numD a) (numN b) (numD b) else headO a b t
mutual
def ordF : V → V → Int
  | .mk k n d s l, b => stepO (.mk k n d s l) b (ordL l b.l)
def ordL : List V → List V → Int
  | [], [] => 0
  | [], _ :: _ => -1
  | _ :: _, [] => 1
  | x :: r, y :: q => orI (ordF x y) (ordL r q)
end
theorem ordL_eq : ∀ a b : List V, ordL a b = cmpL ordF a b
  | [], [] => by simp [ordL, cmpL]
  | [], _ :: _ => by simp [ordL, cmpL]
  | _ :: _, [] => by simp [ordL, cmpL]
  | x :: r, y :: q => by simp only [ordL, cmpL, ordL_eq r q]
theorem ordF_eq (a b : V) : ordF a b = stepO a b (cmpL ordF a.l b.l) := by
  cases a
  simp only [ordF, ordL_eq, V.l]
end Go.Proofs.YtkjebcnlmanhlaaGreatDoor

/- The program's order of values; equality and Less of both texts. Conditions: none. -/
namespace Go.Proofs.YtkjebcnlmanhlaaGreatDoor
open Go Go.Abs Go.Val Go.RowKit
attribute [local irreducible] go SGo HasBody Ev ExtEv EvO

def pcls (k : Int) : Int := bif k == 3 then 2 else bif k == 7 then 9 else k
theorem class_ev (v : V) : Ev E 117 [enc v] (.d (.int (pcls v.k))) := by
  unfold pcls
  cases h1 : v.k == 3 with
  | true =>
    refine enter1 Tryz.func117 Tryz.ntmps117 rfl rfl fun w0 F0 O => ?_
    repeat' (first | refine zS rfl ?_ | refine qA ?_ | refine qB rfl ?_ | refine qC (by kernel_rfl) ?_ | refine qD ?_ | refine qE ?_ | refine qF ?_ | refine qG ?_ | refine qH rfl ?_ | refine zT rfl ?_ | refine zU rfl ?_ | refine qL rfl rfl ?_ | refine qM rfl rfl rfl ?_ | refine qO rfl rfl rfl ?_ | refine zX rfl rfl rfl rfl ?_ | refine zW rfl rfl rfl rfl ?_ | (refine qY rfl rfl rfl rfl ?_ ?_ <;> intro _) | exact zD | exact zL)
  | false =>
  cases h2 : v.k == 7 with
  | true =>
    refine enter1 Tryz.func117 Tryz.ntmps117 rfl rfl fun w0 F0 O => ?_
    repeat' (first | refine zS rfl ?_ | refine qA ?_ | refine qB rfl ?_ | refine qC (by kernel_rfl) ?_ | refine qD ?_ | refine qE ?_ | refine qF ?_ | refine qG ?_ | refine qH rfl ?_ | refine zT rfl ?_ | refine zU rfl ?_ | refine qL rfl rfl ?_ | refine qM rfl rfl rfl ?_ | refine qO rfl rfl rfl ?_ | refine zX rfl rfl rfl rfl ?_ | refine zW rfl rfl rfl rfl ?_ | (refine qY rfl rfl rfl rfl ?_ ?_ <;> intro _) | exact zD | exact zL)
  | false =>
    refine enter1 Tryz.func117 Tryz.ntmps117 rfl rfl fun w0 F0 O => ?_
    repeat' (first | refine zS rfl ?_ | refine qA ?_ | refine qB rfl ?_ | refine qC (by kernel_rfl) ?_ | refine qD ?_ | refine qE ?_ | refine qF ?_ | refine qG ?_ | refine qH rfl ?_ | refine zT rfl ?_ | refine zU rfl ?_ | refine qL rfl rfl ?_ | refine qM rfl rfl rfl ?_ | refine qO rfl rfl rfl ?_ | refine zX rfl rfl rfl rfl ?_ | refine zW rfl rfl rfl rfl ?_ | (refine qY rfl rfl rfl rfl ?_ ?_ <;> intro _) | exact zD | exact zL)
theorem okFlat_l {v : V} (h : okFlat v = true) : v.l = [] := by
  simp only [okFlat, Bool.or_eq_true, Bool.and_eq_true, beq_iff_eq, List.length_eq_zero_iff] at h
  grind
theorem okSteps_mem : ∀ (l : List V) (i : Nat), okSteps i l = true → ∀ x ∈ l, okFlat x = true
  | [], _, _, x, hx => by simp at hx
  | v :: r, i, h, x, hx => by
    simp only [okSteps, okStep, Bool.and_eq_true] at h
    rcases List.mem_cons.1 hx with e | e
    · rw [e]; exact h.1.2
    · exact okSteps_mem r (i + 1) h.2 x e
theorem okFlat_okN {v : V} (m : Nat) (h : okFlat v = true) : okN m v = true := by
  cases m <;> simp [okN, h]
theorem okN_mono : ∀ (m : Nat) (v : V), okN m v = true → okN (m + 1) v = true
  | 0, v, h => by
    simp only [okN, Bool.or_eq_true] at h ⊢
    exact .inl h
  | m + 1, v, h => by
    have ih := okN_mono m
    simp only [okN, Bool.or_eq_true, Bool.and_eq_true, List.all_eq_true, decide_eq_true_eq] at h ih ⊢
    rcases h with h | h
    · exact .inl h
    · exact .inr ⟨h.1, h.2.1, fun x hx => by have := ih x (by have := h.2.2 x hx; simpa [okN] using this); simpa [okN] using this⟩
theorem okV_kids {v : V} (h : Val.okV v = true) : ∀ x ∈ v.l, Val.okV x = true := by
  unfold Val.okV at h
  rw [okN] at h
  simp only [Bool.or_eq_true, Bool.and_eq_true, List.all_eq_true] at h
  intro x hx
  rcases h with (h | h) | h
  · rw [okFlat_l h] at hx; simp at hx
  · have hp := h.2.2
    simp only [okPath, Bool.and_eq_true] at hp
    exact okFlat_okN 8 (okSteps_mem _ 0 hp.2 x hx)
  · exact okN_mono 7 x (h.2.2 x hx)
/-- What valid values of one kind, not numbers and not lists, differ in. -/
theorem okV_bare {v : V} (h : Val.okV v = true) : (v.k ≠ 3 → v.d = 0) ∧ (v.k ≠ 4 → v.s.toList = (⟨#[]⟩ : ByteArray).toList) ∧ (v.k = 4 → v.n = 0) ∧ (v.k = 7 ∨ v.k = 8 → v.n = 0) ∧ (v.k ≠ 7 → v.k ≠ 8 → v.l = []) := by
  unfold Val.okV at h
  rw [okN] at h
  simp only [okFlat, s0, Bool.or_eq_true, Bool.and_eq_true, beq_iff_eq, List.length_eq_zero_iff] at h
  grind
theorem isNum_k {v : V} (h : Val.okV v = true) : isNum v = (v.k == 2 || v.k == 3) := by unfold isNum; rw [h, Bool.and_true]
theorem cls_cmp {a b : Int} (ha : 0 ≤ a ∧ a ≤ 8) (hb : 0 ≤ b ∧ b ≤ 8) : ci (pcls a) (pcls b) = ci (rcls a) (rcls b) := by
  obtain ⟨x, rfl⟩ := Int.eq_ofNat_of_zero_le ha.1
  obtain ⟨y, rfl⟩ := Int.eq_ofNat_of_zero_le hb.1
  have hx : x < 9 := by omega
  have hy : y < 9 := by omega
  revert ha hb
  have key : ∀ (x y : Fin 9), ci (pcls (x.val : Int)) (pcls (y.val : Int)) = ci (rcls (x.val : Int)) (rcls (y.val : Int)) := by decide
  intro _ _
  exact key ⟨x, hx⟩ ⟨y, hy⟩
theorem rcls_kind {a b : Int} (ha : 0 ≤ a ∧ a ≤ 8) (hb : 0 ≤ b ∧ b ≤ 8) (h : ci (rcls a) (rcls b) = 0) (hn : (a == 2 || a == 3) = false) : a = b := by
  obtain ⟨x, rfl⟩ := Int.eq_ofNat_of_zero_le ha.1
  obtain ⟨y, rfl⟩ := Int.eq_ofNat_of_zero_le hb.1
  have hx : x < 9 := by omega
  have hy : y < 9 := by omega
  revert ha hb h hn
  have key : ∀ (x y : Fin 9), ci (rcls (x.val : Int)) (rcls (y.val : Int)) = 0 → ((x.val : Int) == 2 || (x.val : Int) == 3) = false → (x.val : Int) = (y.val : Int) := by decide
  intros
  exact key ⟨x, hx⟩ ⟨y, hy⟩ (by assumption) (by assumption)
theorem okV_rng {v : V} (h : Val.okV v = true) : 0 ≤ v.k ∧ v.k ≤ 8 := by have := okV_k h; omega
theorem cs_self {a b : ByteArray} (h : a.toList = b.toList) : cs a b = 0 := by
  unfold cs
  rw [h]
  have hl : ∀ l : List UInt8, Op.bytesLess l l = false := by
    intro l
    induction l with
    | nil => rfl
    | cons x r ih => simp [Op.bytesLess, ih]
  rw [hl]
  simp
theorem pcls_num {v : V} (h : Val.okV v = true) : (pcls v.k == 2) = isNum v := by
  rw [isNum_k h]
  have := okV_k h
  unfold pcls
  rcases this with e | e | e | e | e | e | e | e | e <;> rw [e] <;> rfl
/-- The order of two valid values, as the program computes it. -/
theorem ordF_valid {a b : V} (ha : Val.okV a = true) (hb : Val.okV b = true) : ordF a b = bif ci (pcls a.k) (pcls b.k) != 0 then ci (pcls a.k) (pcls b.k) else bif pcls a.k == 2 then cmpQ (numN a) (numD a) (numN b) (numD b) else orL [cs a.s b.s, ci a.n b.n, cmpL ordF a.l b.l] := by
  rw [ordF_eq, stepO, ha, hb]
  have hra := okV_rng ha
  have hrb := okV_rng hb
  rw [cls_cmp hra hrb, pcls_num ha]
  simp only [bne_self_eq_false, Bool.not_true, cond_false]
  cases h1 : ci (rcls a.k) (rcls b.k) != 0 with
  | true => rfl
  | false =>
    simp only [cond_false]
    cases h2 : isNum a with
    | true => rfl
    | false =>
      simp only [cond_false]
      have hk : a.k = b.k := rcls_kind hra hrb (by simpa using h1) (by rw [← isNum_k ha]; exact h2)
      have hn3 : a.k ≠ 3 := by
        intro h
        rw [isNum_k ha, h] at h2
        cases h2
      obtain ⟨a1, a2, a3, a4, a5⟩ := okV_bare ha
      obtain ⟨b1, b2, b3, b4, b5⟩ := okV_bare hb
      have e1 : ci a.k b.k = 0 := by rw [hk]; exact ci_eq _
      have e2 : ci a.d b.d = 0 := by rw [a1 hn3, b1 (by rw [← hk]; exact hn3)]; exact ci_eq _
      unfold headO
      rw [e1, e2]
      simp only [orL, orI]
      simp only [bne_self_eq_false, cond_false]
      by_cases h4 : a.k = 4
      · have e3 : ci a.n b.n = 0 := by rw [a3 h4, b3 (by rw [← hk]; exact h4)]; exact ci_eq _
        rw [e3]
        simp only [bne_self_eq_false, cond_false]
        rw [a5 (by omega) (by omega), b5 (by omega) (by omega)]
        simp only [cmpL, bne_self_eq_false, cond_false]
      · have e3 : cs a.s b.s = 0 := cs_self (by rw [a2 h4, b2 (by rw [← hk]; exact h4)])
        rw [e3]
        simp only [bne_self_eq_false, cond_false]
        cases ci a.n b.n != 0 with
        | true => rfl
        | false =>
          simp only [cond_false]
          cases hq : cmpL ordF a.l b.l != 0 with
          | true => rfl
          | false => simp only [cond_false]; simpa using hq
theorem order_ev2 (a : V) : ∀ b : V, Val.okV a = true → Val.okV b = true → Ev E 105 [enc a, enc b] (.d (.int (ordF a b))) := by
  refine vind (P := fun a => ∀ b : V, Val.okV a = true → Val.okV b = true → Ev E 105 [enc a, enc b] (.d (.int (ordF a b)))) (fun k n d s l ih b ha hb => ?_) a
  have hka := okV_kids ha
  have hkb := okV_kids hb
  have hcf := compareFunc_ev 105 b105 ordF l b.l (fun x hx y hy => ih x hx y (hka x hx) (hkb y hy))
  rw [encL_map, encL_map, ← kids_eq b] at hcf
  have hkk : l.map enc = kids (.mk k n d s l) := (kids_eq (.mk k n d s l)).symm
  rw [hkk] at hcf
  rw [ordF_valid ha hb]
  have hll : cmpL ordF l b.l = cmpL ordF (V.mk k n d s l).l b.l := rfl
  rw [hll] at hcf
  generalize V.mk k n d s l = a at *
  clear ih hkk hll
  have ca := class_ev a
  have cb := class_ev b
  have hcc := compare_ev (pcls a.k) (pcls b.k)
  have na := Number_ev ixOK a
  have nb := Number_ev ixOK b
  have hc := cmp_ev (numN a) (numD a) (numN b) (numD b)
  have hcn := compare_ev a.n b.n
  have hcs := compareS_ev a.s b.s
  have hor := or_ev2 [cs a.s b.s, ci a.n b.n, cmpL ordF a.l b.l]
  cases h1 : ci (pcls a.k) (pcls b.k) != 0 with
  | true =>
    have h1' : (Lib.compareInt (pcls a.k) (pcls b.k) != 0) = true := h1
    refine enter2 Tryz.func105 Tryz.ntmps105 rfl rfl fun w0 F0 O => ?_
    repeat' (first | refine zS rfl ?_ | refine qA ?_ | refine qB rfl ?_ | refine qC (by kernel_rfl) ?_ | refine qD ?_ | refine qE ?_ | refine qF ?_ | refine qG ?_ | refine qH rfl ?_ | refine qP (d := 11) rfl rfl rfl rfl rfl rfl b117 (ca) ?_ | refine qP rfl rfl rfl rfl rfl rfl b117 (cb) ?_ | refine qP rfl rfl rfl rfl rfl rfl b22 (hcc) ?_ | refine zT rfl ?_ | refine zU rfl ?_ | refine qL rfl rfl ?_ | refine qM rfl rfl rfl ?_ | refine qO rfl rfl rfl ?_ | refine zX rfl rfl rfl rfl ?_ | refine zW rfl rfl rfl rfl ?_ | (refine qY rfl rfl rfl rfl ?_ ?_ <;> intro _) | exact zD | exact zL)
  | false =>
  have h1' : (Lib.compareInt (pcls a.k) (pcls b.k) != 0) = false := h1
  cases h2 : pcls a.k == 2 with
  | true =>
    refine enter2 Tryz.func105 Tryz.ntmps105 rfl rfl fun w0 F0 O => ?_
    repeat' (first | refine zS rfl ?_ | refine qA ?_ | refine qB rfl ?_ | refine qC (by kernel_rfl) ?_ | refine qD ?_ | refine qE ?_ | refine qF ?_ | refine qG ?_ | refine qH rfl ?_ | refine qP (d := 11) rfl rfl rfl rfl rfl rfl b117 (ca) ?_ | refine qP (d := 19) rfl rfl rfl rfl rfl rfl b117 (ca) ?_ | refine qP rfl rfl rfl rfl rfl rfl b117 (cb) ?_ | refine qP rfl rfl rfl rfl rfl rfl b22 (hcc) ?_ | refine qP (d := 23) rfl rfl rfl rfl rfl rfl b118 (na) ?_ | refine qP rfl rfl rfl rfl rfl rfl b118 (nb) ?_ | refine qP rfl rfl rfl rfl rfl rfl b119 (hc) ?_ | refine zT rfl ?_ | refine zU rfl ?_ | refine qL rfl rfl ?_ | refine qM rfl rfl rfl ?_ | refine qO rfl rfl rfl ?_ | refine zX rfl rfl rfl rfl ?_ | refine zW rfl rfl rfl rfl ?_ | (refine qY rfl rfl rfl rfl ?_ ?_ <;> intro _) | exact zD | exact zL)
  | false =>
    refine enter2 Tryz.func105 Tryz.ntmps105 rfl rfl fun w0 F0 O => ?_
    repeat' (first | refine zS rfl ?_ | refine qA ?_ | refine qB rfl ?_ | refine qC (by kernel_rfl) ?_ | refine qD ?_ | refine qE ?_ | refine qF ?_ | refine qG ?_ | refine qH rfl ?_ | refine qP (d := 11) rfl rfl rfl rfl rfl rfl b117 (ca) ?_ | refine qP (d := 19) rfl rfl rfl rfl rfl rfl b117 (ca) ?_ | refine qP rfl rfl rfl rfl rfl rfl b117 (cb) ?_ | refine qP (d := 14) rfl rfl rfl rfl rfl rfl b22 (hcc) ?_ | refine qP rfl rfl rfl rfl rfl rfl b22 (hcn) ?_ | refine qP rfl rfl rfl rfl rfl rfl b107 (hcs) ?_ | refine qP rfl rfl rfl rfl rfl rfl b108 (hcf) ?_ | refine qP rfl rfl rfl rfl rfl rfl b106 (hor) ?_ | refine zT rfl ?_ | refine zU rfl ?_ | refine qL rfl rfl ?_ | refine qM rfl rfl rfl ?_ | refine qO rfl rfl rfl ?_ | refine zX rfl rfl rfl rfl ?_ | refine zW rfl rfl rfl rfl ?_ | (refine qY rfl rfl rfl rfl ?_ ?_ <;> intro _) | exact zD | exact zL)
theorem Order_ev (a : V) : ∀ b : V, Ev E 90 [enc a, enc b] (.d (.int (ordF a b))) := by
  refine vind (P := fun a => ∀ b : V, Ev E 90 [enc a, enc b] (.d (.int (ordF a b)))) (fun k n d s l ih b => ?_) a
  have hcf := compareFunc_ev 90 b90 ordF l b.l (fun x hx y hy => ih x hx y)
  rw [encL_map, encL_map, ← kids_eq b] at hcf
  have hkk : l.map enc = kids (.mk k n d s l) := (kids_eq (.mk k n d s l)).symm
  rw [hkk] at hcf
  have hll : cmpL ordF l b.l = cmpL ordF (V.mk k n d s l).l b.l := rfl
  rw [hll] at hcf
  generalize V.mk k n d s l = a at *
  clear ih hkk hll
  have va := Valid_ev ixOK a
  have vb := Valid_ev ixOK b
  have hck := compare_ev a.k b.k
  have hcn := compare_ev a.n b.n
  have hcd := compare_ev a.d b.d
  have hcs := compareS_ev a.s b.s
  have hor := or_ev2 [ci a.k b.k, ci a.n b.n, ci a.d b.d, cs a.s b.s, cmpL ordF a.l b.l]
  cases h1 : Val.okV a with
  | true =>
    cases h2 : Val.okV b with
    | true =>
      have ho := order_ev2 a b h1 h2
      refine enter2 Tryz.func90 Tryz.ntmps90 rfl rfl fun w0 F0 O => ?_
      repeat' (first | refine zS rfl ?_ | refine qA ?_ | refine qB rfl ?_ | refine qC (by kernel_rfl) ?_ | refine qD ?_ | refine qE ?_ | refine qF ?_ | refine qG ?_ | refine qH rfl ?_ | refine qP (d := 8) rfl rfl rfl rfl rfl rfl b68 (va) ?_ | refine qP rfl rfl rfl rfl rfl rfl b68 (vb) ?_ | refine qP rfl rfl rfl rfl rfl rfl b105 (ho) ?_ | refine zT rfl ?_ | refine zU rfl ?_ | refine qL rfl rfl ?_ | refine qM rfl rfl rfl ?_ | refine qO rfl rfl rfl ?_ | refine zX rfl rfl rfl rfl ?_ | refine zW rfl rfl rfl rfl ?_ | (refine qY rfl rfl rfl rfl ?_ ?_ <;> intro _) | exact zD | exact zL)
    | false =>
      have e : ordF a b = -1 := by rw [ordF_eq, stepO, h1, h2]; rfl
      rw [e]
      refine enter2 Tryz.func90 Tryz.ntmps90 rfl rfl fun w0 F0 O => ?_
      repeat' (first | refine zS rfl ?_ | refine qA ?_ | refine qB rfl ?_ | refine qC (by kernel_rfl) ?_ | refine qD ?_ | refine qE ?_ | refine qF ?_ | refine qG ?_ | refine qH rfl ?_ | refine qP (d := 8) rfl rfl rfl rfl rfl rfl b68 (va) ?_ | refine qP rfl rfl rfl rfl rfl rfl b68 (vb) ?_ | refine zT rfl ?_ | refine zU rfl ?_ | refine qL rfl rfl ?_ | refine qM rfl rfl rfl ?_ | refine qO rfl rfl rfl ?_ | refine zX rfl rfl rfl rfl ?_ | refine zW rfl rfl rfl rfl ?_ | (refine qY rfl rfl rfl rfl ?_ ?_ <;> intro _) | exact zD | exact zL)
  | false =>
    cases h2 : Val.okV b with
    | true =>
      have e : ordF a b = 1 := by rw [ordF_eq, stepO, h1, h2]; rfl
      rw [e]
      refine enter2 Tryz.func90 Tryz.ntmps90 rfl rfl fun w0 F0 O => ?_
      repeat' (first | refine zS rfl ?_ | refine qA ?_ | refine qB rfl ?_ | refine qC (by kernel_rfl) ?_ | refine qD ?_ | refine qE ?_ | refine qF ?_ | refine qG ?_ | refine qH rfl ?_ | refine qP (d := 8) rfl rfl rfl rfl rfl rfl b68 (va) ?_ | refine qP rfl rfl rfl rfl rfl rfl b68 (vb) ?_ | refine zT rfl ?_ | refine zU rfl ?_ | refine qL rfl rfl ?_ | refine qM rfl rfl rfl ?_ | refine qO rfl rfl rfl ?_ | refine zX rfl rfl rfl rfl ?_ | refine zW rfl rfl rfl rfl ?_ | (refine qY rfl rfl rfl rfl ?_ ?_ <;> intro _) | exact zD | exact zL)
    | false =>
      have e : ordF a b = orL [ci a.k b.k, ci a.n b.n, ci a.d b.d, cs a.s b.s, cmpL ordF a.l b.l] := by
        rw [ordF_eq, stepO, h1, h2]
        simp only [bne_self_eq_false, Bool.not_false, cond_false, cond_true, headO, orL]
        have : orI (cmpL ordF a.l b.l) 0 = cmpL ordF a.l b.l := by
          unfold orI
          cases hq : cmpL ordF a.l b.l != 0 with
          | true => rfl
          | false => simp only [cond_false]; exact (by simpa using hq : cmpL ordF a.l b.l = 0).symm
        rw [this]
      rw [e]
      refine enter2 Tryz.func90 Tryz.ntmps90 rfl rfl fun w0 F0 O => ?_
      repeat' (first | refine zS rfl ?_ | refine qA ?_ | refine qB rfl ?_ | refine qC (by kernel_rfl) ?_ | refine qD ?_ | refine qE ?_ | refine qF ?_ | refine qG ?_ | refine qH rfl ?_ | refine qP (d := 8) rfl rfl rfl rfl rfl rfl b68 (va) ?_ | refine qP rfl rfl rfl rfl rfl rfl b68 (vb) ?_ | refine qP (d := 27) rfl rfl rfl rfl rfl rfl b22 (hck) ?_ | refine qP (d := 32) rfl rfl rfl rfl rfl rfl b22 (hcn) ?_ | refine qP (d := 37) rfl rfl rfl rfl rfl rfl b22 (hcd) ?_ | refine qP rfl rfl rfl rfl rfl rfl b107 (hcs) ?_ | refine qP rfl rfl rfl rfl rfl rfl b108 (hcf) ?_ | refine qP rfl rfl rfl rfl rfl rfl b106 (hor) ?_ | refine zT rfl ?_ | refine zU rfl ?_ | refine qL rfl rfl ?_ | refine qM rfl rfl rfl ?_ | refine qO rfl rfl rfl ?_ | refine zX rfl rfl rfl rfl ?_ | refine zW rfl rfl rfl rfl ?_ | (refine qY rfl rfl rfl rfl ?_ ?_ <;> intro _) | exact zD | exact zL)
/-! ## Equality -/
end Go.Proofs.YtkjebcnlmanhlaaGreatDoor

/- Expressions as plain trees, how they are written as data, and the weighing of expressions by the law's own text. Conditions: none; the budget is at most 2^40. -/
namespace Go.Proofs.YtkjebcnlmanhlaaGreatDoor
open Go Go.Abs Go.Val
attribute [local irreducible] go SGo HasBody Ev ExtEv EvO EvS

/-- An expression: its operator, its constant, its name, its mark DISTINCT, its operands. -/
inductive Ex where
  | mk (op : Int) (v : V) (nm : ByteArray) (ds : Bool) (ks : List Ex)
  deriving Inhabited
def Ex.op : Ex → Int | .mk op _ _ _ _ => op
def Ex.v : Ex → V | .mk _ v _ _ _ => v
def Ex.nm : Ex → ByteArray | .mk _ _ nm _ _ => nm
def Ex.ds : Ex → Bool | .mk _ _ _ ds _ => ds
def Ex.ks : Ex → List Ex | .mk _ _ _ _ ks => ks
theorem Ex.eta (e : Ex) : Ex.mk e.op e.v e.nm e.ds e.ks = e := by cases e; rfl

/-! ## The law's weighing -/
end Go.Proofs.YtkjebcnlmanhlaaGreatDoor

/- Names of the language: letters, names, by both texts. Conditions: none. -/
namespace Go.Proofs.YtkjebcnlmanhlaaGreatDoor
open Go Go.Abs Go.Val
attribute [local irreducible] go SGo HasBody Ev ExtEv EvO EvS

def letF (n : Int) : Bool := (decide (n ≥ 97) && decide (n ≤ 122)) || (decide (n ≥ 65) && decide (n ≤ 90))
def wcF (n : Int) : Bool := letF n || ((decide (n ≥ 48) && decide (n ≤ 57)) || n == 95)
def nameF (s : ByteArray) : Bool := decide (1 ≤ s.size) && (decide (s.size ≤ 20) && (letF (byteAt s 0) && (List.range s.size).all fun j => wcF (byteAt s j)))
theorem letter_ev (n : Int) : Ev E 53 [.imm (.int .u8 n)] (.d (.bool (letF n))) := by
  refine enter1 Tryz.func53 Tryz.ntmps53 rfl rfl fun w0 F0 O => ?_
  repeat' (first | refine zS rfl ?_ | refine qA ?_ | refine qB rfl ?_ | refine qC (by kernel_rfl) ?_ | refine qD ?_ | refine qE ?_ | refine qF ?_ | refine qG ?_ | refine qH rfl ?_ | refine zT rfl ?_ | refine zU rfl ?_ | refine qL rfl rfl ?_ | refine qM rfl rfl rfl ?_ | refine qO rfl rfl rfl ?_ | refine zX rfl rfl rfl rfl ?_ | refine zW rfl rfl rfl rfl ?_ | (refine qY rfl rfl rfl rfl ?_ ?_ <;> intro _) | (refine qV rfl ?_ ?_ <;> intro _) | exact zD | exact zL)
  all_goals (refine congrArg D.bool ?_; simp_all [letF] <;> omega)
structure SNm (s : ByteArray) where
  i : Nat
  hi : i ≤ s.size
  ok : ((List.range s.size).all fun j => wcF (byteAt s j)) = ((List.range s.size).drop i).all fun j => wcF (byteAt s j)
theorem range_at {n i : Nat} (h : i < n) : (List.range n)[i]? = some i := by rw [List.getElem?_range h]
theorem byteAt_rng (s : ByteArray) (i : Nat) (h : i < s.size) : 0 ≤ byteAt s i ∧ byteAt s i ≤ 255 := by
  obtain ⟨b, -, hb2⟩ := cOK_at h
  rw [hb2]
  have := b.toNat_lt
  omega
set_option maxHeartbeats 2000000 in
theorem name_ev (s : ByteArray) : Ev E 25 [.str s] (.d (.bool (nameF s))) := Ev.fit fun hfit => by
  have hs := (hfit (.str s) (by simp)).str
  by_cases h0 : s.size = 0
  · have hse : s = ByteArray.empty := by simpa using h0
    have gs : (s.toList == (⟨#[]⟩ : ByteArray).toList) = true := by rw [hse]; exact beq_self_eq_true ByteArray.empty.toList
    have e : nameF s = false := by unfold nameF; rw [h0]; rfl
    rw [e]
    refine enter1 Tryz.func25 Tryz.ntmps25 rfl rfl fun w0 F0 O => ?_
    repeat' (first | refine zS rfl ?_ | refine qA ?_ | refine qB rfl ?_ | refine qC (by kernel_rfl) ?_ | refine qD ?_ | refine qE ?_ | refine qF ?_ | refine qG ?_ | refine qH rfl ?_ | refine zT rfl ?_ | refine zU rfl ?_ | refine qL rfl rfl ?_ | refine qM rfl rfl rfl ?_ | refine qO rfl rfl rfl ?_ | refine zX rfl rfl rfl rfl ?_ | refine zW rfl rfl rfl rfl ?_ | (refine qY rfl rfl rfl rfl ?_ ?_ <;> intro _) | exact zD | exact zL)
  have g0 : (s.toList == (⟨#[]⟩ : ByteArray).toList) = false := by
    rw [beq_eq_false_iff_ne]
    intro e
    rw [ByteArray.toList_eq, ByteArray.toList_eq] at e
    have := congrArg List.length e
    simp at this
    exact h0 (by rw [this]; rfl)
  cases h20 : decide (s.size ≤ 20) with
  | false =>
    have g1 : decide ((s.size : Int) > 20) = true := by simp at h20 ⊢; omega
    have e : nameF s = false := by unfold nameF; rw [h20]; simp
    rw [e]
    refine enter1 Tryz.func25 Tryz.ntmps25 rfl rfl fun w0 F0 O => ?_
    repeat' (first | refine zS rfl ?_ | refine qA ?_ | refine qB rfl ?_ | refine qC (by kernel_rfl) ?_ | refine qD ?_ | refine qE ?_ | refine qF ?_ | refine qG ?_ | refine qH rfl ?_ | refine zT rfl ?_ | refine zU rfl ?_ | refine qL rfl rfl ?_ | refine qM rfl rfl rfl ?_ | refine qO rfl rfl rfl ?_ | refine zX rfl rfl rfl rfl ?_ | refine zW rfl rfl rfl rfl ?_ | (refine qY rfl rfl rfl rfl ?_ ?_ <;> intro _) | exact zD | exact zL)
  | true =>
    have g1 : decide ((s.size : Int) > 20) = false := by simp at h20 ⊢; omega
    have hb0 := byteAt_rng s 0 (by omega)
    have hl := letter_ev (byteAt s 0)
    cases hl0 : letF (byteAt s 0) with
    | false =>
      rw [hl0] at hl
      have e : nameF s = false := by unfold nameF; rw [hl0]; simp
      rw [e]
      refine enter1 Tryz.func25 Tryz.ntmps25 rfl rfl fun w0 F0 O => ?_
      repeat' (first | refine zS rfl ?_ | refine qA ?_ | refine qB rfl ?_ | refine qC (by kernel_rfl) ?_ | refine qD ?_ | refine qE ?_ | refine qF ?_ | refine qG ?_ | refine qH rfl ?_ | refine qP rfl rfl rfl rfl rfl rfl b53 (hl) ?_ | refine zT rfl ?_ | refine zU rfl ?_ | refine qL rfl rfl ?_ | refine qM rfl rfl rfl ?_ | refine qO rfl rfl rfl ?_ | refine zX rfl rfl rfl rfl ?_ | refine zW rfl rfl rfl rfl ?_ | (refine qY rfl rfl rfl rfl ?_ ?_ <;> intro _) | exact zD | exact zL)
    | true =>
      rw [hl0] at hl
      have e : nameF s = (List.range s.size).all fun j => wcF (byteAt s j) := by
        unfold nameF; rw [hl0, h20, show decide (1 ≤ s.size) = true by simp; omega]; rfl
      rw [e]
      refine enter1 Tryz.func25 Tryz.ntmps25 rfl rfl fun w0 F0 O => ?_
      repeat' (first | refine zS rfl ?_ | refine qA ?_ | refine qB rfl ?_ | refine qC (by kernel_rfl) ?_ | refine qD ?_ | refine qE ?_ | refine qF ?_ | refine qG ?_ | refine qH rfl ?_ | refine qP rfl rfl rfl rfl rfl rfl b53 (hl) ?_ | refine zT rfl ?_ | refine zU rfl ?_ | refine qL rfl rfl ?_ | refine qM rfl rfl rfl ?_ | refine qO rfl rfl rfl ?_ | refine zX rfl rfl rfl rfl ?_ | refine zW rfl rfl rfl rfl ?_ | (refine qY rfl rfl rfl rfl ?_ ?_ <;> intro _) | exact zD | exact zL)
      refine go_loop_ (α := SNm s) (fun p => ⟨[(0, .d (.str s)), (18, .d (.int s.size)), (19, .d (.int p.i))], []⟩) (fun p => s.size - p.i) ⟨0, by omega, rfl⟩ ((zle 0)) ?_
      rintro ⟨i, hi, ok⟩
      dsimp only
      rcases Nat.lt_or_ge i s.size with hlt | hge
      · have hd : decide ((i : Int) < (s.size : Int)) = true := by simpa using hlt
        have hb := byteAt_rng s i hlt
        rw [ok, drop_at (range_at hlt), List.all_cons]
        have hli := letter_ev (byteAt s i)
        have hti : (i : Int).toNat = i := Int.toNat_natCast i
        rw [← hti] at hli hb
        cases hl1 : letF (byteAt s (i : Int).toNat) with
        | true =>
          rw [hl1] at hli
          rw [hti] at hl1
          have hw : wcF (byteAt s i) = true := by unfold wcF; rw [hl1]; rfl
          repeat' (first | refine zS rfl ?_ | refine qA ?_ | refine qB rfl ?_ | refine qC (by kernel_rfl) ?_ | refine qD ?_ | refine qE ?_ | refine qF ?_ | refine qG ?_ | refine qH rfl ?_ | refine qP rfl rfl rfl rfl rfl rfl b53 (hli) ?_ | refine zT rfl ?_ | refine zU rfl ?_ | refine qL rfl rfl ?_ | refine qM rfl rfl rfl ?_ | refine qO rfl rfl rfl ?_ | refine zX rfl rfl rfl rfl ?_ | refine zW rfl rfl rfl rfl ?_ | (refine qY rfl rfl rfl rfl ?_ ?_ <;> intro _) | exact zD | exact zL)
          refine go_stop ?_
          exact ⟨⟨i + 1, by omega, by rw [ok, drop_at (range_at hlt), List.all_cons, hw, Bool.true_and]⟩, by dsimp only; omega, (zle 0)⟩
        | false =>
          rw [hl1] at hli
          have key : ∀ b, ((decide (byteAt s i ≥ 48) && decide (byteAt s i ≤ 57)) || byteAt s i == 95) = b → wcF (byteAt s i) = b := by
            intro b hb
            unfold wcF
            rw [← hti, hl1, hti, hb, Bool.false_or]
          cases h48 : decide (byteAt s (i : Int).toNat < 48) with
          | true =>
            cases h95 : byteAt s (i : Int).toNat != 95 with
            | true =>
              have hw : wcF (byteAt s i) = false := key _ (by rw [hti] at h48 h95; simp at h48 h95 ⊢; exact ⟨fun h => by omega, h95⟩)
              repeat' (first | refine zS rfl ?_ | refine qA ?_ | refine qB rfl ?_ | refine qC (by kernel_rfl) ?_ | refine qD ?_ | refine qE ?_ | refine qF ?_ | refine qG ?_ | refine qH rfl ?_ | refine qP rfl rfl rfl rfl rfl rfl b53 (hli) ?_ | refine zT rfl ?_ | refine zU rfl ?_ | refine qL rfl rfl ?_ | refine qM rfl rfl rfl ?_ | refine qO rfl rfl rfl ?_ | refine zX rfl rfl rfl rfl ?_ | refine zW rfl rfl rfl rfl ?_ | (refine qY rfl rfl rfl rfl ?_ ?_ <;> intro _) | exact zD | exact zL)
              rw [hw]; rfl
            | false =>
              have hw : wcF (byteAt s i) = true := key _ (by rw [hti] at h48 h95; simp at h48 h95 ⊢; exact .inr h95)
              repeat' (first | refine zS rfl ?_ | refine qA ?_ | refine qB rfl ?_ | refine qC (by kernel_rfl) ?_ | refine qD ?_ | refine qE ?_ | refine qF ?_ | refine qG ?_ | refine qH rfl ?_ | refine qP rfl rfl rfl rfl rfl rfl b53 (hli) ?_ | refine zT rfl ?_ | refine zU rfl ?_ | refine qL rfl rfl ?_ | refine qM rfl rfl rfl ?_ | refine qO rfl rfl rfl ?_ | refine zX rfl rfl rfl rfl ?_ | refine zW rfl rfl rfl rfl ?_ | (refine qY rfl rfl rfl rfl ?_ ?_ <;> intro _) | exact zD | exact zL)
              refine go_stop ?_
              exact ⟨⟨i + 1, by omega, by rw [ok, drop_at (range_at hlt), List.all_cons, hw, Bool.true_and]⟩, by dsimp only; omega, (zle 0)⟩
          | false =>
            cases h57 : decide (byteAt s (i : Int).toNat > 57) with
            | false =>
              have hw : wcF (byteAt s i) = true := key _ (by rw [hti] at h48 h57; simp at h48 h57 ⊢; exact .inl ⟨h48, h57⟩)
              repeat' (first | refine zS rfl ?_ | refine qA ?_ | refine qB rfl ?_ | refine qC (by kernel_rfl) ?_ | refine qD ?_ | refine qE ?_ | refine qF ?_ | refine qG ?_ | refine qH rfl ?_ | refine qP rfl rfl rfl rfl rfl rfl b53 (hli) ?_ | refine zT rfl ?_ | refine zU rfl ?_ | refine qL rfl rfl ?_ | refine qM rfl rfl rfl ?_ | refine qO rfl rfl rfl ?_ | refine zX rfl rfl rfl rfl ?_ | refine zW rfl rfl rfl rfl ?_ | (refine qY rfl rfl rfl rfl ?_ ?_ <;> intro _) | exact zD | exact zL)
              refine go_stop ?_
              exact ⟨⟨i + 1, by omega, by rw [ok, drop_at (range_at hlt), List.all_cons, hw, Bool.true_and]⟩, by dsimp only; omega, (zle 0)⟩
            | true =>
              cases h95 : byteAt s (i : Int).toNat != 95 with
              | true =>
                have hw : wcF (byteAt s i) = false := key _ (by rw [hti] at h48 h57 h95; simp at h48 h57 h95 ⊢; exact ⟨fun h => by omega, h95⟩)
                repeat' (first | refine zS rfl ?_ | refine qA ?_ | refine qB rfl ?_ | refine qC (by kernel_rfl) ?_ | refine qD ?_ | refine qE ?_ | refine qF ?_ | refine qG ?_ | refine qH rfl ?_ | refine qP rfl rfl rfl rfl rfl rfl b53 (hli) ?_ | refine zT rfl ?_ | refine zU rfl ?_ | refine qL rfl rfl ?_ | refine qM rfl rfl rfl ?_ | refine qO rfl rfl rfl ?_ | refine zX rfl rfl rfl rfl ?_ | refine zW rfl rfl rfl rfl ?_ | (refine qY rfl rfl rfl rfl ?_ ?_ <;> intro _) | exact zD | exact zL)
                rw [hw]; rfl
              | false =>
                have hw : wcF (byteAt s i) = true := key _ (by rw [hti] at h95; simp at h95 ⊢; exact .inr h95)
                repeat' (first | refine zS rfl ?_ | refine qA ?_ | refine qB rfl ?_ | refine qC (by kernel_rfl) ?_ | refine qD ?_ | refine qE ?_ | refine qF ?_ | refine qG ?_ | refine qH rfl ?_ | refine qP rfl rfl rfl rfl rfl rfl b53 (hli) ?_ | refine zT rfl ?_ | refine zU rfl ?_ | refine qL rfl rfl ?_ | refine qM rfl rfl rfl ?_ | refine qO rfl rfl rfl ?_ | refine zX rfl rfl rfl rfl ?_ | refine zW rfl rfl rfl rfl ?_ | (refine qY rfl rfl rfl rfl ?_ ?_ <;> intro _) | exact zD | exact zL)
                refine go_stop ?_
                exact ⟨⟨i + 1, by omega, by rw [ok, drop_at (range_at hlt), List.all_cons, hw, Bool.true_and]⟩, by dsimp only; omega, (zle 0)⟩
      · have hd : decide ((i : Int) < (s.size : Int)) = false := by simp; omega
        have : (List.range s.size).drop i = [] := List.drop_eq_nil_of_le (by simpa using hge)
        rw [ok, this]
        repeat' (first | refine zS rfl ?_ | refine qA ?_ | refine qB rfl ?_ | refine qC (by kernel_rfl) ?_ | refine qD ?_ | refine qE ?_ | refine qF ?_ | refine qG ?_ | refine qH rfl ?_ | refine zT rfl ?_ | refine zU rfl ?_ | refine qL rfl rfl ?_ | refine qM rfl rfl rfl ?_ | refine qO rfl rfl rfl ?_ | refine zX rfl rfl rfl rfl ?_ | refine zW rfl rfl rfl rfl ?_ | (refine qY rfl rfl rfl rfl ?_ ?_ <;> intro _) | exact zD | exact zL)
end Go.Proofs.YtkjebcnlmanhlaaGreatDoor

/- Graphs and bindings as data, and the reference's look-ups in them. Conditions: none. -/
namespace Go.Proofs.YtkjebcnlmanhlaaGreatDoor
open Go Go.Abs Go.Val
attribute [local irreducible] go SGo HasBody Ev ExtEv EvO EvS

structure Pr where
  key : ByteArray
  v : V
structure Nd where
  id : Int
  labels : List ByteArray
  props : List Pr
structure Ed where
  id : Int
  src : Int
  dst : Int
  ty : ByteArray
  props : List Pr
structure Gr where
  nodes : List Nd
  edges : List Ed
  nn : Int
  ne : Int
def encPr (p : Pr) : D := .agg [.str p.key, .int p.v.k, .int p.v.n, .int p.v.d, .str p.v.s, .sl (kids p.v)]
def encNd (n : Nd) : D := .agg [.int n.id, .sl (n.labels.map .str), .sl (n.props.map encPr)]
def encEd (e : Ed) : D := .agg [.int e.id, .int e.src, .int e.dst, .str e.ty, .sl (e.props.map encPr)]
def encGr (g : Gr) : D := .agg [.sl (g.nodes.map encNd), .sl (g.edges.map encEd), .int g.nn, .int g.ne]
theorem map_at {α β : Type} {l : List α} {f : α → β} {i : Nat} {x : α} (h : l[i]? = some x) : (l.map f)[(i : Int).toNat]? = some (f x) := by
  rw [Int.toNat_natCast, List.getElem?_map, h]; rfl
theorem fit_map {α : Type} {l : List α} {f : α → D} (h : Fit (.sl (l.map f))) : l.length ≤ 9223372036854775807 ∧ ∀ x ∈ l, Fit (f x) := by
  have h5 := h.sls
  rw [List.length_map] at h5
  exact ⟨h5.1, fun x hx => h5.2 _ (List.mem_map_of_mem hx)⟩
theorem fit_gr {g : Gr} (h : Fit (encGr g)) : Fit (.sl (g.nodes.map encNd)) ∧ Fit (.sl (g.edges.map encEd)) :=
  ⟨h.aggs _ (by simp), h.aggs _ (by simp)⟩
theorem find_at {α : Type} {l : List α} {f : α → Bool} {i : Nat} {x : α} (h : l[i]? = some x) : (l.drop i).find? f = bif f x then some x else (l.drop (i + 1)).find? f := by
  rw [drop_at h, List.find?_cons]
  cases f x <;> rfl
def nd0 : Nd := ⟨0, [], []⟩
def hasF (l : List ByteArray) (s : ByteArray) : Bool := l.any fun x => x.toList == s.toList
end Go.Proofs.YtkjebcnlmanhlaaGreatDoor

/- Membership in lists of names, by the library. Conditions: none. -/
namespace Go.Proofs.YtkjebcnlmanhlaaGreatDoor
open Go Go.Abs Go.Val
attribute [local irreducible] go SGo HasBody Ev ExtEv EvO EvS

def idxF (s : ByteArray) : List ByteArray → Nat → Int
  | [], _ => -1
  | x :: r, i => bif s.toList == x.toList then (i : Int) else idxF s r (i + 1)
theorem idxF_ge (s : ByteArray) : ∀ (l : List ByteArray) (i : Nat), decide (idxF s l i ≥ 0) = hasF l s
  | [], i => rfl
  | x :: r, i => by
    rw [idxF, hasF, List.any_cons]
    have hc : (x.toList == s.toList) = (s.toList == x.toList) := by
      rw [Bool.eq_iff_iff, beq_iff_eq, beq_iff_eq]; exact ⟨fun h => h.symm, fun h => h.symm⟩
    rw [hc]
    cases s.toList == x.toList with
    | true => simp
    | false => rw [cond_false, Bool.false_or]; exact idxF_ge s r (i + 1)
theorem idxF_at {l : List ByteArray} {s x : ByteArray} {i : Nat} (h : l[i]? = some x) : idxF s (l.drop i) i = bif s.toList == x.toList then (i : Int) else idxF s (l.drop (i + 1)) (i + 1) := by
  rw [drop_at h]; rfl
structure SIx (l : List ByteArray) (s : ByteArray) where
  i : Nat
  hi : i ≤ l.length
  ok : idxF s l 0 = idxF s (l.drop i) i
theorem sindex_ev (l : List ByteArray) (s : ByteArray) : Ev E 56 [.sl (l.map .str), .str s] (.d (.int (idxF s l 0))) := Ev.fit fun hfit => by
  obtain ⟨hmax, -⟩ := fit_map (l := l) (f := D.str) (hfit _ (by simp))
  have hle : (l.map D.str).length = l.length := by simp
  refine enter2 Tryz.func56 Tryz.ntmps56 rfl rfl fun w0 F0 O => ?_
  repeat' (first | refine zS rfl ?_ | refine qA ?_ | refine qB rfl ?_ | refine qD ?_ | refine qF ?_)
  refine go_loop_ (α := SIx l s) (fun p => ⟨[(0, .d (.sl (l.map .str))), (1, .d (.str s)), (6, .d (.sl (l.map .str))), (7, .d (.int (l.map D.str).length)), (8, .d (.int p.i))], []⟩) (fun p => l.length - p.i) ⟨0, by omega, rfl⟩ ((zle 0)) ?_
  rintro ⟨i, hi, ok⟩
  dsimp only
  rcases Nat.lt_or_ge i l.length with hlt | hge
  · have g1 : decide ((i : Int) < ((l.map D.str).length : Int)) = true := by rw [hle]; simpa using hlt
    have hx0 := List.getElem?_eq_getElem hlt
    generalize l[i] = x at hx0
    have hx := map_at (f := D.str) hx0
    rw [ok, idxF_at hx0]
    cases hc : s.toList == x.toList with
    | true =>
      repeat' (first | refine zS rfl ?_ | refine qA ?_ | refine qB rfl ?_ | refine qD ?_ | refine qE ?_ | refine qF ?_ | refine qI (.str x) rfl (guardX_ok rfl) rfl rfl rfl rfl rfl rfl (by first | omega | decide) hx ?_ | refine zT rfl ?_ | refine qL rfl rfl ?_ | exact zD)
    | false =>
      repeat' (first | refine zS rfl ?_ | refine qA ?_ | refine qB rfl ?_ | refine qD ?_ | refine qE ?_ | refine qF ?_ | refine qG ?_ | refine qI (.str x) rfl (guardX_ok rfl) rfl rfl rfl rfl rfl rfl (by first | omega | decide) hx ?_ | refine zT rfl ?_ | refine zU rfl ?_)
      refine go_stop ?_
      exact ⟨⟨i + 1, by omega, by rw [ok, idxF_at hx0, hc]; rfl⟩, by dsimp only; omega, (zle 0)⟩
  · have g1 : decide ((i : Int) < ((l.map D.str).length : Int)) = false := by rw [hle]; simp; omega
    rw [ok, List.drop_eq_nil_of_le hge]
    repeat' (first | refine zS rfl ?_ | refine qA ?_ | refine qB rfl ?_ | refine qD ?_ | refine qH rfl ?_ | refine zU rfl ?_ | refine qL rfl rfl ?_ | exact zD)
theorem scontains_ev (l : List ByteArray) (s : ByteArray) : Ev E 28 [.sl (l.map .str), .str s] (.d (.bool (hasF l s))) := by
  have h := sindex_ev l s
  rw [← idxF_ge s l 0]
  refine enter2 Tryz.func28 Tryz.ntmps28 rfl rfl fun w0 F0 O => ?_
  repeat' (first | refine zS rfl ?_ | refine qA ?_ | refine qB rfl ?_ | refine qD ?_ | refine qP rfl rfl rfl rfl rfl rfl b56 (h) ?_ | refine qL rfl rfl ?_ | exact zD)
theorem hasLabel_ev (n : Nd) (s : ByteArray) : Ev E 11 [encNd n, .str s] (.d (.bool (hasF n.labels s))) := by
  have h := scontains_ev n.labels s
  refine enter2 Tryz.func11 Tryz.ntmps11 rfl rfl fun w0 F0 O => ?_
  repeat' (first | refine zS rfl ?_ | refine qA ?_ | refine qB rfl ?_ | refine qD ?_ | refine qP rfl rfl rfl rfl rfl rfl b28 (h) ?_ | refine qL rfl rfl ?_ | exact zD)
end Go.Proofs.YtkjebcnlmanhlaaGreatDoor

/- The library's stable sort on lists: what it does to a list, that the result is the list in another order, that it is sorted, and that such a list is unique. Conditions: a comparison that is antisymmetric and transitive; uniqueness: that is zero at equal elements alone. -/
namespace Go.Proofs.YtkjebcnlmanhlaaGreatDoor

section
variable {α : Type} [Inhabited α]
def atS (l : List α) (k : Nat) : α := l.getD k default

/-- l' is l with the places from lo to hi in another order. -/
structure Rch (lo hi : Nat) (l l' : List α) : Prop where
  len : l'.length = l.length
  per : l'.Perm l
  out : ∀ k, k < lo ∨ hi ≤ k → atS l' k = atS l k
  inn : ∀ k, lo ≤ k → k < hi → ∃ k', lo ≤ k' ∧ k' < hi ∧ atS l' k = atS l k'
theorem Rch.refl (lo hi : Nat) (l : List α) : Rch lo hi l l := ⟨rfl, List.Perm.refl _, fun _ _ => rfl, fun k h1 h2 => ⟨k, h1, h2, rfl⟩⟩
theorem Rch.trans {lo hi : Nat} {l l' l'' : List α} (h : Rch lo hi l l') (h' : Rch lo hi l' l'') : Rch lo hi l l'' := by
  refine ⟨by rw [h'.len, h.len], h'.per.trans h.per, fun k hk => by rw [h'.out k hk, h.out k hk], fun k h1 h2 => ?_⟩
  obtain ⟨k', a1, a2, a3⟩ := h'.inn k h1 h2
  obtain ⟨k'', b1, b2, b3⟩ := h.inn k' a1 a2
  exact ⟨k'', b1, b2, by rw [a3, b3]⟩
theorem Rch.mono {lo hi lo' hi' : Nat} {l l' : List α} (h : Rch lo hi l l') (h1 : lo' ≤ lo) (h2 : hi ≤ hi') : Rch lo' hi' l l' := by
  refine ⟨h.len, h.per, fun k hk => h.out k (by omega), fun k a1 a2 => ?_⟩
  by_cases hk : lo ≤ k ∧ k < hi
  · obtain ⟨k', b1, b2, b3⟩ := h.inn k hk.1 hk.2
    exact ⟨k', by omega, by omega, b3⟩
  · exact ⟨k, a1, a2, h.out k (by omega)⟩

def Srt (c : α → α → Int) (l : List α) (a b : Nat) : Prop := ∀ p q, a ≤ p → p < q → q < b → c (atS l p) (atS l q) ≤ 0
theorem Srt.sub {c : α → α → Int} {l : List α} {a b a' b' : Nat} (h : Srt c l a b) (h1 : a ≤ a') (h2 : b' ≤ b) : Srt c l a' b' := fun p q g1 g2 g3 => h p q (by omega) g2 (by omega)
theorem Srt.out {c : α → α → Int} {l l' : List α} {a b lo hi : Nat} (h : Srt c l a b) (hr : Rch lo hi l l') (hd : b ≤ lo ∨ hi ≤ a) : Srt c l' a b := fun p q g1 g2 g3 => by
  rw [hr.out p (by omega), hr.out q (by omega)]
  exact h p q g1 g2 g3

/-! ## Insertion -/
omit [Inhabited α] in

/-! ## Moves -/
def bsF (P : Nat → Bool) (i j : Nat) : Nat := if i < j then bif P ((i + j) / 2) then bsF P ((i + j) / 2 + 1) j else bsF P i ((i + j) / 2) else i
  termination_by j - i
end
end Go.Proofs.YtkjebcnlmanhlaaGreatDoor
