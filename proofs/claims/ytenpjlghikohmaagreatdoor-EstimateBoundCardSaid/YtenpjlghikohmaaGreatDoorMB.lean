/- What the law's own same comes to; What the specification's weighing of values comes to; What the specification's test of smallness comes to; What the law's test of smallness comes to; The specification's wide numbers: their value, and what times, plus, minus, order and sum come to; The specification's product of wide numbers; The specification's sums of wide numbers; The specification's sum of signed wide numbers, and its comparison of fractions; The program's wide numbers and its comparison of fractions; Numbers and strings as text, by both texts; Values as text, by both texts; The program's . Conditions: each part's own, as it says. -/
import Derived.Test.YtenpjlghikohmaaGreatDoorGC
import Derived.Test.YtenpjlghikohmaaGreatDoorMA
import Derived.Test.YtenpjlghikohmaaGreatDoorGA
import Derived.Test.YtenpjlghikohmaaGreatDoorGB
import Derived.Shelf.Spec.BitsCarry
import Derived.Lib.ReplaceLaws
import Derived.Lib.Join
set_option linter.unusedVariables false
set_option linter.unusedSimpArgs false
namespace Go.Proofs.YtenpjlghikohmaaGreatDoor
set_option maxRecDepth 4000
open Go Go.Abs Go.Val Go.Proofs.Tryz
attribute [local irreducible] go SGo HasBody Ev
theorem vind {P : V → Prop} (h : ∀ (k n d : Int) (s : ByteArray) (l : List V), (∀ x ∈ l, P x) → P (.mk k n d s l)) (v : V) : P v :=
 V.rec (motive_1 := P) (motive_2 := fun l => ∀ x ∈ l, P x) (fun k n d s l ih => h k n d s l ih) (fun x hx => by simp at hx)
  (fun a r ha hr x hx => by
   rcases List.mem_cons.1 hx with e | e
   ·rw [e]; exact ha
   ·exact hr x e) v
def encI (l : List Int) : List D := l.map fun n => .int n
theorem encI_get {l : List Int} {i : Nat} {x : Int} (h : l[i]? = some x) : (encI l)[i]? = some (.int x) := by
 unfold encI
 rw [List.getElem?_map, h]
 rfl
theorem encI_len (l : List Int) : (encI l).length = l.length := by simp [encI]
def sgn (n : Int) : Int := if n < 0 then -1 else if n > 0 then 1 else 0
theorem sgn_pos {n : Int} (h : n > 0) : sgn n = 1 := by unfold sgn; rw [if_neg (by omega), if_pos h]
theorem sgn_neg {n : Int} (h : n < 0) : sgn n = -1 := by unfold sgn; rw [if_pos h]
def fzn (n d : Int) : Int := bif fval n d then n else 0
def fzd (n d : Int) : Int := bif fval n d then d else 1
def cmpQ (an ad bn bd : Int) : Int := sgn (fzn an ad * fzd bn bd - fzn bn bd * fzd an ad)
theorem fz_bnd (n d : Int) : -1000000000000000 ≤ fzn n d ∧ fzn n d ≤ 1000000000000000 ∧ 1 ≤ fzd n d ∧ fzd n d ≤ 1000000000000000 := by
 unfold fzn fzd
 cases h : fval n d with
 | false => simp
 | true =>
  simp only [fval, Bool.and_eq_true, decide_eq_true_eq] at h
  have := (inM_iff n).1 h.2.2.1
  simp only [cond_true]
  omega
attribute [local irreducible] ExtEv
theorem fsize_ev (n : Int) : Ev E 394 [.int n] (.d (.imm (.int .u64 (n.natAbs : Int)))) := Ev.fit fun hfit => by
 have hn := (hfit (.int n) (by simp)).int
 simp only [inR] at hn
 by_cases h : n < 0
 ·have g1 : decide (n < 0) = true := by simpa using h
  have w1 : IntKind.u64.wrap n = n + 18446744073709551616 := by simp [IntKind.wrap, IntKind.signed, IntKind.bits]; omega
  have w2 : IntKind.u64.wrap (0 - (n + 18446744073709551616)) = n.natAbs := by simp [IntKind.wrap, IntKind.signed, IntKind.bits]; omega
  refine ye1 func394 ntmps394 fun _ _ _=>?_
  repeat' (first | refine yz ?_ | (refine go_convW _ rfl rfl rfl rfl rfl rfl rfl w1 ?_) | (refine go_negW _ rfl rfl rfl rfl rfl w2 ?_) | exact zD)
 ·have g1 : decide (n < 0) = false := by simpa using h
  have e : (n.natAbs : Int) = n := by omega
  rw [e]
  refine ye1 func394 ntmps394 fun _ _ _=>?_
  repeat' (first | refine yz ?_ | exact zD)
def wideD (neg : Bool) (m : Nat) : D := .agg [.imm (.bool neg), .imm (.int .u64 ((m / 18446744073709551616 : Nat) : Int)), .imm (.int .u64 ((m % 18446744073709551616 : Nat) : Int))]
def sv (neg : Bool) (m : Nat) : Int := bif neg then -(m : Int) else m
theorem mul64_ev (x y : Nat) (hx : x < 18446744073709551616) (hy : y < 18446744073709551616) : Ev E 393 [.imm (.int .u64 (x : Int)), .imm (.int .u64 (y : Int))] (.tup [.imm (.int .u64 ((x * y / 18446744073709551616 : Nat) : Int)), .imm (.int .u64 ((x * y % 18446744073709551616 : Nat) : Int))]) := by
 refine Ev.mk fun w F vs hF hG hl hr => ?_
 match vs, hl with
 | [v, u], _ =>
  obtain ⟨rfl, -⟩ := Rd.imm_inv (hr 0 _ v rfl rfl)
  obtain ⟨rfl, -⟩ := Rd.imm_inv (hr 1 _ u rfl rfl)
  refine (Tryz.bits_Mul64 x y hx hy w).mono ?_
  rintro e w' ⟨rfl, rfl⟩
  refine ⟨_, F, rfl, Ext.refl hF, [_, _], rfl, rfl, fun i d v hd hv => ?_⟩
  have hq : x * y / 18446744073709551616 < 18446744073709551616 := by
   have : x * y < 18446744073709551616 * 18446744073709551616 := Nat.mul_lt_mul_of_lt_of_le hx (Nat.le_of_lt hy) (by omega)
   exact Nat.div_lt_of_lt_mul this
  have hm : x * y % 18446744073709551616 < 18446744073709551616 := Nat.mod_lt _ (by omega)
  match i with
  | 0 => simp at hd hv; subst hd hv; exact Rd.imm _ (inR_ok (k := .u64) (by simp only [inR]; omega))
  | 1 => simp at hd hv; subst hd hv; exact Rd.imm _ (inR_ok (k := .u64) (by simp only [inR]; omega))
  | i + 2 => simp at hd
theorem product_ev (a b : Int) : Ev E 371 [.int a, .int b] (.d (wideD (!(decide (a < 0) == decide (b < 0))) (a.natAbs * b.natAbs))) := Ev.fit fun hfit => by
 have ha := (hfit (.int a) (by simp)).int
 have hb := (hfit (.int b) (by simp)).int
 simp only [inR] at ha hb
 have h1 := fsize_ev a
 have h2 := fsize_ev b
 have h3 := mul64_ev a.natAbs b.natAbs (by omega) (by omega)
 refine ye2 func371 ntmps371 fun _ _ _=>?_
 repeat' (first | refine yz ?_ | refine yp b394 h1 ?_ | refine yp b394 h2 ?_ | refine yp b393 h3 ?_ | exact zD)
theorem wless_ev (p q : Bool) (m n : Nat) : Ev E 396 [wideD p m, wideD q n] (.d (.bool (decide (m < n)))) := by
 have e1 : decide (((m / 18446744073709551616 : Nat) : Int) < ((n / 18446744073709551616 : Nat) : Int)) = decide (m / 18446744073709551616 < n / 18446744073709551616) := by simp only [decide_eq_decide]; omega
 rcases Nat.lt_trichotomy (m / 18446744073709551616) (n / 18446744073709551616) with h | h | h
 ·have g1 : decide (((m / 18446744073709551616 : Nat) : Int) < ((n / 18446744073709551616 : Nat) : Int)) = true := by simp only [decide_eq_true_eq]; omega
  have g3 : decide (m < n) = true := by simp only [decide_eq_true_eq]; omega
  rw [g3]
  refine ye2 func396 ntmps396 fun _ _ _=>?_
  repeat' (first | refine yz ?_ | refine yx ?_ | exact zD)
 ·have g1 : decide (((m / 18446744073709551616 : Nat) : Int) < ((n / 18446744073709551616 : Nat) : Int)) = false := by simp only [decide_eq_false_iff_not]; omega
  have g2 : (((m / 18446744073709551616 : Nat) : Int) == ((n / 18446744073709551616 : Nat) : Int)) = true := by simp only [beq_iff_eq]; omega
  have g3 : decide (m < n) = decide (((m % 18446744073709551616 : Nat) : Int) < ((n % 18446744073709551616 : Nat) : Int)) := by simp only [decide_eq_decide]; omega
  rw [g3]
  refine ye2 func396 ntmps396 fun _ _ _=>?_
  repeat' (first | refine yz ?_ | refine yx ?_ | exact zD)
 ·have g1 : decide (((m / 18446744073709551616 : Nat) : Int) < ((n / 18446744073709551616 : Nat) : Int)) = false := by simp only [decide_eq_false_iff_not]; omega
  have g2 : (((m / 18446744073709551616 : Nat) : Int) == ((n / 18446744073709551616 : Nat) : Int)) = false := by simp only [beq_eq_false_iff_ne]; omega
  have g3 : decide (m < n) = false := by simp only [decide_eq_false_iff_not]; omega
  rw [g3]
  refine ye2 func396 ntmps396 fun _ _ _=>?_
  repeat' (first | refine yz ?_ | refine yx ?_ | exact zD)
theorem add64_run (x y c : Nat) (hc : c ≤ 1) (w : World) : (callFunc 395 [Value.int .u64 (x : Int), .int .u64 (y : Int), .int .u64 (c : Int)].toArray).run E.P w =
  .ok (.value (.tuple #[.int .u64 (((x + y + c) % 18446744073709551616 : Nat) : Int), .int .u64 (((x + y + c) / 18446744073709551616 : Nat) : Int)])) w := by
 have := run_callFunc_extern func395 (by kernel_rfl) (by kernel_rfl) (by kernel_rfl) (e := add64Entry) (by kernel_rfl) #[.int .u64 (x : Int), .int .u64 (y : Int), .int .u64 (c : Int)] w
 refine this.trans ?_
 rw [run_add64 x y c (by omega) (by omega) (by omega) (by omega)]
 simp only [Result.andThen]
 congr 5 <;> omega
theorem sub64_run (x y b : Nat) (hb : b ≤ 1) (w : World) : (callFunc 397 [Value.int .u64 (x : Int), .int .u64 (y : Int), .int .u64 (b : Int)].toArray).run E.P w =
  .ok (.value (.tuple #[.int .u64 (((x + 18446744073709551616 - y - b) % 18446744073709551616 : Nat) : Int), .int .u64 ((if x < y + b then 1 else 0 : Nat) : Int)])) w := by
 have := run_callFunc_extern func397 (by kernel_rfl) (by kernel_rfl) (by kernel_rfl) (e := sub64Entry) (by kernel_rfl) #[.int .u64 (x : Int), .int .u64 (y : Int), .int .u64 (b : Int)] w
 refine this.trans ?_
 rw [run_sub64 x y b hb]
 rfl
theorem pair_rd {a b : Nat} (ha : a < 18446744073709551616) (hb : b < 18446744073709551616) (w : World) (F : Nat → Prop) : RdX w F [] (.tup [.imm (.int .u64 (a : Int)), .imm (.int .u64 (b : Int))]) (.tuple #[.int .u64 (a : Int), .int .u64 (b : Int)]) := by
 refine ⟨[_, _], rfl, rfl, fun i d v hd hv => ?_⟩
 match i with
 | 0 => simp at hd hv; subst hd hv; exact Rd.imm _ (inR_ok (k := .u64) (by simp only [inR]; omega))
 | 1 => simp at hd hv; subst hd hv; exact Rd.imm _ (inR_ok (k := .u64) (by simp only [inR]; omega))
 | i + 2 => simp at hd
def wsum (p q : Bool) (m n : Nat) : Bool × Nat := bif p == q then (p, m + n) else (bif decide (m < n) then (q, n - m) else (p, m - n))
theorem wsum_sv (p q : Bool) (m n : Nat) : sv (wsum p q m n).1 (wsum p q m n).2 = sv p m + sv q n := by
 cases p <;> cases q <;> (simp only [wsum, sv]; cases h : decide (m < n) <;> simp at h <;> simp <;> omega)
theorem wsum_le (p q : Bool) (m n : Nat) : (wsum p q m n).2 ≤ m + n := by
 unfold wsum
 cases p == q <;> cases decide (m < n) <;> simp <;> omega
theorem wplus_ev (p q : Bool) (m n : Nat) (hm : m ≤ 1000000000000000000000000000000) (hn : n ≤ 1000000000000000000000000000000) : Ev E 372 [wideD p m, wideD q n] (.d (wideD (wsum p q m n).1 (wsum p q m n).2)) := by
 cases hpq : p == q with
 | true =>
  have e : wsum p q m n = (p, m + n) := by unfold wsum; rw [hpq]; rfl
  rw [e]
  have a1 := add64_run (m % 18446744073709551616) (n % 18446744073709551616) 0 (by omega)
  have a2 := add64_run (m / 18446744073709551616) (n / 18446744073709551616) ((m % 18446744073709551616 + n % 18446744073709551616 + 0) / 18446744073709551616) (by omega)
  have r1 := pair_rd (a := (m % 18446744073709551616 + n % 18446744073709551616 + 0) % 18446744073709551616) (b := (m % 18446744073709551616 + n % 18446744073709551616 + 0) / 18446744073709551616) (by omega) (by omega)
  have r2 := pair_rd (a := (m / 18446744073709551616 + n / 18446744073709551616 + (m % 18446744073709551616 + n % 18446744073709551616 + 0) / 18446744073709551616) % 18446744073709551616) (b := (m / 18446744073709551616 + n / 18446744073709551616 + (m % 18446744073709551616 + n % 18446744073709551616 + 0) / 18446744073709551616) / 18446744073709551616) (by omega) (by omega)
  have d1 : (m / 18446744073709551616 + n / 18446744073709551616 + (m % 18446744073709551616 + n % 18446744073709551616 + 0) / 18446744073709551616) % 18446744073709551616 = (m + n) / 18446744073709551616 := by omega
  have d2 : (m % 18446744073709551616 + n % 18446744073709551616 + 0) % 18446744073709551616 = (m + n) % 18446744073709551616 := by omega
  unfold wideD
  rw [← d1, ← d2]
  clear d1 d2 e
  replace a1 := ExtEv.mk a1 r1
  replace a2 := ExtEv.mk a2 r2
  clear r1 r2
  generalize m / 18446744073709551616 = mh at *
  generalize m % 18446744073709551616 = ml at *
  generalize n / 18446744073709551616 = nh at *
  generalize n % 18446744073709551616 = nl at *
  generalize (ml + nl + 0) % 18446744073709551616 = lo at *
  generalize (ml + nl + 0) / 18446744073709551616 = c1 at *
  generalize (mh + nh + c1) % 18446744073709551616 = hi at *
  generalize (mh + nh + c1) / 18446744073709551616 = c2 at *
  refine ye2 func372 ntmps372 fun _ _ _=>?_
  repeat' (first | refine yz ?_ | refine go_callV rfl rfl rfl rfl rfl a1 rfl ?_ | refine go_callV rfl rfl rfl rfl rfl a2 rfl ?_ | exact zD)
 | false =>
  have hl := wless_ev p q m n
  have key : ∀ (p' q' : Bool) (m' n' : Nat), n' ≤ m' → m' ≤ 1000000000000000000000000000000 → True := fun _ _ _ _ _ _ => trivial
  cases hlt : decide (m < n) with
  | true =>
   have e : wsum p q m n = (q, n - m) := by unfold wsum; rw [hpq, hlt]; rfl
   rw [e]
   rw [hlt] at hl
   have hmn : m < n := of_decide_eq_true hlt
   have a1 := sub64_run (n % 18446744073709551616) (m % 18446744073709551616) 0 (by omega)
   have a2 := sub64_run (n / 18446744073709551616) (m / 18446744073709551616) (if n % 18446744073709551616 < m % 18446744073709551616 + 0 then 1 else 0) (by split <;> omega)
   have r1 := pair_rd (a := (n % 18446744073709551616 + 18446744073709551616 - m % 18446744073709551616 - 0) % 18446744073709551616) (b := if n % 18446744073709551616 < m % 18446744073709551616 + 0 then 1 else 0) (by omega) (by split <;> omega)
   have r2 := pair_rd (a := (n / 18446744073709551616 + 18446744073709551616 - m / 18446744073709551616 - (if n % 18446744073709551616 < m % 18446744073709551616 + 0 then 1 else 0)) % 18446744073709551616) (b := if n / 18446744073709551616 < m / 18446744073709551616 + (if n % 18446744073709551616 < m % 18446744073709551616 + 0 then 1 else 0) then 1 else 0) (by omega) (by split <;> split <;> omega)
   have d1 : (n / 18446744073709551616 + 18446744073709551616 - m / 18446744073709551616 - (if n % 18446744073709551616 < m % 18446744073709551616 + 0 then 1 else 0)) % 18446744073709551616 = (n - m) / 18446744073709551616 := by split <;> omega
   have d2 : (n % 18446744073709551616 + 18446744073709551616 - m % 18446744073709551616 - 0) % 18446744073709551616 = (n - m) % 18446744073709551616 := by omega
   unfold wideD at *
   rw [← d1, ← d2]
   clear d1 d2 e
   replace a1 := ExtEv.mk a1 r1
   replace a2 := ExtEv.mk a2 r2
   clear r1 r2
   generalize m / 18446744073709551616 = mh at *
   generalize m % 18446744073709551616 = ml at *
   generalize n / 18446744073709551616 = nh at *
   generalize n % 18446744073709551616 = nl at *
   generalize (if nl < ml + 0 then 1 else 0 : Nat) = bo at *
   generalize (nl + 18446744073709551616 - ml - 0) % 18446744073709551616 = lo at *
   generalize (nh + 18446744073709551616 - mh - bo) % 18446744073709551616 = hi at *
   generalize (if nh < mh + bo then 1 else 0 : Nat) = c2 at *
   refine ye2 func372 ntmps372 fun _ _ _=>?_
   repeat' (first | refine yz ?_ | refine yp b396 hl ?_ | refine go_callV rfl rfl rfl rfl rfl a1 rfl ?_ | refine go_callV rfl rfl rfl rfl rfl a2 rfl ?_ | exact zD)
  | false =>
   have e : wsum p q m n = (p, m - n) := by unfold wsum; rw [hpq, hlt]; rfl
   rw [e]
   rw [hlt] at hl
   have hmn : ¬ m < n := of_decide_eq_false hlt
   have a1 := sub64_run (m % 18446744073709551616) (n % 18446744073709551616) 0 (by omega)
   have a2 := sub64_run (m / 18446744073709551616) (n / 18446744073709551616) (if m % 18446744073709551616 < n % 18446744073709551616 + 0 then 1 else 0) (by split <;> omega)
   have r1 := pair_rd (a := (m % 18446744073709551616 + 18446744073709551616 - n % 18446744073709551616 - 0) % 18446744073709551616) (b := if m % 18446744073709551616 < n % 18446744073709551616 + 0 then 1 else 0) (by omega) (by split <;> omega)
   have r2 := pair_rd (a := (m / 18446744073709551616 + 18446744073709551616 - n / 18446744073709551616 - (if m % 18446744073709551616 < n % 18446744073709551616 + 0 then 1 else 0)) % 18446744073709551616) (b := if m / 18446744073709551616 < n / 18446744073709551616 + (if m % 18446744073709551616 < n % 18446744073709551616 + 0 then 1 else 0) then 1 else 0) (by omega) (by split <;> split <;> omega)
   have d1 : (m / 18446744073709551616 + 18446744073709551616 - n / 18446744073709551616 - (if m % 18446744073709551616 < n % 18446744073709551616 + 0 then 1 else 0)) % 18446744073709551616 = (m - n) / 18446744073709551616 := by split <;> omega
   have d2 : (m % 18446744073709551616 + 18446744073709551616 - n % 18446744073709551616 - 0) % 18446744073709551616 = (m - n) % 18446744073709551616 := by omega
   unfold wideD at *
   rw [← d1, ← d2]
   clear d1 d2 e
   replace a1 := ExtEv.mk a1 r1
   replace a2 := ExtEv.mk a2 r2
   clear r1 r2
   generalize m / 18446744073709551616 = mh at *
   generalize m % 18446744073709551616 = ml at *
   generalize n / 18446744073709551616 = nh at *
   generalize n % 18446744073709551616 = nl at *
   generalize (if ml < nl + 0 then 1 else 0 : Nat) = bo at *
   generalize (ml + 18446744073709551616 - nl - 0) % 18446744073709551616 = lo at *
   generalize (mh + 18446744073709551616 - nh - bo) % 18446744073709551616 = hi at *
   generalize (if mh < nh + bo then 1 else 0 : Nat) = c2 at *
   refine ye2 func372 ntmps372 fun _ _ _=>?_
   repeat' (first | refine yz ?_ | refine yp b396 hl ?_ | refine go_callV rfl rfl rfl rfl rfl a1 rfl ?_ | refine go_callV rfl rfl rfl rfl rfl a2 rfl ?_ | exact zD)
theorem or_run (t : TypeId) (a b : Nat) (ha : a < 18446744073709551616) (hb : b < 18446744073709551616) (w : World) : (binOp .or t (.int .u64 (a : Int)) (.int .u64 (b : Int))).run E.P w = .ok (.int .u64 ((a ||| b : Nat) : Int)) w := by
 have h1 : BitVec.ofInt 64 (a : Int) = BitVec.ofNat 64 a := by simp
 have h2 : BitVec.ofInt 64 (b : Int) = BitVec.ofNat 64 b := by simp
 have hor : a ||| b < 18446744073709551616 := Nat.or_lt_two_pow (n := 64) ha hb
 have h3 : (BitVec.ofNat 64 a ||| BitVec.ofNat 64 b).toNat = a ||| b := by
  rw [BitVec.toNat_or, BitVec.toNat_ofNat, BitVec.toNat_ofNat, Nat.mod_eq_of_lt ha, Nat.mod_eq_of_lt hb]
 have hw : IntKind.u64.wrap ((a ||| b : Nat) : Int) = ((a ||| b : Nat) : Int) := inR_wrap (k := .u64) (by simp only [inR]; omega)
 show (Op.intBits .or .u64 (a : Int) (b : Int)).run E.P w = _
 simp only [Op.intBits]
 show (pure (Value.int .u64 (IntKind.u64.wrap (BitVec.ofInt 64 (a : Int) ||| BitVec.ofInt 64 (b : Int)).toNat)) : Sem Value).run E.P w = _
 rw [h1, h2, h3, hw]
 rfl
theorem wsign_ev (p : Bool) (m : Nat) (hm : m < 18446744073709551616 * 18446744073709551616) : Ev E 373 [wideD p m] (.d (.int (sgn (sv p m)))) := by
 have hr := or_run 277 (m / 18446744073709551616) (m % 18446744073709551616) (Nat.div_lt_of_lt_mul hm) (Nat.mod_lt _ (by omega))
 have hor : m / 18446744073709551616 ||| m % 18446744073709551616 < 18446744073709551616 := Nat.or_lt_two_pow (n := 64) (Nat.div_lt_of_lt_mul hm) (Nat.mod_lt _ (by omega))
 have hok : Go.Abs.okV (.int .u64 ((m / 18446744073709551616 ||| m % 18446744073709551616 : Nat) : Int)) = true := inR_ok (k := .u64) (by simp only [inR]; omega)
 by_cases h0 : m = 0
 ·subst h0
  have e : sgn (sv p 0) = 0 := by cases p <;> rfl
  rw [e]
  refine ye1 func373 ntmps373 fun _ _ _=>?_
  repeat' (first | refine yz ?_ | (refine go_binW _ rfl rfl rfl rfl rfl rfl hr hok ?_) | exact zD)
 ·have g1 : (((m / 18446744073709551616 ||| m % 18446744073709551616 : Nat) : Int) == 0) = false := by
   rw [beq_eq_false_iff_ne]
   intro h
   have h' : m / 18446744073709551616 ||| m % 18446744073709551616 = 0 := by omega
   rw [Nat.or_eq_zero_iff] at h'
   omega
  cases p with
  | true =>
   rw [sgn_neg (show sv true m < 0 by simp only [sv, cond_true]; omega)]
   refine ye1 func373 ntmps373 fun _ _ _=>?_
   repeat' (first | refine yz ?_ | (refine go_binW _ rfl rfl rfl rfl rfl rfl hr hok ?_) | exact zD)
  | false =>
   rw [sgn_pos (show sv false m > 0 by simp only [sv, cond_false]; omega)]
   refine ye1 func373 ntmps373 fun _ _ _=>?_
   repeat' (first | refine yz ?_ | (refine go_binW _ rfl rfl rfl rfl rfl rfl hr hok ?_) | exact zD)
theorem sv_mul (a b : Int) : sv (!(decide (a < 0) == decide (b < 0))) (a.natAbs * b.natAbs) = a * b := by
 have e : ((a.natAbs * b.natAbs : Nat) : Int) = (a.natAbs : Int) * b.natAbs := Int.natCast_mul _ _
 by_cases ha : a < 0 <;> by_cases hb : b < 0
 ·rw [show decide (a < 0) = true by simpa using ha, show decide (b < 0) = true by simpa using hb]
  show ((a.natAbs * b.natAbs : Nat) : Int) = _
  rw [e, show (a.natAbs : Int) = -a by omega, show (b.natAbs : Int) = -b by omega, Int.neg_mul_neg]
 ·rw [show decide (a < 0) = true by simpa using ha, show decide (b < 0) = false by simpa using hb]
  show -((a.natAbs * b.natAbs : Nat) : Int) = _
  rw [e, show (a.natAbs : Int) = -a by omega, show (b.natAbs : Int) = b by omega, Int.neg_mul, Int.neg_neg]
 ·rw [show decide (a < 0) = false by simpa using ha, show decide (b < 0) = true by simpa using hb]
  show -((a.natAbs * b.natAbs : Nat) : Int) = _
  rw [e, show (a.natAbs : Int) = a by omega, show (b.natAbs : Int) = -b by omega, Int.mul_neg, Int.neg_neg]
 ·rw [show decide (a < 0) = false by simpa using ha, show decide (b < 0) = false by simpa using hb]
  show ((a.natAbs * b.natAbs : Nat) : Int) = _
  rw [e, show (a.natAbs : Int) = a by omega, show (b.natAbs : Int) = b by omega]
theorem nat_mul_bnd {a b : Int} (ha : -1000000000000000 ≤ a ∧ a ≤ 1000000000000000) (hb : -1000000000000000 ≤ b ∧ b ≤ 1000000000000000) : a.natAbs * b.natAbs ≤ 1000000000000000000000000000000 := by
 have := Nat.mul_le_mul (show a.natAbs ≤ 1000000000000000 by omega) (show b.natAbs ≤ 1000000000000000 by omega)
 omega
theorem cmp_ev (an ad bn bd : Int) : Ev E 310 [.agg [.int an, .int ad], .agg [.int bn, .int bd]] (.d (.int (cmpQ an ad bn bd))) := by
 have h1 := fz_bnd an ad
 have h2 := fz_bnd bn bd
 have hva := fvalid_ev an ad
 have hvb := fvalid_ev bn bd
 have key : ∀ n d n' d' : Int, (-1000000000000000 ≤ n ∧ n ≤ 1000000000000000) → (1 ≤ d ∧ d ≤ 1000000000000000) → (-1000000000000000 ≤ n' ∧ n' ≤ 1000000000000000) → (1 ≤ d' ∧ d' ≤ 1000000000000000) →
   ∃ (p q r : Bool) (m m' m'' : Nat), Ev E 371 [.int n, .int d'] (.d (wideD p m)) ∧ Ev E 371 [.int (0 - n'), .int d] (.d (wideD q m')) ∧ Ev E 372 [wideD p m, wideD q m'] (.d (wideD r m'')) ∧ Ev E 373 [wideD r m''] (.d (.int (sgn (n * d' - n' * d)))) := by
  intro n d n' d' hn hd hn' hd'
  have b1 := nat_mul_bnd (a := n) (b := d') hn (by omega)
  have b2 := nat_mul_bnd (a := 0 - n') (b := d) (by omega) (by omega)
  refine ⟨_, _, _, _, _, _, product_ev n d', product_ev (0 - n') d, wplus_ev _ _ _ _ b1 b2, ?_⟩
  have hle := wsum_le (!(decide (n < 0) == decide (d' < 0))) (!(decide (0 - n' < 0) == decide (d < 0))) (n.natAbs * d'.natAbs) ((0 - n').natAbs * d.natAbs)
  have hs := wsign_ev (wsum (!(decide (n < 0) == decide (d' < 0))) (!(decide (0 - n' < 0) == decide (d < 0))) (n.natAbs * d'.natAbs) ((0 - n').natAbs * d.natAbs)).1 _ (Nat.lt_of_le_of_lt hle (by omega))
  rw [wsum_sv, sv_mul, sv_mul, Int.zero_sub, Int.neg_mul, ← Int.sub_eq_add_neg, ← Int.zero_sub n'] at hs
  exact hs
 obtain ⟨p, q, r, m, m', m'', e1, e2, e3, e4⟩ := key (fzn an ad) (fzd an ad) (fzn bn bd) (fzd bn bd) (by omega) (by omega) (by omega) (by omega)
 unfold cmpQ
 generalize hres : (fzn an ad * fzd bn bd - fzn bn bd * fzd an ad) = res at *
 clear hres key
 cases ha : fval an ad <;> cases hb : fval bn bd
 all_goals
  rw [ha] at hva
  rw [hb] at hvb
  simp only [fzn, fzd, ha, hb, cond_true, cond_false] at e1 e2 h1 h2
  refine ye2 func310 ntmps310 fun _ _ _=>?_
  repeat' (first | refine yz ?_ | refine yp b367 hva ?_ | refine yp b367 hvb ?_ | refine qP (d := 17) rfl rfl rfl rfl rfl rfl b371 (e1) ?_ | refine yp b371 e2 ?_ | refine yp b372 e3 ?_ | refine yp b373 e4 ?_ | exact zD)
end Go.Proofs.YtenpjlghikohmaaGreatDoor
namespace Go.Proofs.YtenpjlghikohmaaGreatDoor
set_option maxRecDepth 4000
open Go Go.Abs Go.Val Go.RowKit Go.Proofs.Tryz
def bs (l : List UInt8) : ByteArray := ⟨l.toArray⟩
end Go.Proofs.YtenpjlghikohmaaGreatDoor
namespace Go.Proofs.YtenpjlghikohmaaGreatDoor
open Go Go.Abs Go.Val Go.RowKit Go.Proofs.Tryz
attribute [local irreducible] go SGo HasBody Ev ExtEv
end Go.Proofs.YtenpjlghikohmaaGreatDoor
namespace Go.Proofs.YtenpjlghikohmaaGreatDoor
set_option maxRecDepth 4000
open Go Go.Abs Go.Val Go.RowKit Go.Proofs.Tryz
theorem okV_k {v : V} (h : Val.okV v = true) : v.k = 0 ∨ v.k = 1 ∨ v.k = 2 ∨ v.k = 3 ∨ v.k = 4 ∨ v.k = 5 ∨ v.k = 6 ∨ v.k = 7 ∨ v.k = 8 := by
 unfold Val.okV at h
 simp only [okN, okFlat, Bool.or_eq_true, Bool.and_eq_true, beq_iff_eq] at h
 omega
end Go.Proofs.YtenpjlghikohmaaGreatDoor
namespace Go.Proofs.YtenpjlghikohmaaGreatDoor
open Go Go.Abs Go.Val Go.RowKit Go.Proofs.Tryz
attribute [local irreducible] go SGo HasBody Ev ExtEv
set_option maxRecDepth 4000
end Go.Proofs.YtenpjlghikohmaaGreatDoor
namespace Go.Proofs.YtenpjlghikohmaaGreatDoor
set_option maxRecDepth 4000
open Go Go.Abs Go.Val Go.Proofs.Tryz
open Go.RowKit
attribute [local irreducible] Ev EvO ExtEv HasBody SGo go
mutual
def nar : V → Bool
 | .mk _ _ _ _ l => decide (l.length ≤ 2000000) && narL l
def narL : List V → Bool
 | [] => true
 | v :: r => nar v && narL r
end
theorem narL_mem : ∀ {l : List V}, narL l = true → ∀ x ∈ l, nar x = true
 | [], _, x, h => by simp at h
 | v :: r, h, x, hx => by
  simp only [narL, Bool.and_eq_true] at h
  rcases List.mem_cons.1 hx with e | e
  ·rw [e]; exact h.1
  ·exact narL_mem h.2 x e
theorem nar_l {v : V} (h : nar v = true) : v.l.length ≤ 2000000 ∧ narL v.l = true := by
 cases v
 simpa [nar, V.l] using h
theorem clone0_ev : Ev E 314 [.sl []] (.d (.sl [])) := by
 refine ye1 func314 ntmps314 fun _ _ _=>?_
 repeat' (first | refine yz ?_ | (refine go_condm rfl (fun _ => ?_) ?_) | refine go_append0 rfl rfl rfl rfl rfl rfl rfl rfl ?_ | refine yx ?_ | (refine yy ?_ ?_ <;> intro _) | exact zD | exact zL)
theorem encL_cells (l : List V) : ∀ d ∈ encL l, d.cells.length = 5 := fun d hd => by
 rw [encL_map] at hd
 obtain ⟨u, -, rfl⟩ := List.mem_map.1 hd
 rfl
theorem clone_ev (l : List V) (h0 : l ≠ []) (hn : l.length ≤ 2000000) : EvO E 314 [.sl (encL l)] 56 5 (encL l) := by
 have hle : (encL l).length = l.length := encL_len _
 have hne : encL l ≠ [] := by rw [encL_map]; simpa using h0
 refine enterO1 func314 ntmps314 rfl rfl fun w0 F0 O => ?_
 repeat' (first | refine go_buildOwn rfl rfl rfl rfl rfl rfl rfl (by decide) (by decide) ?_ | refine yz ?_ | (refine go_condm rfl (fun h => absurd h hne) ?_) | refine yx ?_ | (refine yy ?_ ?_ <;> intro _) | exact zD | exact zL)
 refine qS rfl ⟨hne, encL_cells l, by (show (0 + (encL l).length) * 64 ≤ 140737488355328; omega), by (show 0 + (encL l).length ≤ 9223372036854775807; omega)⟩ ?_
 repeat' (first | refine yz ?_ | refine yx ?_ | (refine yy ?_ ?_ <;> intro _) | exact zD | exact zL)
end Go.Proofs.YtenpjlghikohmaaGreatDoor
namespace Go.Proofs.YtenpjlghikohmaaGreatDoor
set_option maxRecDepth 4000
open Go Go.Abs Go.Val Go.RowKit Go.Proofs.Tryz
attribute [local irreducible] go SGo HasBody Ev ExtEv EvO
def ci (x y : Int) : Int := Lib.compareInt x y
theorem ci_eq (x : Int) : ci x x = 0 := by unfold ci Lib.compareInt; rw [if_neg (by omega), if_neg (by omega)]
def cs (a b : ByteArray) : Int := bif Op.bytesLess a.toList b.toList then -1 else bif (Op.bytesLess a.toList b.toList || a.toList == b.toList) then 0 else 1
def orI (x y : Int) : Int := bif x != 0 then x else y
theorem nanS_ev (a : ByteArray) : Ev E 311 [.str a] (.d (.bool false)) := by
 have h : (!(a.toList == a.toList)) = false := by simp
 rw [← h]
 refine ye1 func311 ntmps311 fun _ _ _=>?_
 repeat' (first | refine yz ?_ | refine yx ?_ | (refine yy ?_ ?_ <;> intro _) | exact zD | exact zL)
theorem compareS_ev (a b : ByteArray) : Ev E 234 [.str a, .str b] (.d (.int (cs a b))) := by
 unfold cs
 cases h1 : Op.bytesLess a.toList b.toList with
 | true =>
  refine ye2 func234 ntmps234 fun _ _ _=>?_
  repeat' (first | refine yz ?_ | refine yp b311 (nanS_ev _) ?_ | refine yx ?_ | (refine yy ?_ ?_ <;> intro _) | exact zD | exact zL)
 | false =>
  cases h2 : a.toList == b.toList with
  | true =>
   have g2 : (!(Op.bytesLess a.toList b.toList || a.toList == b.toList)) = false := by rw [h1, h2]; rfl
   refine ye2 func234 ntmps234 fun _ _ _=>?_
   repeat' (first | refine yz ?_ | refine yp b311 (nanS_ev _) ?_ | refine yx ?_ | (refine yy ?_ ?_ <;> intro _) | exact zD | exact zL)
  | false =>
   have g2 : (!(Op.bytesLess a.toList b.toList || a.toList == b.toList)) = true := by rw [h1, h2]; rfl
   refine ye2 func234 ntmps234 fun _ _ _=>?_
   repeat' (first | refine yz ?_ | refine yp b311 (nanS_ev _) ?_ | refine yx ?_ | (refine yy ?_ ?_ <;> intro _) | exact zD | exact zL)
def orL : List Int → Int
 | [] => 0
 | x :: r => orI x (orL r)
structure SOr (l : List Int) where
 i : Nat
 hi : i ≤ l.length
 ok : orL l = orL (l.drop i)
theorem or_ev2 (l : List Int) : Ev E 233 [.sl (encI l)] (.d (.int (orL l))) := Ev.fit fun hfit => by
 have hmax := ((hfit (.sl (encI l)) (by simp)).sls).1
 rw [encI_len] at hmax
 have hle : (encI l).length = l.length := encI_len l
 refine ye1 func233 ntmps233 fun _ _ _=>?_
 repeat' (first | refine yz ?_ | refine yx ?_ | (refine yy ?_ ?_ <;> intro _) | exact zD | exact zL)
 refine go_loop_ (α := SOr l) (fun p => ⟨[(3, .d (.int 0)), (6, .d (.sl (encI l))), (7, .d (.int (encI l).length)), (8, .d (.int p.i))], []⟩) (fun p => l.length - p.i) ⟨0, by omega, rfl⟩ (zle 0) ?_
 rintro ⟨i, hi, ok⟩
 dsimp only
 rcases Nat.lt_or_ge i l.length with hlt | hge
 ·have g1 : decide ((i : Int) < ((encI l).length : Int)) = true := by rw [hle]; simpa using hlt
  have hx0 := List.getElem?_eq_getElem hlt
  generalize l[i] = x at hx0
  have hx : (encI l)[(i : Int).toNat]? = some (.int x) := encI_get (by rw [Int.toNat_natCast]; exact hx0)
  rw [ok, drop_at hx0]
  simp only [orL, orI]
  cases h : x != 0 with
  | true =>
   repeat' (first | refine yz ?_ | refine yi (.int x) hx ?_ | refine yx ?_ | (refine yy ?_ ?_ <;> intro _) | exact zD | exact zL)
  | false =>
   repeat' (first | refine yz ?_ | refine yi (.int x) hx ?_ | refine yx ?_ | (refine yy ?_ ?_ <;> intro _) | exact zD | exact zL)
   refine go_stop ?_
   exact ⟨⟨i + 1, by omega, by rw [ok, drop_at hx0]; simp only [orL, orI]; rw [h]; rfl⟩, by dsimp only; omega, (zle 0)⟩
 ·have g1 : decide ((i : Int) < ((encI l).length : Int)) = false := by rw [hle]; simp; omega
  have : l.drop i = [] := List.drop_eq_nil_of_le hge
  rw [ok, this]
  repeat' (first | refine yz ?_ | refine yx ?_ | (refine yy ?_ ?_ <;> intro _) | exact zD | exact zL)
def cmpL (g : V → V → Int) : List V → List V → Int
 | [], [] => 0
 | [], _ :: _ => -1
 | _ :: _, [] => 1
 | x :: r, y :: q => orI (g x y) (cmpL g r q)
structure SCF (g : V → V → Int) (a b : List V) where
 i : Nat
 hi : i ≤ a.length
 hj : i ≤ b.length
 ok : cmpL g a b = cmpL g (a.drop i) (b.drop i)
theorem compareFunc_ev (f : FuncId) (hb : HasBody E f) (g : V → V → Int) (a b : List V) (hf : ∀ x ∈ a, ∀ y ∈ b, Ev E f [enc x, enc y] (.d (.int (g x y)))) :
  Ev E 235 [.sl (encL a), .sl (encL b), .imm (.func (.func f) #[] #[])] (.d (.int (cmpL g a b))) := Ev.fit fun hfit => by
 obtain ⟨hma, -⟩ := fit_encL (hfit (.sl (encL a)) (by simp))
 have hla : (encL a).length = a.length := encL_len a
 have hlb : (encL b).length = b.length := encL_len b
 refine ye3 func235 ntmps235 fun _ _ _=>?_
 repeat' (first | refine yz ?_ | refine yx ?_ | (refine yy ?_ ?_ <;> intro _) | exact zD | exact zL)
 refine go_loop_ (α := SCF g a b) (fun p => ⟨[(0, .d (.sl (encL a))), (1, .d (.sl (encL b))), (2, .d (.imm (.func (.func f) #[] #[]))), (11, .d (.sl (encL a))), (12, .d (.int (encL a).length)), (13, .d (.int p.i))], []⟩) (fun p => a.length - p.i) ⟨0, by omega, by omega, rfl⟩ (zle 0) ?_
 rintro ⟨i, hi, hj, ok⟩
 dsimp only
 rcases Nat.lt_or_ge i a.length with hlt | hge
 ·have g1 : decide ((i : Int) < ((encL a).length : Int)) = true := by rw [hla]; simpa using hlt
  have hx0 := List.getElem?_eq_getElem hlt
  generalize a[i] = x at hx0
  have hx : (encL a)[(i : Int).toNat]? = some (enc x) := encL_get (by rw [Int.toNat_natCast]; exact hx0)
  rcases Nat.lt_or_ge i b.length with hltb | hgeb
  ·have g2 : decide ((i : Int) ≥ ((encL b).length : Int)) = false := by rw [hlb]; simpa using hltb
   have hy0 := List.getElem?_eq_getElem hltb
   generalize b[i] = y at hy0
   have hy : (encL b)[(i : Int).toNat]? = some (enc y) := encL_get (by rw [Int.toNat_natCast]; exact hy0)
   have hxy := hf x (List.mem_of_getElem? hx0) y (List.mem_of_getElem? hy0)
   rw [ok, drop_at hx0, drop_at hy0]
   simp only [cmpL, orI]
   cases h : g x y != 0 with
   | true =>
    repeat' (first | refine yz ?_ | refine yi (enc x) hx ?_ | refine yi (enc y) hy ?_ | refine yp hb hxy ?_ | refine yx ?_ | (refine yy ?_ ?_ <;> intro _) | exact zD | exact zL)
   | false =>
    repeat' (first | refine yz ?_ | refine yi (enc x) hx ?_ | refine yi (enc y) hy ?_ | refine yp hb hxy ?_ | refine yx ?_ | (refine yy ?_ ?_ <;> intro _) | exact zD | exact zL)
    refine go_stop ?_
    exact ⟨⟨i + 1, by omega, by omega, by rw [ok, drop_at hx0, drop_at hy0]; simp only [cmpL, orI]; rw [h]; rfl⟩, by dsimp only; omega, (zle 0)⟩
  ·have g2 : decide ((i : Int) ≥ ((encL b).length : Int)) = true := by rw [hlb]; simp; omega
   rw [ok, drop_at hx0, List.drop_eq_nil_of_le hgeb]
   repeat' (first | refine yz ?_ | refine yi (enc x) hx ?_ | refine yx ?_ | (refine yy ?_ ?_ <;> intro _) | exact zD | exact zL)
 ·have g1 : decide ((i : Int) < ((encL a).length : Int)) = false := by rw [hla]; simp; omega
  have hia : i = a.length := by omega
  rcases Nat.lt_or_ge i b.length with hltb | hgeb
  ·have g2 : decide (((encL a).length : Int) < ((encL b).length : Int)) = true := by rw [hla, hlb, decide_eq_true_eq]; omega
   rw [ok, List.drop_eq_nil_of_le hge, List.drop_eq_getElem_cons hltb]
   repeat' (first | refine yz ?_ | refine yx ?_ | (refine yy ?_ ?_ <;> intro _) | exact zD | exact zL)
  ·have g2 : decide (((encL a).length : Int) < ((encL b).length : Int)) = false := by rw [hla, hlb, decide_eq_false_iff_not]; omega
   rw [ok, List.drop_eq_nil_of_le hge, List.drop_eq_nil_of_le hgeb]
   repeat' (first | refine yz ?_ | refine yx ?_ | (refine yy ?_ ?_ <;> intro _) | exact zD | exact zL)
def rcls (k : Int) : Int := bif k == 0 then 0 else bif k == 1 then 1 else bif k == 2 || k == 3 then 2 else bif k == 4 then 3 else bif k == 5 then 4 else bif k == 6 then 5 else bif k == 8 then 6 else 7
def headO (a b : V) (t : Int) : Int := orI (ci a.k b.k) (orI (ci a.n b.n) (orI (ci a.d b.d) (orI (cs a.s b.s) t)))
def stepO (a b : V) (t : Int) : Int :=
 bif Val.okV a != Val.okV b then 1 - tt (Val.okV a) else
 bif !Val.okV a then headO a b t else
 bif ci (rcls a.k) (rcls b.k) != 0 then ci (rcls a.k) (rcls b.k) else
 bif isNum a then cmpQ (numN a) (numD a) (numN b) (numD b) else headO a b t
mutual
def ordF : V → V → Int
 | .mk k n d s l, b => stepO (.mk k n d s l) b (ordL l b.l)
def ordL : List V → List V → Int
 | [], [] => 0
 | [], _ :: _ => -1
 | _ :: _, [] => 1
 | x :: r, y :: q => orI (ordF x y) (ordL r q)
end
theorem ordL_eq : ∀ a b : List V, ordL a b = cmpL ordF a b
 | [], [] => by simp [ordL, cmpL]
 | [], _ :: _ => by simp [ordL, cmpL]
 | _ :: _, [] => by simp [ordL, cmpL]
 | x :: r, y :: q => by simp only [ordL, cmpL, ordL_eq r q]
theorem ordF_eq (a b : V) : ordF a b = stepO a b (cmpL ordF a.l b.l) := by
 cases a
 simp only [ordF, ordL_eq, V.l]
end Go.Proofs.YtenpjlghikohmaaGreatDoor
namespace Go.Proofs.YtenpjlghikohmaaGreatDoor
set_option maxRecDepth 4000
open Go Go.Abs Go.Val Go.RowKit Go.Proofs.Tryz
attribute [local irreducible] go SGo HasBody Ev ExtEv EvO
def pcls (k : Int) : Int := bif k == 3 then 2 else bif k == 7 then 9 else k
theorem class_ev (v : V) : Ev E 308 [enc v] (.d (.int (pcls v.k))) := by
 unfold pcls
 cases h1 : v.k == 3 with
 | true =>
  refine ye1 func308 ntmps308 fun _ _ _=>?_
  repeat' (first | refine yz ?_ | refine yx ?_ | (refine yy ?_ ?_ <;> intro _) | exact zD | exact zL)
 | false =>
 cases h2 : v.k == 7 with
 | true =>
  refine ye1 func308 ntmps308 fun _ _ _=>?_
  repeat' (first | refine yz ?_ | refine yx ?_ | (refine yy ?_ ?_ <;> intro _) | exact zD | exact zL)
 | false =>
  refine ye1 func308 ntmps308 fun _ _ _=>?_
  repeat' (first | refine yz ?_ | refine yx ?_ | (refine yy ?_ ?_ <;> intro _) | exact zD | exact zL)
theorem okFlat_l {v : V} (h : okFlat v = true) : v.l = [] := by
 simp only [okFlat, Bool.or_eq_true, Bool.and_eq_true, beq_iff_eq, List.length_eq_zero_iff] at h
 grind
theorem okSteps_mem : ∀ (l : List V) (i : Nat), okSteps i l = true → ∀ x ∈ l, okFlat x = true
 | [], _, _, x, hx => by simp at hx
 | v :: r, i, h, x, hx => by
  simp only [okSteps, okStep, Bool.and_eq_true] at h
  rcases List.mem_cons.1 hx with e | e
  ·rw [e]; exact h.1.2
  ·exact okSteps_mem r (i + 1) h.2 x e
theorem okFlat_okN {v : V} (m : Nat) (h : okFlat v = true) : okN m v = true := by
 cases m <;> simp [okN, h]
theorem okN_mono : ∀ (m : Nat) (v : V), okN m v = true → okN (m + 1) v = true
 | 0, v, h => by
  simp only [okN, Bool.or_eq_true] at h ⊢
  exact .inl h
 | m + 1, v, h => by
  have ih := okN_mono m
  simp only [okN, Bool.or_eq_true, Bool.and_eq_true, List.all_eq_true, decide_eq_true_eq] at h ih ⊢
  rcases h with h | h
  ·exact .inl h
  ·exact .inr ⟨h.1, h.2.1, fun x hx => by have := ih x (by have := h.2.2 x hx; simpa [okN] using this); simpa [okN] using this⟩
theorem okV_kids {v : V} (h : Val.okV v = true) : ∀ x ∈ v.l, Val.okV x = true := by
 unfold Val.okV at h
 rw [okN] at h
 simp only [Bool.or_eq_true, Bool.and_eq_true, List.all_eq_true] at h
 intro x hx
 rcases h with (h | h) | h
 ·rw [okFlat_l h] at hx; simp at hx
 ·have hp := h.2.2
  simp only [okPath, Bool.and_eq_true] at hp
  exact okFlat_okN 8 (okSteps_mem _ 0 hp.2 x hx)
 ·exact okN_mono 7 x (h.2.2 x hx)
theorem okV_bare {v : V} (h : Val.okV v = true) : (v.k ≠ 3 → v.d = 0) ∧ (v.k ≠ 4 → v.s.toList = (⟨#[]⟩ : ByteArray).toList) ∧ (v.k = 4 → v.n = 0) ∧ (v.k = 7 ∨ v.k = 8 → v.n = 0) ∧ (v.k ≠ 7 → v.k ≠ 8 → v.l = []) := by
 unfold Val.okV at h
 rw [okN] at h
 simp only [okFlat, s0, Bool.or_eq_true, Bool.and_eq_true, beq_iff_eq, List.length_eq_zero_iff] at h
 grind
theorem isNum_k {v : V} (h : Val.okV v = true) : isNum v = (v.k == 2 || v.k == 3) := by unfold isNum; rw [h, Bool.and_true]
theorem cls_cmp {a b : Int} (ha : 0 ≤ a ∧ a ≤ 8) (hb : 0 ≤ b ∧ b ≤ 8) : ci (pcls a) (pcls b) = ci (rcls a) (rcls b) := by
 obtain ⟨x, rfl⟩ := Int.eq_ofNat_of_zero_le ha.1
 obtain ⟨y, rfl⟩ := Int.eq_ofNat_of_zero_le hb.1
 have hx : x < 9 := by omega
 have hy : y < 9 := by omega
 revert ha hb
 have key : ∀ (x y : Fin 9), ci (pcls (x.val : Int)) (pcls (y.val : Int)) = ci (rcls (x.val : Int)) (rcls (y.val : Int)) := by decide
 intro _ _
 exact key ⟨x, hx⟩ ⟨y, hy⟩
theorem rcls_kind {a b : Int} (ha : 0 ≤ a ∧ a ≤ 8) (hb : 0 ≤ b ∧ b ≤ 8) (h : ci (rcls a) (rcls b) = 0) (hn : (a == 2 || a == 3) = false) : a = b := by
 obtain ⟨x, rfl⟩ := Int.eq_ofNat_of_zero_le ha.1
 obtain ⟨y, rfl⟩ := Int.eq_ofNat_of_zero_le hb.1
 have hx : x < 9 := by omega
 have hy : y < 9 := by omega
 revert ha hb h hn
 have key : ∀ (x y : Fin 9), ci (rcls (x.val : Int)) (rcls (y.val : Int)) = 0 → ((x.val : Int) == 2 || (x.val : Int) == 3) = false → (x.val : Int) = (y.val : Int) := by decide
 intros
 exact key ⟨x, hx⟩ ⟨y, hy⟩ (by assumption) (by assumption)
theorem okV_rng {v : V} (h : Val.okV v = true) : 0 ≤ v.k ∧ v.k ≤ 8 := by have := okV_k h; omega
theorem cs_self {a b : ByteArray} (h : a.toList = b.toList) : cs a b = 0 := by
 unfold cs
 rw [h]
 have hl : ∀ l : List UInt8, Op.bytesLess l l = false := by
  intro l
  induction l with
  | nil => rfl
  | cons x r ih => simp [Op.bytesLess, ih]
 rw [hl]
 simp
theorem pcls_num {v : V} (h : Val.okV v = true) : (pcls v.k == 2) = isNum v := by
 rw [isNum_k h]
 have := okV_k h
 unfold pcls
 rcases this with e | e | e | e | e | e | e | e | e <;> rw [e] <;> rfl
theorem ordF_valid {a b : V} (ha : Val.okV a = true) (hb : Val.okV b = true) : ordF a b = bif ci (pcls a.k) (pcls b.k) != 0 then ci (pcls a.k) (pcls b.k) else bif pcls a.k == 2 then cmpQ (numN a) (numD a) (numN b) (numD b) else orL [cs a.s b.s, ci a.n b.n, cmpL ordF a.l b.l] := by
 rw [ordF_eq, stepO, ha, hb]
 have hra := okV_rng ha
 have hrb := okV_rng hb
 rw [cls_cmp hra hrb, pcls_num ha]
 simp only [bne_self_eq_false, Bool.not_true, cond_false]
 cases h1 : ci (rcls a.k) (rcls b.k) != 0 with
 | true => rfl
 | false =>
  simp only [cond_false]
  cases h2 : isNum a with
  | true => rfl
  | false =>
   simp only [cond_false]
   have hk : a.k = b.k := rcls_kind hra hrb (by simpa using h1) (by rw [← isNum_k ha]; exact h2)
   have hn3 : a.k ≠ 3 := by
    intro h
    rw [isNum_k ha, h] at h2
    cases h2
   obtain ⟨a1, a2, a3, a4, a5⟩ := okV_bare ha
   obtain ⟨b1, b2, b3, b4, b5⟩ := okV_bare hb
   have e1 : ci a.k b.k = 0 := by rw [hk]; exact ci_eq _
   have e2 : ci a.d b.d = 0 := by rw [a1 hn3, b1 (by rw [← hk]; exact hn3)]; exact ci_eq _
   unfold headO
   rw [e1, e2]
   simp only [orL, orI]
   simp only [bne_self_eq_false, cond_false]
   by_cases h4 : a.k = 4
   ·have e3 : ci a.n b.n = 0 := by rw [a3 h4, b3 (by rw [← hk]; exact h4)]; exact ci_eq _
    rw [e3]
    simp only [bne_self_eq_false, cond_false]
    rw [a5 (by omega) (by omega), b5 (by omega) (by omega)]
    simp only [cmpL, bne_self_eq_false, cond_false]
   ·have e3 : cs a.s b.s = 0 := cs_self (by rw [a2 h4, b2 (by rw [← hk]; exact h4)])
    rw [e3]
    simp only [bne_self_eq_false, cond_false]
    cases ci a.n b.n != 0 with
    | true => rfl
    | false =>
     simp only [cond_false]
     cases hq : cmpL ordF a.l b.l != 0 with
     | true => rfl
     | false => simp only [cond_false]; simpa using hq
theorem order_ev2 (a : V) : ∀ b : V, Val.okV a = true → Val.okV b = true → Ev E 232 [enc a, enc b] (.d (.int (ordF a b))) := by
 refine vind (P := fun a => ∀ b : V, Val.okV a = true → Val.okV b = true → Ev E 232 [enc a, enc b] (.d (.int (ordF a b)))) (fun k n d s l ih b ha hb => ?_) a
 have hka := okV_kids ha
 have hkb := okV_kids hb
 have hcf := compareFunc_ev 232 b232 ordF l b.l (fun x hx y hy => ih x hx y (hka x hx) (hkb y hy))
 rw [encL_map, encL_map, ← kids_eq b] at hcf
 have hkk : l.map enc = kids (.mk k n d s l) := (kids_eq (.mk k n d s l)).symm
 rw [hkk] at hcf
 rw [ordF_valid ha hb]
 have hll : cmpL ordF l b.l = cmpL ordF (V.mk k n d s l).l b.l := rfl
 rw [hll] at hcf
 generalize V.mk k n d s l = a at *
 clear ih hkk hll
 have ca := class_ev a
 have cb := class_ev b
 have hcc := compare_ev (pcls a.k) (pcls b.k)
 have na := Number_ev ixOK a
 have nb := Number_ev ixOK b
 have hc := cmp_ev (numN a) (numD a) (numN b) (numD b)
 have hcn := compare_ev a.n b.n
 have hcs := compareS_ev a.s b.s
 have hor := or_ev2 [cs a.s b.s, ci a.n b.n, cmpL ordF a.l b.l]
 cases h1 : ci (pcls a.k) (pcls b.k) != 0 with
 | true =>
  have h1' : (Lib.compareInt (pcls a.k) (pcls b.k) != 0) = true := h1
  refine ye2 func232 ntmps232 fun _ _ _=>?_
  repeat' (first | refine yz ?_ | refine qP (d := 11) rfl rfl rfl rfl rfl rfl b308 (ca) ?_ | refine yp b308 cb ?_ | refine yp b52 hcc ?_ | refine yx ?_ | (refine yy ?_ ?_ <;> intro _) | exact zD | exact zL)
 | false =>
 have h1' : (Lib.compareInt (pcls a.k) (pcls b.k) != 0) = false := h1
 cases h2 : pcls a.k == 2 with
 | true =>
  refine ye2 func232 ntmps232 fun _ _ _=>?_
  repeat' (first | refine yz ?_ | refine qP (d := 11) rfl rfl rfl rfl rfl rfl b308 (ca) ?_ | refine qP (d := 19) rfl rfl rfl rfl rfl rfl b308 (ca) ?_ | refine yp b308 cb ?_ | refine yp b52 hcc ?_ | refine qP (d := 23) rfl rfl rfl rfl rfl rfl b309 (na) ?_ | refine yp b309 nb ?_ | refine yp b310 hc ?_ | refine yx ?_ | (refine yy ?_ ?_ <;> intro _) | exact zD | exact zL)
 | false =>
  refine ye2 func232 ntmps232 fun _ _ _=>?_
  repeat' (first | refine yz ?_ | refine qP (d := 11) rfl rfl rfl rfl rfl rfl b308 (ca) ?_ | refine qP (d := 19) rfl rfl rfl rfl rfl rfl b308 (ca) ?_ | refine yp b308 cb ?_ | refine qP (d := 14) rfl rfl rfl rfl rfl rfl b52 (hcc) ?_ | refine yp b52 hcn ?_ | refine yp b234 hcs ?_ | refine yp b235 hcf ?_ | refine yp b233 hor ?_ | refine yx ?_ | (refine yy ?_ ?_ <;> intro _) | exact zD | exact zL)
theorem Order_ev (a : V) : ∀ b : V, Ev E 148 [enc a, enc b] (.d (.int (ordF a b))) := by
 refine vind (P := fun a => ∀ b : V, Ev E 148 [enc a, enc b] (.d (.int (ordF a b)))) (fun k n d s l ih b => ?_) a
 have hcf := compareFunc_ev 148 b148 ordF l b.l (fun x hx y hy => ih x hx y)
 rw [encL_map, encL_map, ← kids_eq b] at hcf
 have hkk : l.map enc = kids (.mk k n d s l) := (kids_eq (.mk k n d s l)).symm
 rw [hkk] at hcf
 have hll : cmpL ordF l b.l = cmpL ordF (V.mk k n d s l).l b.l := rfl
 rw [hll] at hcf
 generalize V.mk k n d s l = a at *
 clear ih hkk hll
 have va := Valid_ev ixOK a
 have vb := Valid_ev ixOK b
 have hck := compare_ev a.k b.k
 have hcn := compare_ev a.n b.n
 have hcd := compare_ev a.d b.d
 have hcs := compareS_ev a.s b.s
 have hor := or_ev2 [ci a.k b.k, ci a.n b.n, ci a.d b.d, cs a.s b.s, cmpL ordF a.l b.l]
 cases h1 : Val.okV a with
 | true =>
  cases h2 : Val.okV b with
  | true =>
   have ho := order_ev2 a b h1 h2
   refine ye2 func148 ntmps148 fun _ _ _=>?_
   repeat' (first | refine yz ?_ | refine qP (d := 8) rfl rfl rfl rfl rfl rfl b231 (va) ?_ | refine yp b231 vb ?_ | refine yp b232 ho ?_ | refine yx ?_ | (refine yy ?_ ?_ <;> intro _) | exact zD | exact zL)
  | false =>
   have e : ordF a b = -1 := by rw [ordF_eq, stepO, h1, h2]; rfl
   rw [e]
   refine ye2 func148 ntmps148 fun _ _ _=>?_
   repeat' (first | refine yz ?_ | refine qP (d := 8) rfl rfl rfl rfl rfl rfl b231 (va) ?_ | refine yp b231 vb ?_ | refine yx ?_ | (refine yy ?_ ?_ <;> intro _) | exact zD | exact zL)
 | false =>
  cases h2 : Val.okV b with
  | true =>
   have e : ordF a b = 1 := by rw [ordF_eq, stepO, h1, h2]; rfl
   rw [e]
   refine ye2 func148 ntmps148 fun _ _ _=>?_
   repeat' (first | refine yz ?_ | refine qP (d := 8) rfl rfl rfl rfl rfl rfl b231 (va) ?_ | refine yp b231 vb ?_ | refine yx ?_ | (refine yy ?_ ?_ <;> intro _) | exact zD | exact zL)
  | false =>
   have e : ordF a b = orL [ci a.k b.k, ci a.n b.n, ci a.d b.d, cs a.s b.s, cmpL ordF a.l b.l] := by
    rw [ordF_eq, stepO, h1, h2]
    simp only [bne_self_eq_false, Bool.not_false, cond_false, cond_true, headO, orL]
    have : orI (cmpL ordF a.l b.l) 0 = cmpL ordF a.l b.l := by
     unfold orI
     cases hq : cmpL ordF a.l b.l != 0 with
     | true => rfl
     | false => simp only [cond_false]; exact (by simpa using hq : cmpL ordF a.l b.l = 0).symm
    rw [this]
   rw [e]
   refine ye2 func148 ntmps148 fun _ _ _=>?_
   repeat' (first | refine yz ?_ | refine qP (d := 8) rfl rfl rfl rfl rfl rfl b231 (va) ?_ | refine yp b231 vb ?_ | refine qP (d := 27) rfl rfl rfl rfl rfl rfl b52 (hck) ?_ | refine qP (d := 32) rfl rfl rfl rfl rfl rfl b52 (hcn) ?_ | refine qP (d := 37) rfl rfl rfl rfl rfl rfl b52 (hcd) ?_ | refine yp b234 hcs ?_ | refine yp b235 hcf ?_ | refine yp b233 hor ?_ | refine yx ?_ | (refine yy ?_ ?_ <;> intro _) | exact zD | exact zL)
theorem fval_eq {n d n' d' : Int} (h : fval n d = true) (h' : fval n' d' = true) (he : n * d' = n' * d) : n = n' ∧ d = d' := by
 simp only [fval, Bool.and_eq_true, decide_eq_true_eq, beq_iff_eq] at h h'
 have g : Int.gcd n d = 1 := by have := h.2.2.2; omega
 have g' : Int.gcd n' d' = 1 := by have := h'.2.2.2; omega
 have key : ∀ {n d n' d' : Int}, Int.gcd n d = 1 → n * d' = n' * d → d ∣ d' := by
  intro n d n' d' g he
  have hdv : d ∣ n * d' := ⟨n', by rw [he, Int.mul_comm]⟩
  have h0 : d.natAbs ∣ d'.natAbs * n.natAbs := by
   have := Int.natAbs_dvd_natAbs.2 hdv
   rwa [Int.natAbs_mul, Nat.mul_comm] at this
  have hc : Nat.Coprime d.natAbs n.natAbs := by
   unfold Nat.Coprime
   rw [Nat.gcd_comm]
   exact g
  exact Int.natAbs_dvd_natAbs.1 (hc.dvd_of_dvd_mul_right h0)
 have h1 : d ∣ d' := key g he
 have h2 : d' ∣ d := key g' he.symm
 have hd : d = d' := Int.dvd_antisymm (by omega) (by omega) h1 h2
 refine ⟨?_, hd⟩
 rw [hd] at he
 exact Int.eq_of_mul_eq_mul_right (by omega) he
theorem fval_num {v : V} (h : isNum v = true) : fval (numN v) (numD v) = true := by
 have hok : Val.okV v = true := by unfold isNum at h; simp only [Bool.and_eq_true] at h; exact h.2
 have hk : v.k = 2 ∨ v.k = 3 := by unfold isNum at h; simp only [Bool.and_eq_true, Bool.or_eq_true, beq_iff_eq] at h; exact h.1
 unfold numN numD
 rw [h]
 simp only [cond_true]
 obtain ⟨k, n, d, s, l⟩ := v
 simp only [V.k] at hk
 unfold Val.okV at hok
 rw [okN_flat 8 k n d s l (by omega) (by omega)] at hok
 rcases hk with rfl | rfl
 ·simp [okFlat, V.k, V.n, V.d, V.s, V.l] at hok
  simp [V.k, V.n, fval, hok.2]
 ·simp [okFlat, V.k, V.n, V.d, V.s, V.l] at hok
  simpa [V.k, V.n, V.d] using hok.2.2
theorem cmpQ_zero {a b : V} (ha : isNum a = true) (hb : isNum b = true) : (cmpQ (numN a) (numD a) (numN b) (numD b) == 0) = ((numN a == numN b) && (numD a == numD b)) := by
 have fa := fval_num ha
 have fb := fval_num hb
 have e : cmpQ (numN a) (numD a) (numN b) (numD b) = sgn (numN a * numD b - numN b * numD a) := by
  unfold cmpQ fzn fzd
  rw [fa, fb]
  rfl
 rw [e, Bool.eq_iff_iff]
 simp only [beq_iff_eq, Bool.and_eq_true]
 constructor
 ·intro h
  refine fval_eq fa fb ?_
  unfold sgn at h
  split at h
  ·cases h
  ·split at h
   ·cases h
   ·omega
 ·rintro ⟨h1, h2⟩
  rw [h1, h2, Int.sub_self]
  rfl
def stepE (a b : V) (t : Int) : Int :=
 bif a.k == 0 || b.k == 0 || !Val.okV a || !Val.okV b then 1 else
 bif isNum a && isNum b then tt (cmpQ (numN a) (numD a) (numN b) (numD b) == 0) else
 bif a.k != b.k then 0 else
 bif a.k == 4 then tt (a.s.toList == b.s.toList) else
 bif a.k != 8 && a.k != 7 then tt (a.n == b.n) else
 bif a.l.length != b.l.length then 0 else t
mutual
def eqF : V → V → Int
 | .mk k n d s l, b => stepE (.mk k n d s l) b (eqL l b.l 2)
def eqL : List V → List V → Int → Int
 | x :: r, y :: q, t => eqL r q (min (kn t) (kn (eqF x y)))
 | [], _, t => t
 | _ :: _, [], t => t
end
def eqM (g : V → V → Int) : List V → List V → Int → Int
 | x :: r, y :: q, t => eqM g r q (min (kn t) (kn (g x y)))
 | [], _, t => t
 | _ :: _, [], t => t
theorem eqL_eq : ∀ (a b : List V) (t : Int), eqL a b t = eqM eqF a b t
 | [], b, t => by simp [eqL, eqM]
 | _ :: _, [], t => by simp [eqL, eqM]
 | x :: r, y :: q, t => by simp only [eqL, eqM]; rw [eqL_eq r q]
theorem eqF_eq (a b : V) : eqF a b = stepE a b (eqM eqF a.l b.l 2) := by
 cases a
 simp only [eqF, eqL_eq, V.l]
structure SE (a b : List V) where
 i : Nat
 t : Int
 hi : i ≤ a.length
 ok : eqM eqF a b 2 = eqM eqF (a.drop i) (b.drop i) t
end Go.Proofs.YtenpjlghikohmaaGreatDoor
namespace Go.Proofs.YtenpjlghikohmaaGreatDoor
set_option maxRecDepth 4000
open Go Go.Abs Go.Val Go.RowKit Go.Proofs.Tryz
attribute [local irreducible] go SGo HasBody Ev ExtEv EvO
set_option maxHeartbeats 2000000 in
theorem equal_ev (a : V) : ∀ b : V, Val.okV a = true → Val.okV b = true → Ev E 237 [enc a, enc b] (.d (.int (eqF a b))) := by
 refine vind (P := fun a => ∀ b : V, Val.okV a = true → Val.okV b = true → Ev E 237 [enc a, enc b] (.d (.int (eqF a b)))) (fun k n d s l ih b h3 h4 => ?_) a
 refine Ev.fit fun hfit => ?_
 obtain ⟨-, -, -, -, hma, -⟩ := fit_enc (hfit (enc (.mk k n d s l)) (by simp))
 rw [eqF_eq]
 have ih' : ∀ x ∈ (V.mk k n d s l).l, ∀ y : V, Val.okV x = true → Val.okV y = true → Ev E 237 [enc x, enc y] (.d (.int (eqF x y))) := ih
 generalize V.mk k n d s l = a at *
 clear ih
 have na := Number_ev ixOK a
 have nb := Number_ev ixOK b
 have hla : (kids a).length = a.l.length := kids_len a
 have hlb : (kids b).length = b.l.length := kids_len b
 have hka := okV_kids h3
 have hkb := okV_kids h4
 unfold stepE
 rw [h3, h4]
 simp only [Bool.or_false, Bool.not_true]
 cases h1 : a.k == 0 with
 | true =>
  simp only [Bool.true_or, cond_true]
  refine ye2 func237 ntmps237 fun _ _ _=>?_
  repeat' (first | refine yz ?_ | refine yx ?_ | (refine yy ?_ ?_ <;> intro _) | exact zD | exact zL)
 | false =>
 cases h2 : b.k == 0 with
 | true =>
  simp only [Bool.or_true, cond_true]
  refine ye2 func237 ntmps237 fun _ _ _=>?_
  repeat' (first | refine yz ?_ | refine yx ?_ | (refine yy ?_ ?_ <;> intro _) | exact zD | exact zL)
 | false =>
 simp only [Bool.or_false, cond_false]
 cases h5 : isNum a with
 | true =>
  rw [h5] at na
  cases h6 : isNum b with
  | true =>
   rw [h6] at nb
   rw [cmpQ_zero h5 h6]
   have hy := truth_ev ((numN a == numN b) && ((numD a == numD b) && true))
   have e2 : tt ((numN a == numN b) && (numD a == numD b)) = tt ((numN a == numN b) && ((numD a == numD b) && true)) := by rw [Bool.and_true]
   simp only [Bool.and_true, cond_true]
   rw [e2]
   refine ye2 func237 ntmps237 fun _ _ _=>?_
   repeat' (first | refine yz ?_ | refine qP (d := 21) rfl rfl rfl rfl rfl rfl b309 (na) ?_ | refine yp b309 nb ?_ | refine yp b312 hy ?_ | (refine go_eqS (by kernel_rfl) (by kernel_rfl) rfl rfl rfl rfl rfl rfl rfl rfl (.inl ⟨rfl, rfl⟩) ?_) | refine yx ?_ | (refine yy ?_ ?_ <;> intro _) | exact zD | exact zL)
  | false =>
   rw [h6] at nb
   simp only [Bool.and_false, cond_false]
   have hk : (a.k != b.k) = true := by
    rw [isNum_k h3] at h5
    rw [isNum_k h4] at h6
    simp only [Bool.or_eq_true, Bool.or_eq_false_iff, beq_iff_eq, beq_eq_false_iff_ne, bne_iff_ne] at *
    omega
   rw [hk]
   refine ye2 func237 ntmps237 fun _ _ _=>?_
   repeat' (first | refine yz ?_ | refine qP (d := 21) rfl rfl rfl rfl rfl rfl b309 (na) ?_ | refine yp b309 nb ?_ | refine yx ?_ | (refine yy ?_ ?_ <;> intro _) | exact zD | exact zL)
 | false =>
  rw [h5] at na
  simp only [Bool.false_and, cond_false]
  cases h7 : a.k != b.k with
  | true =>
   refine ye2 func237 ntmps237 fun _ _ _=>?_
   repeat' (first | refine yz ?_ | refine qP (d := 21) rfl rfl rfl rfl rfl rfl b309 (na) ?_ | refine yp b309 nb ?_ | refine yx ?_ | (refine yy ?_ ?_ <;> intro _) | exact zD | exact zL)
  | false =>
  have hkk : a.k = b.k := by simpa using h7
  cases h9 : a.k != 8 && a.k != 7 with
  | true =>
   have e : (bif a.k == 4 then tt (a.s.toList == b.s.toList) else bif true then tt (a.n == b.n) else bif a.l.length != b.l.length then 0 else eqM eqF a.l b.l 2) = tt ((a.n == b.n) && (a.s.toList == b.s.toList)) := by
    obtain ⟨-, a2, a3, -, -⟩ := okV_bare h3
    obtain ⟨-, b2, b3, -, -⟩ := okV_bare h4
    cases h8 : a.k == 4 with
    | true =>
     have h8' : a.k = 4 := by simpa using h8
     rw [a3 h8', b3 (by rw [← hkk]; exact h8')]
     rfl
    | false =>
     have h8' : a.k ≠ 4 := by simpa using h8
     rw [a2 h8', b2 (by rw [← hkk]; exact h8')]
     simp
   rw [e]
   simp only [Bool.and_eq_true] at h9
   obtain ⟨g1, g2⟩ := h9
   have hy := truth_ev ((a.n == b.n) && (a.s.toList == b.s.toList))
   cases g3 : a.n == b.n
   all_goals
    rw [g3] at hy
    simp only [Bool.true_and, Bool.false_and] at hy ⊢
    refine ye2 func237 ntmps237 fun _ _ _=>?_
    repeat' (first | refine yz ?_ | refine qP (d := 21) rfl rfl rfl rfl rfl rfl b309 (na) ?_ | refine yp b309 nb ?_ | refine yp b312 hy ?_ | refine yx ?_ | (refine yy ?_ ?_ <;> intro _) | exact zD | exact zL)
  | false =>
  have h8 : (a.k == 4) = false := by
   rw [beq_eq_false_iff_ne]
   intro h
   rw [h] at h9
   cases h9
  rw [h8]
  simp only [cond_false]
  have key : (a.l.length != b.l.length) = ((kids a).length != (kids b).length) := by rw [hla, hlb]
  have hkk : (((kids a).length : Int) != ((kids b).length : Int)) = (a.l.length != b.l.length) := by
   rw [key]
   cases hq : (kids a).length != (kids b).length with
   | true => simp only [bne_iff_ne] at hq ⊢; omega
   | false => simp only [bne_eq_false_iff_eq] at hq ⊢; omega
  cases h10 : a.l.length != b.l.length with
  | true =>
   rw [h10] at hkk
   cases g1 : a.k != 8
   all_goals
    try rw [g1, Bool.true_and] at h9
    refine ye2 func237 ntmps237 fun _ _ _=>?_
    repeat' (first | refine yz ?_ | refine qP (d := 21) rfl rfl rfl rfl rfl rfl b309 (na) ?_ | refine yp b309 nb ?_ | refine yx ?_ | (refine yy ?_ ?_ <;> intro _) | exact zD | exact zL)
  | false =>
   rw [h10] at hkk
   have hlen : a.l.length = b.l.length := by simpa using h10
   cases g1 : a.k != 8
   all_goals
    try rw [g1, Bool.true_and] at h9
    refine ye2 func237 ntmps237 fun _ _ _=>?_
    repeat' (first | refine yz ?_ | refine qP (d := 21) rfl rfl rfl rfl rfl rfl b309 (na) ?_ | refine yp b309 nb ?_ | refine yx ?_ | (refine yy ?_ ?_ <;> intro _) | exact zD | exact zL)
    refine go_loop_ (α := SE a.l b.l) (fun p => ⟨[(2, .ptr 0 0), (3, .ptr 1 0), (9, .d (.int p.t)), (76, .d (.int (kids a).length)), (77, .d (.int p.i))], [.var 56 (.w (.d (enc a))), .var 56 (.w (.d (enc b)))]⟩) (fun p => a.l.length - p.i) ⟨0, 2, by omega, rfl⟩ (zle 2) ?_
    rintro ⟨i, t, hi, ok⟩
    dsimp only
    rcases Nat.lt_or_ge i a.l.length with hlt | hge
    ·have g3 : decide ((i : Int) < ((kids a).length : Int)) = true := by rw [hla]; simpa using hlt
     have hx0 := List.getElem?_eq_getElem hlt
     have hy0 := List.getElem?_eq_getElem (show i < b.l.length by omega)
     generalize a.l[i] = x at hx0
     generalize b.l[i] = y at hy0
     have hx : (kids a)[(i : Int).toNat]? = some (enc x) := kids_get (by rw [Int.toNat_natCast]; exact hx0)
     have hy : (kids b)[(i : Int).toNat]? = some (enc y) := kids_get (by rw [Int.toNat_natCast]; exact hy0)
     have he := ih' x (List.mem_of_getElem? hx0) y (hka x (List.mem_of_getElem? hx0)) (hkb y (List.mem_of_getElem? hy0))
     have hand := and_ev t (eqF x y)
     repeat' (first | refine yz ?_ | refine yi (enc x) hx ?_ | refine yi (enc y) hy ?_ | refine yp b237 he ?_ | refine yp b313 hand ?_ | refine yx ?_ | (refine yy ?_ ?_ <;> intro _) | exact zD | exact zL)
     refine go_stop ?_
     exact ⟨⟨i + 1, min (kn t) (kn (eqF x y)), by omega, by rw [ok, drop_at hx0, drop_at hy0]; rfl⟩, by dsimp only; omega, (zle 2)⟩
    ·have g3 : decide ((i : Int) < ((kids a).length : Int)) = false := by rw [hla, decide_eq_false_iff_not]; omega
     rw [ok, List.drop_eq_nil_of_le hge]
     simp only [eqM]
     repeat' (first | refine yz ?_ | refine yx ?_ | (refine yy ?_ ?_ <;> intro _) | exact zD | exact zL)
theorem Equal_ev (a b : V) : Ev E 152 [enc a, enc b] (.d (.int (eqF a b))) := by
 have va := Valid_ev ixOK a
 have vb := Valid_ev ixOK b
 have he := equal_ev a b
 have hq := eqF_eq a b
 unfold stepE at hq
 cases h1 : a.k == 0 with
 | true =>
  rw [h1] at hq
  simp only [Bool.true_or, cond_true] at hq
  rw [hq]
  refine ye2 func152 ntmps152 fun _ _ _=>?_
  repeat' (first | refine yz ?_ | refine yx ?_ | (refine yy ?_ ?_ <;> intro _) | exact zD | exact zL)
 | false =>
 cases h2 : b.k == 0 with
 | true =>
  rw [h2] at hq
  simp only [Bool.or_true, Bool.true_or, cond_true] at hq
  rw [hq]
  refine ye2 func152 ntmps152 fun _ _ _=>?_
  repeat' (first | refine yz ?_ | refine yx ?_ | (refine yy ?_ ?_ <;> intro _) | exact zD | exact zL)
 | false =>
 cases h3 : Val.okV a with
 | false =>
  rw [h3] at va hq
  simp only [Bool.not_false, Bool.or_true, Bool.true_or, cond_true] at hq
  rw [hq]
  refine ye2 func152 ntmps152 fun _ _ _=>?_
  repeat' (first | refine yz ?_ | refine yp b231 va ?_ | refine yx ?_ | (refine yy ?_ ?_ <;> intro _) | exact zD | exact zL)
 | true =>
 rw [h3] at va
 cases h4 : Val.okV b with
 | false =>
  rw [h4] at vb hq
  simp only [Bool.not_false, Bool.or_true, cond_true] at hq
  rw [hq]
  refine ye2 func152 ntmps152 fun _ _ _=>?_
  repeat' (first | refine yz ?_ | refine qP (d := 15) rfl rfl rfl rfl rfl rfl b231 (va) ?_ | refine yp b231 vb ?_ | refine yx ?_ | (refine yy ?_ ?_ <;> intro _) | exact zD | exact zL)
 | true =>
  rw [h4] at vb
  have he' := he h3 h4
  refine ye2 func152 ntmps152 fun _ _ _=>?_
  repeat' (first | refine yz ?_ | refine qP (d := 15) rfl rfl rfl rfl rfl rfl b231 (va) ?_ | refine yp b231 vb ?_ | refine yp b237 he' ?_ | refine yx ?_ | (refine yy ?_ ?_ <;> intro _) | exact zD | exact zL)
end Go.Proofs.YtenpjlghikohmaaGreatDoor
