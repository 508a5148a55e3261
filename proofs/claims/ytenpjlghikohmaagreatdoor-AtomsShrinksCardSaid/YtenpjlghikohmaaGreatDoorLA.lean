/- Natural numbers as lists of limbs: the value, the canonical list, comparison; Natural numbers as lists of limbs: what one step of the products by rows does, and trimming; Natural numbers as lists of limbs: comparison from the top; The least product over all orders: the table over sets, the greedy order that attains it, and that no order does better; The order that attains the least product, and the product along any order; Sets as increasing lists; a list that has each of 0..n-1 and no more than n elements has each once; Statistics, atoms and conjunctive queries: how they are read in memory; w. Conditions: each part's own, as it says. -/
import Derived.Test.YtenpjlghikohmaaGreatDoorGC
set_option linter.unusedVariables false
set_option linter.unusedSimpArgs false
namespace Go.Proofs.YtenpjlghikohmaaGreatDoor
set_option maxRecDepth 4000
def vl : List Int → Nat
 | [] => 0
 | x :: r => x.toNat + 1000000000 * vl r
def limG : Nat → Nat → List Int
 | 0, _ => []
 | f + 1, n => bif n == 0 then [] else ((n % 1000000000 : Nat) : Int) :: limG f (n / 1000000000)
def lim (n : Nat) : List Int := limG n n
def okD (x : Int) : Prop := 0 ≤ x ∧ x < 1000000000
theorem dh6 : ∀ (p s : List Int), vl (p ++ s) = vl p + 1000000000 ^ p.length * vl s
 | [], s => by simp [vl]
 | x :: r, s => by
  rw [fe3, vl, vl, dh6 r s, fa8, Nat.pow_succ, Nat.mul_add, ← Nat.mul_assoc, Nat.mul_comm 1000000000 (1000000000 ^ r.length)];omega
theorem dh7 {l : List Int} {k : Nat} {x : Int} (h : l[k]? = some x) : vl (l.take (k + 1)) = vl (l.take k) + 1000000000 ^ k * x.toNat := by
 have hk := (ez7.1 h).1;rw [ez5 hk] at h
 cases h
 rw [fm0 hk, dh6, vl, vl, fb6, Nat.min_eq_left (by omega)];simp
theorem dh8 {l : List Int} {j : Nat} {x : Int} (h : l[j]? = some x) (v : Int) : vl (l.set j v) + 1000000000 ^ j * x.toNat = vl l + 1000000000 ^ j * v.toNat := by
 induction l generalizing j with
 | nil => simp at h
 | cons a r ih =>
  cases j with
  | zero =>
   simp at h;subst h;rw [List.set_cons_zero, vl, vl];omega
  | succ j =>
   have := ih (j := j) (by simpa using h);rw [List.set_cons_succ, vl, vl, Nat.pow_succ, Nat.mul_comm (1000000000 ^ j) 1000000000, Nat.mul_assoc, Nat.mul_assoc];omega
theorem dh9 {l : List Int} (h : ∀ x ∈ l, okD x) {j : Nat} {v : Int} (hv : okD v) : ∀ x ∈ l.set j v, okD x := by
 intro x hx;rcases fk6 hx with hx | rfl
 ·exact h x hx
 ·exact hv
theorem di0 {out b : List Int} {i k : Nat} {o x y c : Int} {V : Nat} (ho : out[i + k]? = some o) (hy : b[k]? = some y) (h1 : okD o) (h2 : okD x) (h3 : okD y) (h4 : okD c)
  (hv : vl out + 1000000000 ^ (i + k) * c.toNat = V + 1000000000 ^ i * (x.toNat * vl (b.take k))) :
  okD (Int.tmod (c + (o + x * y)) 1000000000) ∧ okD (Int.tdiv (c + (o + x * y)) 1000000000) ∧ (0 ≤ c + (o + x * y) ∧ c + (o + x * y) < 1000000000000000000) ∧ (0 ≤ x * y ∧ x * y < 1000000000000000000) ∧ (0 ≤ o + x * y ∧ o + x * y < 1000000000000000000) ∧
  vl (out.set (i + k) (Int.tmod (c + (o + x * y)) 1000000000)) + 1000000000 ^ (i + (k + 1)) * (Int.tdiv (c + (o + x * y)) 1000000000).toNat = V + 1000000000 ^ i * (x.toNat * vl (b.take (k + 1))) := by
 unfold okD at *;have hs := dh8 ho (Int.tmod (c + (o + x * y)) 1000000000);have ht := dh7 hy;have hxy0 : 0 ≤ x * y := fj4 h2.1 h3.1;have hxy1 : x * y ≤ 999999999 * 999999999 := Int.mul_le_mul (by omega) (by omega) h3.1 (by omega)
 have hxyn : (x * y).toNat = x.toNat * y.toNat := by
  obtain ⟨m, rfl⟩ := fi3 h2.1;obtain ⟨n, rfl⟩ := fi3 h3.1;rw [← Int.natCast_mul];rfl
 generalize hP : x * y = P at *;have hS : 0 ≤ c + (o + P) := by omega
 rw [ff9 hS, fg8 hS] at *;refine ⟨by omega, by omega, by omega, by omega, by omega, ?_⟩;rw [ht, Nat.mul_add x.toNat, Nat.mul_add (1000000000 ^ i), ← fh6 V, ← hv]
 have e1 : 1000000000 ^ i * (x.toNat * (1000000000 ^ k * y.toNat)) = 1000000000 ^ (i + k) * P.toNat := by
  rw [hxyn, Nat.pow_add, Nat.mul_left_comm x.toNat, Nat.mul_assoc]
 have e2 : 1000000000 ^ (i + (k + 1)) * ((c + (o + P)) / 1000000000).toNat = 1000000000 ^ (i + k) * (1000000000 * ((c + (o + P)) / 1000000000).toNat) := by
  rw [← fh6, Nat.pow_succ, Nat.mul_assoc]
 rw [e1, e2];generalize 1000000000 ^ (i + k) = Z at *;have e3 : c.toNat + (o.toNat + P.toNat) = ((c + (o + P)) % 1000000000).toNat + 1000000000 * ((c + (o + P)) / 1000000000).toNat := by omega
 have e4 : Z * c.toNat + (Z * o.toNat + Z * P.toNat) = Z * ((c + (o + P)) % 1000000000).toNat + Z * (1000000000 * ((c + (o + P)) / 1000000000).toNat) := by
  rw [← Nat.mul_add, ← Nat.mul_add, ← Nat.mul_add, e3]
 omega
theorem di1 {x i : Nat} (h : x.testBit i = false) (j : Nat) : (x + 2 ^ i).testBit j = (x.testBit j || j == i) := by
 have hx : x / 2 ^ i % 2 = 0 := by
  rw [Nat.testBit_eq_decide_div_mod_eq] at h;have := of_decide_eq_false h;omega
 have hp : 0 < 2 ^ i := Nat.two_pow_pos i;rcases Nat.lt_trichotomy j i with hj | rfl | hj
 ·rw [Nat.add_comm, Nat.testBit_two_pow_add_gt hj];have : (j == i) = false := by simp; omega
  rw [this, fc2]
 ·rw [Nat.add_comm, Nat.testBit_two_pow_add_eq, h];simp
 ·have e : (j == i) = false := by simp; omega
  rw [e, fc2, Nat.testBit_eq_decide_div_mod_eq, Nat.testBit_eq_decide_div_mod_eq]
  have hd : (x + 2 ^ i) / 2 ^ j = x / 2 ^ j := by
   obtain ⟨d, rfl⟩ : ∃ d, j = i + 1 + d := ⟨j - (i + 1), by omega⟩;rw [Nat.pow_add, ← Nat.div_div_eq_div_mul, ← Nat.div_div_eq_div_mul, Nat.pow_succ, ← Nat.div_div_eq_div_mul, ← Nat.div_div_eq_div_mul, Nat.add_div_right _ hp];rw [show (x / 2 ^ i + 1) / 2 = x / 2 ^ i / 2 by omega]
  rw [hd]
theorem di2 {x i n : Nat} (h : x.testBit i = false) (hx : x < 2 ^ n) (hi : i < n) : x + 2 ^ i < 2 ^ n := by
 refine Nat.lt_pow_two_of_testBit _ fun j hj => ?_
 rw [di1 h, Nat.testBit_lt_two_pow (fj1 hx (Nat.pow_le_pow_right (by omega) hj))];simp; omega
def minO : Option Nat → Nat → Nat
 | none, x => x
 | some y, x => if x < y then x else y
def di3 (g : Nat → Nat) (set : Nat) (o : Option Nat) (i : Nat) : Option Nat := bif set.testBit i then o else some (minO o (g i))
def tbG (f : Nat → Nat → Nat) (n : Nat) : Nat → Nat → Nat
 | 0, _ => 1
 | k + 1, set => ((List.range n).foldl (di3 (fun i => f set i * tbG f n k (set + 2 ^ i)) set) none).getD 1
def tb (f : Nat → Nat → Nat) (n set : Nat) : Nat := tbG f n (2 ^ n - set) set
theorem di4 {g g' : Nat → Nat} {set : Nat} : ∀ (l : List Nat) (o : Option Nat), (∀ i ∈ l, set.testBit i = false → g i = g' i) → l.foldl (di3 g set) o = l.foldl (di3 g' set) o
 | [], _, _ => rfl
 | i :: r, o, h => by
  have e : di3 g set o i = di3 g' set o i := by
   unfold di3
   cases hb : set.testBit i with
   | true => rfl
   | false => rw [h i (by simp) hb]
  rw [ff3, ff3, e, di4 r _ fun j hj => h j (by simp [hj])]
theorem di5 {f : Nat → Nat → Nat} {n : Nat} : ∀ (k k' set : Nat), set < 2 ^ n → 2 ^ n - set ≤ k → 2 ^ n - set ≤ k' → tbG f n k set = tbG f n k' set
 | 0, _, set, h, hk, _ => by omega
 | _, 0, set, h, _, hk => by omega
 | k + 1, k' + 1, set, h, hk, hk' => by
  unfold tbG
  rw [di4 (g' := fun i => f set i * tbG f n k' (set + 2 ^ i)) _ none fun i hi hb => by
   have hp : 0 < 2 ^ i := Nat.two_pow_pos i;have := di2 hb h (fc6.1 hi);rw [di5 k k' _ this (by omega) (by omega)]]
theorem tb_eq (f : Nat → Nat → Nat) {n set : Nat} (h : set < 2 ^ n) : tb f n set = ((List.range n).foldl (di3 (fun i => f set i * tb f n (set + 2 ^ i)) set) none).getD 1 := by
 unfold tb;obtain ⟨k, hk⟩ : ∃ k, 2 ^ n - set = k + 1 := ⟨2 ^ n - set - 1, by omega⟩;rw [hk, tbG]
 rw [di4 (g' := fun i => f set i * tbG f n (2 ^ n - (set + 2 ^ i)) (set + 2 ^ i)) _ none fun i hi hb => by
  have hp : 0 < 2 ^ i := Nat.two_pow_pos i;have := di2 hb h (fc6.1 hi);rw [di5 k (2 ^ n - (set + 2 ^ i)) _ this (by omega) (by omega)]]
open Go Go.Abs Go.Val
structure AT where
 k : Int
 vs : List Int
 nm : ByteArray
 ty : List ByteArray
 v : V
structure CJ where
 vs : List ByteArray
 «as» : List AT
def di6 (l : List Int) : D := .sl (l.map .int)
def di7 (a : AT) : D := .agg [.int a.k, di6 a.vs, .str a.nm, .sl (a.ty.map .str), .int a.v.k, .int a.v.n, .int a.v.d, .str a.v.s, .sl (br4 a.v)]
def di8 (c : CJ) : D := .agg [.sl (c.vs.map .str), .sl (c.as.map di7)]
attribute [local irreducible] Ev EvO EvS aw2 an2 SGo go
def iL (l : List Int) : List D := l.map D.int
theorem di9 (l : List Int) : (iL l).length = l.length := by simp [iL]
theorem dj0 {l : List Int} {i : Nat} {x : Int} (h : l[i]? = some x) : (iL l)[(i : Int).toNat]? = some (.int x) := by rw [fb4, iL, ez8, h]; rfl
theorem dj1 (l m : List Int) : iL (l ++ m) = iL l ++ iL m := by simp [iL]
theorem dj2 (l : List Int) : ∀ d ∈ iL l, d.cells.length = 1 := fun d hd => by
 obtain ⟨u, -, rfl⟩ := fc4.1 hd;rfl
abbrev dj3 (n : Nat) : D := .sl (iL (lim n))
structure SPi (a b : List Int) (i : Nat) (x : Int) where
 k : Nat
 c : Int
 out : List Int
 hk : k ≤ b.length
 hc : okD c
 hl : out.length = a.length + b.length
 ok : ∀ x ∈ out, okD x
 hv : vl out + 1000000000 ^ (i + k) * c.toNat = vl (a.take i) * vl b + 1000000000 ^ i * (x.toNat * vl (b.take k))
 hz : ∀ j, i + b.length ≤ j → j < out.length → out[j]? = some 0
theorem SPi.next {a b : List Int} {i k : Nat} {x y o c : Int} {out : List Int} (hk : k < b.length) (ho : out[i + k]? = some o) (hy : b[k]? = some y) (h1 : okD o) (h2 : okD x) (h3 : okD y) (hc : okD c) (hl : out.length = a.length + b.length) (ok : ∀ x ∈ out, okD x)
  (hv : vl out + 1000000000 ^ (i + k) * c.toNat = vl (a.take i) * vl b + 1000000000 ^ i * (x.toNat * vl (b.take k)))
  (hz : ∀ j, i + b.length ≤ j → j < out.length → out[j]? = some 0) :
  ∃ p : SPi a b i x, p.k = k + 1 ∧ p.c = Int.tdiv (c + (o + x * y)) 1000000000 ∧ p.out = out.set (i + k) (Int.tmod (c + (o + x * y)) 1000000000) := by
 obtain ⟨m1, m2, m3, m4, m5, m6⟩ := di0 ho hy h1 h2 h3 hc hv;refine ⟨⟨k + 1, _, _, hk, m2, by simpa using hl, dh9 ok m1, m6, fun j a1 a2 => ?_⟩, rfl, rfl, rfl⟩;rw [fk2 (by omega)];exact hz j a1 (by simpa using a2)
end Go.Proofs.YtenpjlghikohmaaGreatDoor
