/- The specification's wide numbers: their value, and what times, plus, minus, order and sum come to; The specification's product of wide numbers; The specification's sums of wide numbers; The specification's sum of signed wide numbers, and its comparison of fractions; The program's wide numbers and its comparison of fractions; Numbers and strings as text, by both texts; Values as text, by both texts; The program's values as text; Copies of values, by both texts; Comparisons: of integers, strings, lists; the specification's order of values; The program's order of values; equality and Less of both. Conditions: each part's own, as it says. -/
import Derived.Test.YtibfalecohlngaaGreatDoorGC
import Derived.Test.YtibfalecohlngaaGreatDoorMA
import Derived.Test.YtibfalecohlngaaGreatDoorGA
import Derived.Test.YtibfalecohlngaaGreatDoorGB
import Derived.Shelf.Spec.BitsCarry
import Derived.Lib.ReplaceLaws
import Derived.Lib.Join
set_option linter.unusedVariables false
set_option linter.unusedSimpArgs false
namespace Go.Proofs.YtibfalecohlngaaGreatDoor
set_option maxRecDepth 4000
open Go Go.Abs Go.Val Go.Proofs.Tryz
attribute [local irreducible] go SGo an2 Ev
def wv : List Int → Int
 | [] => 0
 | d :: r => d + 1000 * wv r
def wok (l : List Int) : Prop := ∀ d ∈ l, 0 ≤ d ∧ d ≤ 999
def cg6 (l : List Int) : List D := l.map fun n => .int n
theorem cg7 {l : List Int} {i : Nat} {x : Int} (h : l[i]? = some x) : (cg6 l)[i]? = some (.int x) := by
 unfold cg6;rw [fh1, h];rfl
theorem cg8 (l : List Int) : (cg6 l).length = l.length := by simp [cg6]
def pw : Nat → Int
 | 0 => 1
 | k + 1 => 1000 * pw k
theorem cg9 : ∀ k, 1 ≤ pw k
 | 0 => Int.le_refl _
 | k + 1 => by have := cg9 k; simp only [pw]; omega
theorem ch0 (m : Nat) : ∀ k, pw (m + k) = pw m * pw k
 | 0 => by simp [pw]
 | k + 1 => by
  rw [← Nat.add_assoc];simp only [pw];rw [ch0 m k, Int.mul_left_comm]
theorem ch1 {k m : Nat} {c : Int} (hc : 1 ≤ c) (h : c * pw k ≤ pw m) : k ≤ m := by
 rcases fg7 m k with hlt | hge
 ·exfalso;obtain ⟨j, rfl⟩ : ∃ j, k = (m + 1) + j := ⟨k - (m + 1), by omega⟩;have h1 := cg9 m;have h2 := cg9 j
  have h3 : pw (m + 1) ≤ pw (m + 1) * pw j := by
   have := fr0 h2 (show 0 ≤ pw (m + 1) by have := cg9 (m + 1); omega);rwa [Int.mul_one] at this
  rw [ch0] at h
  have h4 : pw (m + 1) * pw j ≤ c * (pw (m + 1) * pw j) := by
   have := fr1 hc (show 0 ≤ pw (m + 1) * pw j by have := cg9 (m + 1); omega);rwa [Int.one_mul] at this
  simp only [pw] at h3 h4 h;omega
 ·exact hge
theorem ch2 : ∀ (l : List Int) (k : Nat) (x y : Int), l[k]? = some x → wv (l.set k y) = wv l + pw k * (y - x)
 | [], k, x, y, h => by simp at h
 | d :: r, 0, x, y, h => by simp at h; subst h; simp only [List.set_cons_zero, wv, pw]; omega
 | d :: r, k + 1, x, y, h => by
  have ih := ch2 r k x y (by simpa using h);simp only [List.set_cons_succ, wv, ih, pw];rw [Int.mul_add, ← fn6];omega
theorem ch3 : ∀ (l : List Int), wok l → 0 ≤ wv l
 | [], _ => Int.le_refl _
 | d :: r, h => by
  have h1 := (h d (by simp)).1;have h2 := ch3 r fun x hx => h x (by simp [hx])
  simp only [wv];omega
theorem ch4 {l : List Int} (h : wok l) (k : Nat) (y : Int) (hy : 0 ≤ y ∧ y ≤ 999) : wok (l.set k y) := fun d hd => by
 rcases fq3 hd with h1 | h1
 ·exact h d h1
 ·rw [h1]; exact hy
def sgn (n : Int) : Int := if n < 0 then -1 else if n > 0 then 1 else 0
theorem ch5 (n : Int) : Ev E 77 [.int n] (.d (.int (sgn n))) := by
 refine ye1 func77 ntmps77 fun _ _ _=>?_
 repeat' (first | refine yz ?_ | (refine qV rfl ?_ ?_ <;> intro _))
 all_goals (refine congrArg D.int ?_; simp only [decide_eq_true_eq, decide_eq_false_iff_not] at *; unfold sgn; split <;> (try split) <;> omega)
structure TO (a0 b : Int) where
 i : Nat
 a : Int
 out : List Int
 ha : 0 ≤ a
 hb : a * pw i ≤ 1000000000000000
 ok : wok out
 hl : out.length = 14
 hv : wv out + pw i * (a * b) = a0 * b
structure TI (a0 b d a' : Int) (i : Nat) where
 k : Nat
 c : Int
 carry : Int
 out : List Int
 hk : k ≤ 11
 hc : 0 ≤ c
 hcb : ∃ j, k = i + j ∧ c * pw j ≤ 1000000000000000
 hca : 0 ≤ carry ∧ carry ≤ 999
 ok : wok out
 hl : out.length = 14
 hv : wv out + pw k * (d * c + carry) + pw (i + 1) * (a' * b) = a0 * b
theorem ch6 {out : List Int} (hl : out.length = 14) {k : Nat} (hk : k < 14) : ∃ x, out[k]? = some x := ⟨out[k], fg5 (by omega)⟩
theorem ch7 (l : List Int) (k : Nat) (y : Int) : (cg6 l).set k (.int y) = cg6 (l.set k y) := by simp [cg6, List.map_set]
theorem ch8 {out : List Int} {k i : Nat} {x d c carry a' b T : Int} (hx : out[k]? = some x) (h0 : 0 ≤ carry + x + d * (c % 1000)) (hc : 0 ≤ c)
  (hv : wv out + pw k * (d * c + carry) + pw (i + 1) * (a' * b) = T) :
  wv (out.set k ((carry + x + d * (c % 1000)) % 1000)) + pw (k + 1) * (d * (c / 1000) + (carry + x + d * (c % 1000)) / 1000) + pw (i + 1) * (a' * b) = T := by
 rw [ch2 out k x _ hx, ← hv];have e1 : c = c % 1000 + 1000 * (c / 1000) := by omega
 have e2 : carry + x + d * (c % 1000) = (carry + x + d * (c % 1000)) % 1000 + 1000 * ((carry + x + d * (c % 1000)) / 1000) := by omega
 generalize hq : (carry + x + d * (c % 1000)) / 1000 = q at *;generalize hr : (carry + x + d * (c % 1000)) % 1000 = r at *
 have e3 : d * c = d * (c % 1000) + 1000 * (d * (c / 1000)) := by
  rw [← Int.mul_left_comm, ← Int.mul_add, ← e1]
 have e4 : pw (k + 1) * (d * (c / 1000) + q) = pw k * (1000 * (d * (c / 1000)) + 1000 * q) := by
  simp only [pw];rw [Int.mul_comm 1000 (pw k), fn6, Int.mul_add 1000]
 have e5 : pw k * (r - x) + pw k * (1000 * (d * (c / 1000)) + 1000 * q) = pw k * (d * c + carry) := by
  rw [← Int.mul_add];congr 1;omega
 rw [e4];omega
theorem pw5 : pw 5 = 1000000000000000 := by decide
def ch9 : Nat → Int → List Int
 | 0, _ => []
 | k + 1, n => n % 1000 :: ch9 k (n / 1000)
theorem ci0 : ∀ (l : List Int), wok l → ch9 l.length (wv l) = l
 | [], _ => rfl
 | d :: r, h => by
  have hd := h d (by simp);simp only [fh9, ch9, wv];rw [show (d + 1000 * wv r) % 1000 = d from by omega, show (d + 1000 * wv r) / 1000 = wv r from by omega, ci0 r fun x hx => h x (by simp [hx])]
theorem ci1 {l : List Int} {n : Int} (h : wok l) (hl : l.length = 14) (hv : wv l = n) : l = ch9 14 n := by
 rw [← hv, ← hl, ci0 l h]
theorem ci2 : ∀ (k : Nat) (n : Int), (ch9 k n).length = k
 | 0, _ => rfl
 | k + 1, n => by simp [ch9, ci2 k]
theorem ci3 : ∀ (k : Nat) (n : Int), wok (ch9 k n)
 | 0, _ => by intro d hd; simp [ch9] at hd
 | k + 1, n => by
  intro d hd;simp only [ch9, fh7] at hd;rcases hd with h | h
  ·subst h; omega
  ·exact ci3 k _ d h
theorem ci4 : ∀ (k : Nat) (n : Int), 0 ≤ n → n < pw k → wv (ch9 k n) = n
 | 0, n, h0, h1 => by simp only [pw] at h1; simp only [ch9, wv]; omega
 | k + 1, n, h0, h1 => by
  simp only [pw] at h1;simp only [ch9, wv];rw [ci4 k (n / 1000) (by omega) (by omega)];omega
theorem ci5 {a0 b d c carry a' : Int} {k i : Nat} {out : List Int} (ha0 : 0 ≤ a0) (ha1 : a0 ≤ 1000000000000000) (hb0 : 0 ≤ b) (hb1 : b ≤ 1000000000000000) (ok : wok out) (hd : 0 ≤ d) (hc : 0 ≤ c) (hca : carry > 0) (ha' : 0 ≤ a')
  (hv : wv out + pw k * (d * c + carry) + pw (i + 1) * (a' * b) = a0 * b) : k ≤ 10 := by
 have h1 := ch3 out ok;have h2 : 0 ≤ pw (i + 1) * (a' * b) := fo9 (by have := cg9 (i + 1); omega) (fo9 ha' hb0);have h3 : a0 * b ≤ 1000000000000000 * 1000000000000000 := Int.mul_le_mul ha1 hb1 hb0 (by omega);have h4 : 1 ≤ d * c + carry := by have := fo9 hd hc; omega
 refine ch1 h4 ?_;rw [Int.mul_comm, show pw 10 = 1000000000000000 * 1000000000000000 from by decide];omega
theorem ci6 (l : List Int) (k : Nat) (x y : Int) : (cg6 l).set ((k : Int)).toNat (ar1 (.int x) 0 (.int y)) = cg6 (l.set k y) := by
 rw [fh0];exact ch7 l k y
theorem ci7 {a0 b d a' : Int} {i k j : Nat} {c carry x : Int} {out : List Int} (hk : k ≤ 10) (hj : k = i + j) (hcb : c * pw j ≤ 1000000000000000) (hc : 0 ≤ c) (hca : 0 ≤ carry ∧ carry ≤ 999) (ok : wok out) (hl : out.length = 14) (hx : out[k]? = some x) (hxr : 0 ≤ x ∧ x ≤ 999)
  (hp : 0 ≤ d * c.tmod 1000 ∧ d * c.tmod 1000 ≤ 998001) (hv : wv out + pw k * (d * c + carry) + pw (i + 1) * (a' * b) = a0 * b) :
  ∃ y : TI a0 b d a' i, y.k = k + 1 ∧ y.c = c.tdiv 1000 ∧ y.carry = (carry + x + d * c.tmod 1000).tdiv 1000 ∧ y.out = out.set k ((carry + x + d * c.tmod 1000).tmod 1000) := by
 have s1 : c.tmod 1000 = c % 1000 := fl3 hc;have s2 : c.tdiv 1000 = c / 1000 := fm1 hc;have t0 : 0 ≤ carry + x + d * c.tmod 1000 := by omega
 have s3 : (carry + x + d * c.tmod 1000).tmod 1000 = (carry + x + d * c.tmod 1000) % 1000 := fl3 t0;have s4 : (carry + x + d * c.tmod 1000).tdiv 1000 = (carry + x + d * c.tmod 1000) / 1000 := fm1 t0;refine ⟨⟨k + 1, c.tdiv 1000, (carry + x + d * c.tmod 1000).tdiv 1000, out.set k ((carry + x + d * c.tmod 1000).tmod 1000), by omega, by rw [s2]; omega, ⟨j + 1, by omega, ?_⟩, by rw [s4]; omega, ch4 ok k _ (by rw [s3]; omega), by simpa using hl, ?_⟩, rfl, rfl, rfl, rfl⟩
 ·rw [s2];simp only [pw];have h1 : c / 1000 * 1000 ≤ c := by omega
  have := fr1 h1 (show 0 ≤ pw j by have := cg9 j; omega);rw [fn6] at this;omega
 ·rw [s3, s4, s1, s2];rw [s1] at t0;exact ch8 hx t0 hc hv
theorem ci8 (a0 b : Int) (ha0 : 0 ≤ a0) (ha1 : a0 ≤ 1000000000000000) (hb0 : 0 ≤ b) (hb1 : b ≤ 1000000000000000) : Ev E 78 [.int a0, .int b] (.d (.sl (cg6 (ch9 14 (a0 * b))))) := by
 refine ye2 func78 ntmps78 fun _ _ _=>?_
 repeat' (refine yz ?_)
 refine ac7 (α := TO a0 b) (fun p => ⟨[(0, .d (.int p.a)), (1, .d (.int b)), (5, .own 0), (6, .d (.int p.i))], [.row 3 1 (cg6 p.out)]⟩) (fun p => p.a.toNat) ⟨0, a0, List.replicate 14 0, ha0, by simp only [pw]; omega, fun d hd => by rw [(fo8.1 hd).2]; omega, by simp, by simp [pw, wv, List.replicate]⟩ (zle 1) ?_;rintro ⟨i, a, out, ha, hb, ok, hl, hv⟩;dsimp only
 by_cases hpos : a > 0
 ·have hd : decide (a > 0) = true := by simpa using hpos
  have hi5 : i ≤ 5 := ch1 (show 1 ≤ a by omega) (by rw [pw5]; exact hb);have q1 : a.tmod 1000 = a % 1000 := fl3 ha;have q2 : a.tdiv 1000 = a / 1000 := fm1 ha
  have ha2 : a ≤ 1000000000000000 := by
   have := fr0 (cg9 i) ha;rw [Int.mul_one] at this;omega
  have r1 : inR .i64 (a.tmod 1000) := by rw [q1]; simp only [inR]; omega
  have hinit : wv out + pw i * (a.tmod 1000 * b + 0) + pw (i + 1) * (a.tdiv 1000 * b) = a0 * b := by
   rw [← hv, q1, q2, Int.add_zero]
   have e : a * b = a % 1000 * b + 1000 * (a / 1000 * b) := by
    rw [← fn6, ← Int.add_mul, show a % 1000 + 1000 * (a / 1000) = a from by omega]
   rw [e, Int.mul_add];simp only [pw];rw [Int.mul_comm 1000 (pw i), fn6];omega
  repeat' (refine yz ?_)
  refine ac7 (α := TI a0 b (a.tmod 1000) (a.tdiv 1000) i) (fun p => ⟨[(0, .d (.int (a.tdiv 1000))), (1, .d (.int b)), (5, .own 0), (6, .d (.int i)), (7, .d (.int (a.tmod 1000))), (8, .d (.int p.c)), (9, .d (.int p.carry)), (10, .d (.int p.k))], [.row 3 1 (cg6 p.out)]⟩) (fun p => 20 - p.k) ⟨i, b, 0, out, by omega, hb0, ⟨0, rfl, by simp only [pw]; omega⟩, by omega, ok, hl, hinit⟩ (zle 1) ?_;rintro ⟨k, c, carry, o2, hk, hc, ⟨j, hj, hcb⟩, hca, ok2, hl2, hv2⟩;dsimp only;have hd0 : 0 ≤ a.tmod 1000 ∧ a.tmod 1000 ≤ 999 := by rw [q1]; omega
  by_cases hcont : c > 0 ∨ carry > 0
  ·have hk10 : k ≤ 10 := by
    rcases hcont with h | h
    ·have : j ≤ 5 := ch1 (show 1 ≤ c by omega) (by rw [pw5]; exact hcb);omega
    ·exact ci5 ha0 ha1 hb0 hb1 ok2 hd0.1 hc h (by rw [q2]; omega) hv2
   obtain ⟨x, hx⟩ := ch6 hl2 (show k < 14 by omega);have hx' : (cg6 o2)[((k : Int)).toNat]? = some (.int x) := cg7 (by rw [fh0]; exact hx);have hxr := ok2 x (fg9 hx);have hle : (cg6 o2).length = 14 := by rw [cg8]; exact hl2
   have s1 : c.tmod 1000 = c % 1000 := fl3 hc;have s2 : c.tdiv 1000 = c / 1000 := fm1 hc
   have hp : 0 ≤ a.tmod 1000 * c.tmod 1000 ∧ a.tmod 1000 * c.tmod 1000 ≤ 998001 := by
    have h1 : 0 ≤ c.tmod 1000 ∧ c.tmod 1000 ≤ 999 := by rw [s1]; omega
    refine ⟨fo9 hd0.1 h1.1, ?_⟩;have := Int.mul_le_mul hd0.2 h1.2 h1.1 (by omega);omega
   have hc15 : c ≤ 1000000000000000 := by
    have := fr0 (cg9 j) hc;rw [Int.mul_one] at this;omega
   obtain ⟨y, e1, e2, e3, e4⟩ := ci7 hk10 hj hcb hc hca ok2 hl2 hx hxr hp hv2
   by_cases hc0 : c > 0
   ·have g1 : decide (c > 0) = true := by simpa using hc0
    repeat' (first | refine yz ?_ | refine qW (.int x) rfl rfl rfl rfl rfl rfl hx' rfl ?_ | refine qZ (.int x) rfl rfl rfl rfl rfl rfl hx' rfl rfl rfl ?_ | refine yx ?_)
    refine ac1 ?_;refine ⟨y, by omega, ?_⟩;rw [e1, e2, e3, e4, ← ci6 o2 k x];exact (zle 1)
   ·have g1 : decide (c > 0) = false := by simpa using hc0
    have g2 : decide (carry > 0) = true := by simp; omega
    repeat' (first | refine yz ?_ | refine qW (.int x) rfl rfl rfl rfl rfl rfl hx' rfl ?_ | refine qZ (.int x) rfl rfl rfl rfl rfl rfl hx' rfl rfl rfl ?_ | refine yx ?_)
    refine ac1 ?_;refine ⟨y, by omega, ?_⟩;rw [e1, e2, e3, e4, ← ci6 o2 k x];exact (zle 1)
  ·have g1 : decide (c > 0) = false := by simp; omega
   have g2 : decide (carry > 0) = false := by simp; omega
   have hc0 : c = 0 := by omega
   have hca0 : carry = 0 := by omega
   subst hc0 hca0
   repeat' (refine yz ?_)
   refine ac1 ?_;refine ⟨⟨i + 1, a.tdiv 1000, o2, by rw [q2]; omega, ?_, ok2, hl2, ?_⟩, by dsimp only; omega, (zle 1)⟩
   ·rw [q2];simp only [pw];have h1 : a / 1000 * 1000 ≤ a := by omega
    have := fr1 h1 (show 0 ≤ pw i by have := cg9 i; omega);rw [fn6] at this;omega
   ·rw [← hv2, Int.mul_zero, Int.add_zero, Int.mul_zero, Int.add_zero]
 ·have hd : decide (a > 0) = false := by simpa using hpos
  have ha' : a = 0 := by omega
  subst ha';rw [Int.zero_mul, Int.mul_zero, Int.add_zero] at hv;rw [← ci1 ok hl hv]
  repeat' (refine yz ?_)
  refine au6 0 rfl ?_
  repeat' (first | refine qL rfl rfl ?_ | exact zD)
structure SPM (x y : List Int) (s : Int) where
 k : Nat
 carry : Int
 out : List Int
 hk : k ≤ 14
 hca : carry = 0 ∨ carry = s
 ok : wok out
 hl : out.length = 14
 hz : ∀ j, k ≤ j → j < 14 → out[j]? = some 0
 hv : wv out + pw k * (carry + wv (x.drop k) + s * wv (y.drop k)) = wv x + s * wv y
theorem ci9 {x y : List Int} {s : Int} (p : SPM x y s) (hk : p.k < 14) {a b r q : Int} (ha : x[p.k]? = some a) (hb : y[p.k]? = some b) (he : p.carry + a + s * b = r + 1000 * q) (hr : 0 ≤ r ∧ r ≤ 999) (hq : q = 0 ∨ q = s) :
  ∃ p' : SPM x y s, p'.k = p.k + 1 ∧ p'.carry = q ∧ p'.out = p.out.set p.k r := by
 refine ⟨⟨p.k + 1, q, p.out.set p.k r, by omega, hq, ch4 p.ok _ _ hr, by simpa using p.hl, fun j h1 h2 => ?_, ?_⟩, rfl, rfl, rfl⟩
 ·rw [List.getElem?_set_ne (by omega)];exact p.hz j (by omega) h2
 ·rw [ch2 p.out p.k 0 r (p.hz p.k (fh5 _) hk), ← p.hv, cd5 ha, cd5 hb];simp only [wv, pw];have e1 : s * (b + 1000 * wv (List.drop (p.k + 1) y)) = s * b + 1000 * (s * wv (List.drop (p.k + 1) y)) := by rw [Int.mul_add, Int.mul_left_comm]
  have e2 : p.carry + (a + 1000 * wv (List.drop (p.k + 1) x)) + s * (b + 1000 * wv (List.drop (p.k + 1) y)) = r + 1000 * (q + wv (List.drop (p.k + 1) x) + s * wv (List.drop (p.k + 1) y)) := by
   rw [e1];omega
  rw [e2, Int.mul_add (pw p.k) r, ← fn6 (pw p.k) 1000, Int.mul_comm (pw p.k) 1000, Int.sub_zero, Int.add_assoc]
theorem cj0 : ∀ (l : List Int), wok l → wv l < pw l.length
 | [], _ => by decide
 | d :: r, h => by
  have h1 := h d (by simp);have h2 := cj0 r fun x hx => h x (by simp [hx])
  simp only [wv, fh9, pw];omega
theorem cj1 {x y : List Int} {s : Int} (p : SPM x y s) (hx : x.length = 14) (hy : y.length = 14) (hk : p.k = 14) (hs : s = 1 ∨ s = -1) (h0 : 0 ≤ wv x + s * wv y) (h1 : wv x + s * wv y < pw 14) : p.out = ch9 14 (wv x + s * wv y) := by
 have hb := cj0 p.out p.ok;rw [p.hl] at hb;have hv := p.hv;rw [hk, fh6 (by omega), fh6 (by omega)] at hv;simp only [wv, Int.mul_zero, Int.add_zero] at hv;have hp : pw 14 = 1000000000000000000000000000000000000000000 := by decide
 rw [hp] at h1 hb hv;have hn := ch3 p.out p.ok;refine ci1 p.ok p.hl ?_;rcases p.hca with h | h <;> rcases hs with h' | h' <;> rw [h] at hv <;> (try rw [h'] at hv h0 h1 ⊢) <;> omega
def spm0 (x y : List Int) (s : Int) : SPM x y s := ⟨0, 0, List.replicate 14 0, by omega, .inl rfl, fun d hd => by rw [(fo8.1 hd).2]; omega, by simp, fun j _ h => by rw [List.getElem?_replicate, if_pos h], by
 have : wv (List.replicate 14 0) = 0 := by decide
 rw [this];simp [pw]⟩
theorem cj2 {x : List Int} (hx : wok x) (hl : x.length = 14) {k : Nat} (hk : k < 14) : ∃ a, x[k]? = some a ∧ (cg6 x)[((k : Int)).toNat]? = some (.int a) ∧ 0 ≤ a ∧ a ≤ 999 := by
 obtain ⟨a, ha⟩ := ch6 hl hk;exact ⟨a, ha, cg7 (by rw [fh0]; exact ha), hx a (fg9 ha)⟩
theorem cj3 (x y : List Int) (hx : wok x) (hy : wok y) (lx : x.length = 14) (ly : y.length = 14) (h1 : wv x + wv y < pw 14) : Ev E 139 [.sl (cg6 x), .sl (cg6 y)] (.d (.sl (cg6 (ch9 14 (wv x + wv y))))) := by
 have zx := ch3 x hx;have zy := ch3 y hy;have hlx : (cg6 x).length = 14 := by rw [cg8]; exact lx
 have hlxz : ((cg6 x).length : Int) = 14 := by rw [hlx]; rfl
 refine ye2 func139 ntmps139 fun _ _ _=>?_
 repeat' (first | refine yz ?_ | (refine qS rfl ⟨rfl, by (show 8 * (cg6 x).length ≤ 281474976710656; omega), by omega⟩ ?_))
 refine ac7 (α := SPM x y 1) (fun p => ⟨[(0, .d (.sl (cg6 x))), (1, .d (.sl (cg6 y))), (5, .own 0), (6, .d (.int p.carry)), (7, .d (.int p.k))], [.row 3 1 (cg6 p.out)]⟩) (fun p => 14 - p.k) (spm0 x y 1) (by rw [hlx]; exact (zle 1)) ?_;intro p;have hkk := p.hk;rcases fg7 p.k 14 with hlt | hge
 ·have hd : decide ((p.k : Int) < ((cg6 x).length : Int)) = true := by rw [hlx]; simp; omega
  obtain ⟨a, a1, a2, a3⟩ := cj2 hx lx hlt;obtain ⟨b, b1, b2, b3⟩ := cj2 hy ly hlt;have c2 : (cg6 p.out)[((p.k : Int)).toNat]? = some (.int 0) := cg7 (by rw [fh0]; exact p.hz p.k (fh5 _) hlt);have hle : (cg6 p.out).length = 14 := by rw [cg8]; exact p.hl
  have hca := p.hca;have t0 : 0 ≤ p.carry + a + b := by omega
  obtain ⟨p', e1, e2, e3⟩ := ci9 p hlt a1 b1 (r := (p.carry + a + b).tmod 1000) (q := (p.carry + a + b).tdiv 1000) (by rw [fl3 t0, fm1 t0]; omega) (by rw [fl3 t0]; omega) (by rw [fm1 t0]; omega)
  repeat' (first | refine yz ?_ | refine yi (.int a) a2 ?_ | refine yi (.int b) b2 ?_ | refine qZ (.int 0) rfl rfl rfl rfl rfl rfl c2 rfl rfl rfl ?_)
  refine ac1 ?_;refine ⟨p', by omega, ?_⟩;rw [e1, e2, e3, ← ci6 p.out p.k 0];exact (zle 1)
 ·have hd : decide ((p.k : Int) < ((cg6 x).length : Int)) = false := by rw [hlx]; simp; omega
  have hend := cj1 p lx ly (by omega) (.inl rfl) (by omega) (by omega);rw [Int.one_mul] at hend;rw [← hend]
  repeat' (refine yz ?_)
  refine au6 0 rfl ?_
  repeat' (first | refine qL rfl rfl ?_ | exact zD)
theorem cj4 (x y : List Int) (hx : wok x) (hy : wok y) (lx : x.length = 14) (ly : y.length = 14) (h1 : wv y ≤ wv x) : Ev E 141 [.sl (cg6 x), .sl (cg6 y)] (.d (.sl (cg6 (ch9 14 (wv x - wv y))))) := by
 have zx := cj0 x hx;rw [lx] at zx;have zy := ch3 y hy;have hlx : (cg6 x).length = 14 := by rw [cg8]; exact lx
 refine ye2 func141 ntmps141 fun _ _ _=>?_
 repeat' (first | refine yz ?_ | (refine qS rfl ⟨rfl, by (show 8 * (cg6 x).length ≤ 281474976710656; omega), by omega⟩ ?_))
 refine ac7 (α := SPM x y (-1)) (fun p => ⟨[(0, .d (.sl (cg6 x))), (1, .d (.sl (cg6 y))), (5, .own 0), (6, .d (.int p.carry)), (7, .d (.int p.k))], [.row 3 1 (cg6 p.out)]⟩) (fun p => 14 - p.k) (spm0 x y (-1)) (by rw [hlx]; exact (zle 1)) ?_;intro p;have hkk := p.hk;rcases fg7 p.k 14 with hlt | hge
 ·have hd : decide ((p.k : Int) < ((cg6 x).length : Int)) = true := by rw [hlx]; simp; omega
  obtain ⟨a, a1, a2, a3⟩ := cj2 hx lx hlt;obtain ⟨b, b1, b2, b3⟩ := cj2 hy ly hlt;have c2 : (cg6 p.out)[((p.k : Int)).toNat]? = some (.int 0) := cg7 (by rw [fh0]; exact p.hz p.k (fh5 _) hlt);have hle : (cg6 p.out).length = 14 := by rw [cg8]; exact p.hl
  have hca := p.hca
  by_cases hneg : p.carry + a - b < 0
  ·have g1 : decide (p.carry + a - b < 0) = true := by simpa using hneg
   obtain ⟨p', e1, e2, e3⟩ := ci9 p hlt a1 b1 (r := p.carry + a - b + 1000) (q := -1) (by omega) (by omega) (by omega)
   repeat' (first | refine yz ?_ | refine yi (.int a) a2 ?_ | refine yi (.int b) b2 ?_ | refine qZ (.int 0) rfl rfl rfl rfl rfl rfl c2 rfl rfl rfl ?_)
   refine ac1 ?_;refine ⟨p', by omega, ?_⟩;rw [e1, e2, e3, ← ci6 p.out p.k 0];exact (zle 1)
  ·have g1 : decide (p.carry + a - b < 0) = false := by simpa using hneg
   obtain ⟨p', e1, e2, e3⟩ := ci9 p hlt a1 b1 (r := p.carry + a - b) (q := 0) (by omega) (by omega) (by omega)
   repeat' (first | refine yz ?_ | refine yi (.int a) a2 ?_ | refine yi (.int b) b2 ?_ | refine qZ (.int 0) rfl rfl rfl rfl rfl rfl c2 rfl rfl rfl ?_)
   refine ac1 ?_;refine ⟨p', by omega, ?_⟩;rw [e1, e2, e3, ← ci6 p.out p.k 0];exact (zle 1)
 ·have hd : decide ((p.k : Int) < ((cg6 x).length : Int)) = false := by rw [hlx]; simp; omega
  have hend := cj1 p lx ly (by omega) (.inr rfl) (by omega) (by omega);rw [show wv x + -1 * wv y = wv x - wv y from by omega] at hend;rw [← hend]
  repeat' (refine yz ?_)
  refine au6 0 rfl ?_
  repeat' (first | refine qL rfl rfl ?_ | exact zD)
theorem cj5 : ∀ (l : List Int) (k : Nat), k ≤ l.length → wv l = wv (l.take k) + pw k * wv (l.drop k)
 | l, 0, _ => by simp [wv, pw]
 | [], k + 1, h => by simp at h
 | d :: r, k + 1, h => by
  simp only [List.take_succ_cons, List.drop_succ_cons, wv, pw];rw [cj5 r k (by simpa using h), Int.mul_add, fn6];omega
theorem cj6 {x y : List Int} (hx : wok x) (lx : x.length = 14) (ly : y.length = 14) (hy : wok y) {k : Nat} (hk : k < 14) {a b : Int} (ha : x[k]? = some a) (hb : y[k]? = some b) (he : x.drop (k + 1) = y.drop (k + 1)) (hab : a < b) : wv x < wv y := by
 rw [cj5 x k (by omega), cj5 y k (by omega), cd5 ha, cd5 hb, he];simp only [wv];have h1 := cj0 (x.take k) fun d hd => hx d (fn4 hd)
 have h2 := ch3 (y.take k) fun d hd => hy d (fn4 hd)
 rw [fi9, lx, Nat.min_eq_left (by omega)] at h1
 have h3 : pw k * (a + 1000 * wv (List.drop (k + 1) y)) + pw k ≤ pw k * (b + 1000 * wv (List.drop (k + 1) y)) := by
  have := fr0 (show a + 1000 * wv (List.drop (k + 1) y) + 1 ≤ b + 1000 * wv (List.drop (k + 1) y) by omega) (show 0 ≤ pw k by have := cg9 k; omega);rw [Int.mul_add _ _ 1, Int.mul_one] at this;exact this
 omega
structure SO (x y : List Int) where
 n : Nat
 hn : n ≤ 14
 he : x.drop n = y.drop n
theorem cj7 (x y : List Int) (hx : wok x) (hy : wok y) (lx : x.length = 14) (ly : y.length = 14) : Ev E 140 [.sl (cg6 x), .sl (cg6 y)] (.d (.int (sgn (wv x - wv y)))) := by
 have hlx : (cg6 x).length = 14 := by rw [cg8]; exact lx
 refine ye2 func140 ntmps140 fun _ _ _=>?_
 repeat' (refine yz ?_)
 refine ac7 (α := SO x y) (fun p => ⟨[(0, .d (.sl (cg6 x))), (1, .d (.sl (cg6 y))), (5, .d (.int ((p.n : Int) - 1)))], []⟩) (fun p => p.n) ⟨14, by omega, by rw [fh6 (by omega), fh6 (by omega)]⟩ (by rw [hlx]; exact (zle 0)) ?_;rintro ⟨n, hn, he⟩;dsimp only
 match n, hn, he with
 | 0, _, he =>
  have g1 : decide (((0 : Nat) : Int) - 1 ≥ 0) = false := by decide
  have : x = y := by simpa using he
  repeat' (refine yz ?_)
  rw [this, Int.sub_self];rfl
 | k + 1, hn, he =>
  have hk : (((k + 1 : Nat) : Int) - 1) = (k : Int) := by omega
  rw [hk];have g1 : decide ((k : Int) ≥ 0) = true := by simp
  obtain ⟨a, a1, a2, a3⟩ := cj2 hx lx (show k < 14 by omega);obtain ⟨b, b1, b2, b3⟩ := cj2 hy ly (show k < 14 by omega)
  by_cases h1 : a < b
  ·have g2 : decide (a < b) = true := by simpa using h1
   have := cj6 hx lx ly hy (by omega) a1 b1 he h1
   repeat' (first | refine yz ?_ | refine yi (.int a) a2 ?_ | refine yi (.int b) b2 ?_)
   unfold sgn;rw [if_pos (by omega)]
  ·have g2 : decide (a < b) = false := by simpa using h1
   by_cases h2 : a > b
   ·have g3 : decide (a > b) = true := by simpa using h2
    have := cj6 hy ly lx hx (by omega) b1 a1 he.symm h2
    repeat' (first | refine yz ?_ | refine yi (.int a) a2 ?_ | refine yi (.int b) b2 ?_)
    unfold sgn;rw [if_neg (by omega), if_pos (by omega)]
   ·have g3 : decide (a > b) = false := by simpa using h2
    repeat' (first | refine yz ?_ | refine yi (.int a) a2 ?_ | refine yi (.int b) b2 ?_)
    refine ac1 ?_;refine ⟨⟨k, by omega, ?_⟩, by dsimp only; omega, (zle 0)⟩;rw [cd5 a1, cd5 b1, he, show a = b from by omega]
theorem cj8 {n : Int} (h : n > 0) : sgn n = 1 := by unfold sgn; rw [if_neg (by omega), if_pos h]
theorem cj9 {n : Int} (h : n < 0) : sgn n = -1 := by unfold sgn; rw [if_pos h]
theorem ck0 : sgn 0 = 0 := rfl
theorem ck1 (A B : Int) (hA : (A.natAbs : Int) ≤ 1000000000000000000000000000000) (hB : (B.natAbs : Int) ≤ 1000000000000000000000000000000) :
  Ev E 76 [.int (sgn A), .sl (cg6 (ch9 14 A.natAbs)), .int (sgn B), .sl (cg6 (ch9 14 B.natAbs))] (.tup [.int (sgn (A + B)), .sl (cg6 (ch9 14 (A + B).natAbs))]) := by
 have hpw : pw 14 = 1000000000000000000000000000000000000000000 := by decide
 have va : wv (ch9 14 A.natAbs) = A.natAbs := ci4 14 _ (by omega) (by omega);have vb : wv (ch9 14 B.natAbs) = B.natAbs := ci4 14 _ (by omega) (by omega);have hp := cj3 (ch9 14 A.natAbs) (ch9 14 B.natAbs) (ci3 _ _) (ci3 _ _) (ci2 _ _) (ci2 _ _) (by rw [va, vb]; omega);have ho := cj7 (ch9 14 A.natAbs) (ch9 14 B.natAbs) (ci3 _ _) (ci3 _ _) (ci2 _ _) (ci2 _ _);have hm1 : (B.natAbs : Int) ≤ A.natAbs → _ := fun h => cj4 (ch9 14 A.natAbs) (ch9 14 B.natAbs) (ci3 _ _) (ci3 _ _) (ci2 _ _) (ci2 _ _) (by rw [va, vb]; exact h)
 have hm2 : (A.natAbs : Int) ≤ B.natAbs → _ := fun h => cj4 (ch9 14 B.natAbs) (ch9 14 A.natAbs) (ci3 _ _) (ci3 _ _) (ci2 _ _) (ci2 _ _) (by rw [va, vb]; exact h)
 have hp0 : Ev E 139 [.sl (List.replicate 14 (.int 0)), .sl (List.replicate 14 (.int 0))] (.d (.sl (cg6 (ch9 14 0)))) := cj3 (List.replicate 14 0) (List.replicate 14 0) (fun d hd => by rw [(fo8.1 hd).2]; omega) (fun d hd => by rw [(fo8.1 hd).2]; omega) rfl rfl (by decide);rw [va, vb] at hp ho;simp only [va, vb] at hm1 hm2
 have same : ∀ s : Int, sgn A = s → (sgn B = s ∨ sgn B = 0) → sgn (A + B) = s → ((A + B).natAbs : Int) = A.natAbs + B.natAbs → Ev E 76 [.int (sgn A), .sl (cg6 (ch9 14 A.natAbs)), .int (sgn B), .sl (cg6 (ch9 14 B.natAbs))] (.tup [.int (sgn (A + B)), .sl (cg6 (ch9 14 (A + B).natAbs))]) := by
  intro s h1 h2 h3 h4;rw [h3, h4, h1]
  cases h5 : s == sgn B with
  | true =>
   refine ap9 func76 ntmps76 rfl rfl fun w0 F0 O => ?_
   repeat' (first | refine yz ?_ | refine yp b139 hp ?_ | refine yx ?_ | exact zL)
  | false =>
   have h6 : (sgn B == 0) = true := by
    rcases h2 with h | h
    ·rw [h] at h5; simp at h5
    ·rw [h]; rfl
   refine ap9 func76 ntmps76 rfl rfl fun w0 F0 O => ?_
   repeat' (first | refine yz ?_ | refine yp b139 hp ?_ | refine yx ?_ | exact zL)
 rcases (show A > 0 ∨ A = 0 ∨ A < 0 by omega) with h1 | h1 | h1 <;> rcases (show B > 0 ∨ B = 0 ∨ B < 0 by omega) with h2 | h2 | h2
 ·exact same 1 (cj8 h1) (.inl (cj8 h2)) (cj8 (by omega)) (by omega)
 ·exact same 1 (cj8 h1) (.inr (by rw [h2]; rfl)) (cj8 (by omega)) (by omega)
 rotate_left
 ·subst h1;have e : ((0 + B).natAbs : Int) = B.natAbs := by omega
  rw [e, Int.zero_add, cj8 h2];refine ap9 func76 ntmps76 rfl rfl fun w0 F0 O => ?_
  repeat' (first | refine yz ?_ | exact zL)
 ·exact same 0 (by rw [h1]; rfl) (.inl (by rw [h2]; rfl)) (by rw [h1, h2]; rfl) (by omega)
 ·subst h1;have e : ((0 + B).natAbs : Int) = B.natAbs := by omega
  rw [e, Int.zero_add, cj9 h2];refine ap9 func76 ntmps76 rfl rfl fun w0 F0 O => ?_
  repeat' (first | refine yz ?_ | exact zL)
 rotate_left
 ·exact same (-1) (cj9 h1) (.inr (by rw [h2]; rfl)) (cj9 (by omega)) (by omega)
 ·exact same (-1) (cj9 h1) (.inl (cj9 h2)) (cj9 (by omega)) (by omega)
 all_goals
  first | rw [cj8 h1] | rw [cj9 h1]
  first | rw [cj8 h2] | rw [cj9 h2]
  rcases (show (A.natAbs : Int) - B.natAbs > 0 ∨ (A.natAbs : Int) - B.natAbs = 0 ∨ (A.natAbs : Int) - B.natAbs < 0 by omega) with h3 | h3 | h3
 ·rw [cj8 h3] at ho;have e : ((A + B).natAbs : Int) = A.natAbs - B.natAbs := by omega
  rw [e, cj8 (show A + B > 0 by omega)];refine ap9 func76 ntmps76 rfl rfl fun w0 F0 O => ?_
  repeat' (first | refine yz ?_ | refine yp br7 ho ?_ | refine yp b141 (hm1 (by omega)) ?_ | exact zL)
 ·rw [h3, ck0] at ho;have e : A + B = 0 := by omega
  rw [e, ck0];refine ap9 func76 ntmps76 rfl rfl fun w0 F0 O => ?_
  repeat' (first | refine yz ?_ | refine yp br7 ho ?_ | refine av3 14 rfl rfl rfl rfl rfl rfl rfl rfl rfl rfl (by decide) (by decide) ?_ | refine yp b139 hp0 ?_ | exact zL)
 ·rw [cj9 h3] at ho;have e : ((A + B).natAbs : Int) = B.natAbs - A.natAbs := by omega
  rw [e, cj9 (show A + B < 0 by omega)];refine ap9 func76 ntmps76 rfl rfl fun w0 F0 O => ?_
  repeat' (first | refine yz ?_ | refine yp br7 ho ?_ | refine yp b141 (hm2 (by omega)) ?_ | exact zL)
 ·rw [cj8 h3] at ho;have e : ((A + B).natAbs : Int) = A.natAbs - B.natAbs := by omega
  rw [e, cj9 (show A + B < 0 by omega)];refine ap9 func76 ntmps76 rfl rfl fun w0 F0 O => ?_
  repeat' (first | refine yz ?_ | refine yp br7 ho ?_ | refine yp b141 (hm1 (by omega)) ?_ | exact zL)
 ·rw [h3, ck0] at ho;have e : A + B = 0 := by omega
  rw [e, ck0];refine ap9 func76 ntmps76 rfl rfl fun w0 F0 O => ?_
  repeat' (first | refine yz ?_ | refine yp br7 ho ?_ | refine av3 14 rfl rfl rfl rfl rfl rfl rfl rfl rfl rfl (by decide) (by decide) ?_ | refine yp b139 hp0 ?_ | exact zL)
 ·rw [cj9 h3] at ho;have e : ((A + B).natAbs : Int) = B.natAbs - A.natAbs := by omega
  rw [e, cj8 (show A + B > 0 by omega)];refine ap9 func76 ntmps76 rfl rfl fun w0 F0 O => ?_
  repeat' (first | refine yz ?_ | refine yp br7 ho ?_ | refine yp b141 (hm2 (by omega)) ?_ | exact zL)
def fzn (n d : Int) : Int := bif bp2 n d then n else 0
def fzd (n d : Int) : Int := bif bp2 n d then d else 1
def ck2 (an ad bn bd : Int) : Int := sgn (fzn an ad * fzd bn bd - fzn bn bd * fzd an ad)
theorem ck3 (n d : Int) : -1000000000000000 ≤ fzn n d ∧ fzn n d ≤ 1000000000000000 ∧ 1 ≤ fzd n d ∧ fzd n d ≤ 1000000000000000 := by
 unfold fzn fzd
 cases h : bp2 n d with
 | false => simp
 | true =>
  simp only [bp2, fg6, decide_eq_true_eq] at h;have := (bp0 n).1 h.2.2.1;simp only [cond_true];omega
theorem ck4 {x y : Int} (hx : -1000000000000000 ≤ x ∧ x ≤ 1000000000000000) (hy : 1 ≤ y ∧ y ≤ 1000000000000000) : ((x * y).natAbs : Int) = x.natAbs * y ∧ ((x * y).natAbs : Int) ≤ 1000000000000000000000000000000 := by
 have e : ((x * y).natAbs : Int) = x.natAbs * y := by rw [Int.natAbs_mul, Int.natCast_mul, Int.natAbs_of_nonneg (show 0 ≤ y by omega)]
 refine ⟨e, ?_⟩;rw [e];have := Int.mul_le_mul (show (x.natAbs : Int) ≤ 1000000000000000 by omega) hy.2 (by omega) (by omega);omega
theorem ck5 {x y : Int} (hy : 1 ≤ y) : sgn (x * y) = sgn x := by
 rcases (show x > 0 ∨ x = 0 ∨ x < 0 by omega) with h | h | h
 ·rw [cj8 h, cj8 (Int.mul_pos h (by omega))]
 ·rw [h, Int.zero_mul]
 ·rw [cj9 h, cj9 (Int.mul_neg_of_neg_of_pos h (by omega))]
theorem ck6 (x : Int) : sgn (-x) = - sgn x := by
 rcases (show x > 0 ∨ x = 0 ∨ x < 0 by omega) with h | h | h
 ·rw [cj8 h, cj9 (by omega)]
 ·rw [h]; rfl
 ·rw [cj9 h, cj8 (by omega)]; rfl
theorem ck7 (x : Int) : -1 ≤ sgn x ∧ sgn x ≤ 1 := by unfold sgn; split <;> (try split) <;> omega
theorem ck8 (an ad bn bd : Int) : Ev E 45 [.agg [.int an, .int ad], .agg [.int bn, .int bd]] (.d (.int (ck2 an ad bn bd))) := by
 have h1 := ck3 an ad;have h2 := ck3 bn bd;have hva := ca1 an ad;have hvb := ca1 bn bd
 have key : ∀ n d n' d' : Int, (-1000000000000000 ≤ n ∧ n ≤ 1000000000000000) → (1 ≤ d ∧ d ≤ 1000000000000000) → (-1000000000000000 ≤ n' ∧ n' ≤ 1000000000000000) → (1 ≤ d' ∧ d' ≤ 1000000000000000) →
   Ev E 76 [.int (sgn n), .sl (cg6 (ch9 14 (n.natAbs * d'))), .int (0 - sgn n'), .sl (cg6 (ch9 14 (n'.natAbs * d)))] (.tup [.int (sgn (n * d' - n' * d)), .sl (cg6 (ch9 14 (n * d' - n' * d).natAbs))]) := by
  intro n d n' d' hn hd hn' hd';obtain ⟨m1, m2⟩ := ck4 hn hd';obtain ⟨m3, m4⟩ := ck4 hn' hd;have := ck1 (n * d') (-(n' * d)) m2 (by rw [Int.natAbs_neg]; exact m4);rw [Int.natAbs_neg, m1, m3, ck5 hd'.1, ck6, ck5 hd.1, ← Int.sub_eq_add_neg] at this;rw [show 0 - sgn n' = - sgn n' by omega];exact this
 have hs := key (fzn an ad) (fzd an ad) (fzn bn bd) (fzd bn bd) (by omega) (by omega) (by omega) (by omega);have ht1 := ci8 (fzn an ad).natAbs (fzd bn bd) (by omega) (by omega) (by omega) (by omega);have ht2 := ci8 (fzn bn bd).natAbs (fzd an ad) (by omega) (by omega) (by omega) (by omega);have hz1 := bz5 (fzn an ad) (by omega);have hz2 := bz5 (fzn bn bd) (by omega);have hg1 := ch5 (fzn an ad);have hg2 := ch5 (fzn bn bd);have hgr := ck7 (fzn bn bd);unfold ck2;generalize hres : (fzn an ad * fzd bn bd - fzn bn bd * fzd an ad) = res at *;clear hres key
 cases ha : bp2 an ad <;> cases hb : bp2 bn bd
 all_goals
  rw [ha] at hva;rw [hb] at hvb;simp only [fzn, fzd, ha, hb, cond_true, cond_false] at hs ht1 ht2 hz1 hz2 hg1 hg2 hgr h1 h2;refine ye2 func45 ntmps45 fun _ _ _=>?_
  repeat' (first | refine yz ?_ | refine yp b75 hva ?_ | refine yp b75 hvb ?_ | refine yp b77 hg1 ?_ | refine yp b77 hg2 ?_ | refine yp b79 hz1 ?_ | refine yp b79 hz2 ?_ | refine yp b78 ht1 ?_ | refine yp b78 ht2 ?_ | refine yp b76 hs ?_ | exact zD)
attribute [local irreducible] aw0
theorem ck9 (n : Int) : Ev E 334 [.int n] (.d (.imm (.int .u64 (n.natAbs : Int)))) := Ev.fit fun hfit => by
 have hn := (hfit (.int n) (by simp)).int;simp only [inR] at hn
 by_cases h : n < 0
 ·have g1 : decide (n < 0) = true := by simpa using h
  have w1 : IntKind.u64.wrap n = n + 18446744073709551616 := by simp [IntKind.wrap, IntKind.signed, IntKind.bits]; omega
  have w2 : IntKind.u64.wrap (0 - (n + 18446744073709551616)) = n.natAbs := by simp [IntKind.wrap, IntKind.signed, IntKind.bits]; omega
  refine ye1 func334 ntmps334 fun _ _ _=>?_
  repeat' (first | refine yz ?_ | (refine aw2 _ rfl rfl rfl rfl rfl rfl rfl w1 ?_) | (refine aw3 _ rfl rfl rfl rfl rfl w2 ?_) | exact zD)
 ·have g1 : decide (n < 0) = false := by simpa using h
  have e : (n.natAbs : Int) = n := by omega
  rw [e];refine ye1 func334 ntmps334 fun _ _ _=>?_
  repeat' (first | refine yz ?_ | exact zD)
def cl0 (neg : Bool) (m : Nat) : D := .agg [.imm (.bool neg), .imm (.int .u64 ((m / 18446744073709551616 : Nat) : Int)), .imm (.int .u64 ((m % 18446744073709551616 : Nat) : Int))]
def sv (neg : Bool) (m : Nat) : Int := bif neg then -(m : Int) else m
theorem cl1 (x y : Nat) (hx : x < 18446744073709551616) (hy : y < 18446744073709551616) : Ev E 333 [.imm (.int .u64 (x : Int)), .imm (.int .u64 (y : Int))] (.tup [.imm (.int .u64 ((x * y / 18446744073709551616 : Nat) : Int)), .imm (.int .u64 ((x * y % 18446744073709551616 : Nat) : Int))]) := by
 refine Ev.mk fun w F vs hF hG hl hr => ?_
 match vs, hl with
 | [v, u], _ =>
  obtain ⟨rfl, -⟩ := Rd.imm_inv (hr 0 _ v rfl rfl);obtain ⟨rfl, -⟩ := Rd.imm_inv (hr 1 _ u rfl rfl);refine (Tryz.bits_Mul64 x y hx hy w).mono ?_;rintro e w' ⟨rfl, rfl⟩;refine ⟨_, F, rfl, Ext.refl hF, [_, _], rfl, rfl, fun i d v hd hv => ?_⟩
  have hq : x * y / 18446744073709551616 < 18446744073709551616 := by
   have : x * y < 18446744073709551616 * 18446744073709551616 := Nat.mul_lt_mul_of_lt_of_le hx (Nat.le_of_lt hy) (by omega);exact fq2 this
  have hm : x * y % 18446744073709551616 < 18446744073709551616 := fl2 _ (by omega)
  match i with
  | 0 => simp at hd hv; subst hd hv; exact Rd.imm _ (af2 (k := .u64) (by simp only [inR]; omega))
  | 1 => simp at hd hv; subst hd hv; exact Rd.imm _ (af2 (k := .u64) (by simp only [inR]; omega))
  | i + 2 => simp at hd
theorem cl2 (a b : Int) : Ev E 303 [.int a, .int b] (.d (cl0 (!(decide (a < 0) == decide (b < 0))) (a.natAbs * b.natAbs))) := Ev.fit fun hfit => by
 have ha := (hfit (.int a) (by simp)).int;have hb := (hfit (.int b) (by simp)).int;simp only [inR] at ha hb;have h1 := ck9 a;have h2 := ck9 b;have h3 := cl1 a.natAbs b.natAbs (by omega) (by omega);refine ye2 func303 ntmps303 fun _ _ _=>?_
 repeat' (first | refine yz ?_ | refine yp b334 h1 ?_ | refine yp b334 h2 ?_ | refine yp b333 h3 ?_ | exact zD)
theorem cl3 (p q : Bool) (m n : Nat) : Ev E 336 [cl0 p m, cl0 q n] (.d (.bool (decide (m < n)))) := by
 have e1 : decide (((m / 18446744073709551616 : Nat) : Int) < ((n / 18446744073709551616 : Nat) : Int)) = decide (m / 18446744073709551616 < n / 18446744073709551616) := by simp only [decide_eq_decide]; omega
 rcases Nat.lt_trichotomy (m / 18446744073709551616) (n / 18446744073709551616) with h | h | h
 ·have g1 : decide (((m / 18446744073709551616 : Nat) : Int) < ((n / 18446744073709551616 : Nat) : Int)) = true := by simp only [decide_eq_true_eq]; omega
  have g3 : decide (m < n) = true := by simp only [decide_eq_true_eq]; omega
  rw [g3];refine ye2 func336 ntmps336 fun _ _ _=>?_
  repeat' (first | refine yz ?_ | refine yx ?_ | exact zD)
 ·have g1 : decide (((m / 18446744073709551616 : Nat) : Int) < ((n / 18446744073709551616 : Nat) : Int)) = false := by simp only [decide_eq_false_iff_not]; omega
  have g2 : (((m / 18446744073709551616 : Nat) : Int) == ((n / 18446744073709551616 : Nat) : Int)) = true := by simp only [beq_iff_eq]; omega
  have g3 : decide (m < n) = decide (((m % 18446744073709551616 : Nat) : Int) < ((n % 18446744073709551616 : Nat) : Int)) := by simp only [decide_eq_decide]; omega
  rw [g3];refine ye2 func336 ntmps336 fun _ _ _=>?_
  repeat' (first | refine yz ?_ | refine yx ?_ | exact zD)
 ·have g1 : decide (((m / 18446744073709551616 : Nat) : Int) < ((n / 18446744073709551616 : Nat) : Int)) = false := by simp only [decide_eq_false_iff_not]; omega
  have g2 : (((m / 18446744073709551616 : Nat) : Int) == ((n / 18446744073709551616 : Nat) : Int)) = false := by simp only [beq_eq_false_iff_ne]; omega
  have g3 : decide (m < n) = false := by simp only [decide_eq_false_iff_not]; omega
  rw [g3];refine ye2 func336 ntmps336 fun _ _ _=>?_
  repeat' (first | refine yz ?_ | refine yx ?_ | exact zD)
theorem cl4 (x y c : Nat) (hc : c ≤ 1) (w : World) : (callFunc 335 [Value.int .u64 (x : Int), .int .u64 (y : Int), .int .u64 (c : Int)].toArray).run E.P w =
  .ok (.value (.tuple #[.int .u64 (((x + y + c) % 18446744073709551616 : Nat) : Int), .int .u64 (((x + y + c) / 18446744073709551616 : Nat) : Int)])) w := by
 have := run_callFunc_extern func335 (by kernel_rfl) (by kernel_rfl) (by kernel_rfl) (e := add64Entry) (by kernel_rfl) #[.int .u64 (x : Int), .int .u64 (y : Int), .int .u64 (c : Int)] w;refine this.trans ?_;rw [run_add64 x y c (by omega) (by omega) (by omega) (by omega)];simp only [Result.andThen];congr 5 <;> omega
theorem cl5 (x y b : Nat) (hb : b ≤ 1) (w : World) : (callFunc 337 [Value.int .u64 (x : Int), .int .u64 (y : Int), .int .u64 (b : Int)].toArray).run E.P w =
  .ok (.value (.tuple #[.int .u64 (((x + 18446744073709551616 - y - b) % 18446744073709551616 : Nat) : Int), .int .u64 ((if x < y + b then 1 else 0 : Nat) : Int)])) w := by
 have := run_callFunc_extern func337 (by kernel_rfl) (by kernel_rfl) (by kernel_rfl) (e := sub64Entry) (by kernel_rfl) #[.int .u64 (x : Int), .int .u64 (y : Int), .int .u64 (b : Int)] w;refine this.trans ?_;rw [run_sub64 x y b hb];rfl
theorem cl6 {a b : Nat} (ha : a < 18446744073709551616) (hb : b < 18446744073709551616) (w : World) (F : Nat → Prop) : RdX w F [] (.tup [.imm (.int .u64 (a : Int)), .imm (.int .u64 (b : Int))]) (.tuple #[.int .u64 (a : Int), .int .u64 (b : Int)]) := by
 refine ⟨[_, _], rfl, rfl, fun i d v hd hv => ?_⟩
 match i with
 | 0 => simp at hd hv; subst hd hv; exact Rd.imm _ (af2 (k := .u64) (by simp only [inR]; omega))
 | 1 => simp at hd hv; subst hd hv; exact Rd.imm _ (af2 (k := .u64) (by simp only [inR]; omega))
 | i + 2 => simp at hd
def cl7 (p q : Bool) (m n : Nat) : Bool × Nat := bif p == q then (p, m + n) else (bif decide (m < n) then (q, n - m) else (p, m - n))
theorem cl8 (p q : Bool) (m n : Nat) : sv (cl7 p q m n).1 (cl7 p q m n).2 = sv p m + sv q n := by
 cases p <;> cases q <;> (simp only [cl7, sv]; cases h : decide (m < n) <;> simp at h <;> simp <;> omega)
theorem cl9 (p q : Bool) (m n : Nat) : (cl7 p q m n).2 ≤ m + n := by
 unfold cl7
 cases p == q <;> cases decide (m < n) <;> simp <;> omega
theorem cm0 (p q : Bool) (m n : Nat) (hm : m ≤ 1000000000000000000000000000000) (hn : n ≤ 1000000000000000000000000000000) : Ev E 304 [cl0 p m, cl0 q n] (.d (cl0 (cl7 p q m n).1 (cl7 p q m n).2)) := by
 cases hpq : p == q with
 | true =>
  have e : cl7 p q m n = (p, m + n) := by unfold cl7; rw [hpq]; rfl
  rw [e];have a1 := cl4 (m % 18446744073709551616) (n % 18446744073709551616) 0 (by omega);have a2 := cl4 (m / 18446744073709551616) (n / 18446744073709551616) ((m % 18446744073709551616 + n % 18446744073709551616 + 0) / 18446744073709551616) (by omega);have r1 := cl6 (a := (m % 18446744073709551616 + n % 18446744073709551616 + 0) % 18446744073709551616) (b := (m % 18446744073709551616 + n % 18446744073709551616 + 0) / 18446744073709551616) (by omega) (by omega);have r2 := cl6 (a := (m / 18446744073709551616 + n / 18446744073709551616 + (m % 18446744073709551616 + n % 18446744073709551616 + 0) / 18446744073709551616) % 18446744073709551616) (b := (m / 18446744073709551616 + n / 18446744073709551616 + (m % 18446744073709551616 + n % 18446744073709551616 + 0) / 18446744073709551616) / 18446744073709551616) (by omega) (by omega);have d1 : (m / 18446744073709551616 + n / 18446744073709551616 + (m % 18446744073709551616 + n % 18446744073709551616 + 0) / 18446744073709551616) % 18446744073709551616 = (m + n) / 18446744073709551616 := by omega
  have d2 : (m % 18446744073709551616 + n % 18446744073709551616 + 0) % 18446744073709551616 = (m + n) % 18446744073709551616 := by omega
  unfold cl0;rw [← d1, ← d2];clear d1 d2 e;replace a1 := aw0.mk a1 r1;replace a2 := aw0.mk a2 r2;clear r1 r2;generalize m / 18446744073709551616 = mh at *;generalize m % 18446744073709551616 = ml at *;generalize n / 18446744073709551616 = nh at *;generalize n % 18446744073709551616 = nl at *;generalize (ml + nl + 0) % 18446744073709551616 = lo at *;generalize (ml + nl + 0) / 18446744073709551616 = c1 at *;generalize (mh + nh + c1) % 18446744073709551616 = hi at *;generalize (mh + nh + c1) / 18446744073709551616 = c2 at *;refine ye2 func304 ntmps304 fun _ _ _=>?_
  repeat' (first | refine yz ?_ | refine aw6 rfl rfl rfl rfl rfl a1 rfl ?_ | refine aw6 rfl rfl rfl rfl rfl a2 rfl ?_ | exact zD)
 | false =>
  have hl := cl3 p q m n;have key : ∀ (p' q' : Bool) (m' n' : Nat), n' ≤ m' → m' ≤ 1000000000000000000000000000000 → True := fun _ _ _ _ _ _ => trivial
  cases hlt : decide (m < n) with
  | true =>
   have e : cl7 p q m n = (q, n - m) := by unfold cl7; rw [hpq, hlt]; rfl
   rw [e];rw [hlt] at hl;have hmn : m < n := of_decide_eq_true hlt;have a1 := cl5 (n % 18446744073709551616) (m % 18446744073709551616) 0 (by omega);have a2 := cl5 (n / 18446744073709551616) (m / 18446744073709551616) (if n % 18446744073709551616 < m % 18446744073709551616 + 0 then 1 else 0) (by split <;> omega);have r1 := cl6 (a := (n % 18446744073709551616 + 18446744073709551616 - m % 18446744073709551616 - 0) % 18446744073709551616) (b := if n % 18446744073709551616 < m % 18446744073709551616 + 0 then 1 else 0) (by omega) (by split <;> omega);have r2 := cl6 (a := (n / 18446744073709551616 + 18446744073709551616 - m / 18446744073709551616 - (if n % 18446744073709551616 < m % 18446744073709551616 + 0 then 1 else 0)) % 18446744073709551616) (b := if n / 18446744073709551616 < m / 18446744073709551616 + (if n % 18446744073709551616 < m % 18446744073709551616 + 0 then 1 else 0) then 1 else 0) (by omega) (by split <;> split <;> omega);have d1 : (n / 18446744073709551616 + 18446744073709551616 - m / 18446744073709551616 - (if n % 18446744073709551616 < m % 18446744073709551616 + 0 then 1 else 0)) % 18446744073709551616 = (n - m) / 18446744073709551616 := by split <;> omega
   have d2 : (n % 18446744073709551616 + 18446744073709551616 - m % 18446744073709551616 - 0) % 18446744073709551616 = (n - m) % 18446744073709551616 := by omega
   unfold cl0 at *;rw [← d1, ← d2];clear d1 d2 e;replace a1 := aw0.mk a1 r1;replace a2 := aw0.mk a2 r2;clear r1 r2;generalize m / 18446744073709551616 = mh at *;generalize m % 18446744073709551616 = ml at *;generalize n / 18446744073709551616 = nh at *;generalize n % 18446744073709551616 = nl at *;generalize (if nl < ml + 0 then 1 else 0 : Nat) = bo at *;generalize (nl + 18446744073709551616 - ml - 0) % 18446744073709551616 = lo at *;generalize (nh + 18446744073709551616 - mh - bo) % 18446744073709551616 = hi at *;generalize (if nh < mh + bo then 1 else 0 : Nat) = c2 at *;refine ye2 func304 ntmps304 fun _ _ _=>?_
   repeat' (first | refine yz ?_ | refine yp b336 hl ?_ | refine aw6 rfl rfl rfl rfl rfl a1 rfl ?_ | refine aw6 rfl rfl rfl rfl rfl a2 rfl ?_ | exact zD)
  | false =>
   have e : cl7 p q m n = (p, m - n) := by unfold cl7; rw [hpq, hlt]; rfl
   rw [e];rw [hlt] at hl;have hmn : ¬ m < n := of_decide_eq_false hlt;have a1 := cl5 (m % 18446744073709551616) (n % 18446744073709551616) 0 (by omega);have a2 := cl5 (m / 18446744073709551616) (n / 18446744073709551616) (if m % 18446744073709551616 < n % 18446744073709551616 + 0 then 1 else 0) (by split <;> omega);have r1 := cl6 (a := (m % 18446744073709551616 + 18446744073709551616 - n % 18446744073709551616 - 0) % 18446744073709551616) (b := if m % 18446744073709551616 < n % 18446744073709551616 + 0 then 1 else 0) (by omega) (by split <;> omega);have r2 := cl6 (a := (m / 18446744073709551616 + 18446744073709551616 - n / 18446744073709551616 - (if m % 18446744073709551616 < n % 18446744073709551616 + 0 then 1 else 0)) % 18446744073709551616) (b := if m / 18446744073709551616 < n / 18446744073709551616 + (if m % 18446744073709551616 < n % 18446744073709551616 + 0 then 1 else 0) then 1 else 0) (by omega) (by split <;> split <;> omega);have d1 : (m / 18446744073709551616 + 18446744073709551616 - n / 18446744073709551616 - (if m % 18446744073709551616 < n % 18446744073709551616 + 0 then 1 else 0)) % 18446744073709551616 = (m - n) / 18446744073709551616 := by split <;> omega
   have d2 : (m % 18446744073709551616 + 18446744073709551616 - n % 18446744073709551616 - 0) % 18446744073709551616 = (m - n) % 18446744073709551616 := by omega
   unfold cl0 at *;rw [← d1, ← d2];clear d1 d2 e;replace a1 := aw0.mk a1 r1;replace a2 := aw0.mk a2 r2;clear r1 r2;generalize m / 18446744073709551616 = mh at *;generalize m % 18446744073709551616 = ml at *;generalize n / 18446744073709551616 = nh at *;generalize n % 18446744073709551616 = nl at *;generalize (if ml < nl + 0 then 1 else 0 : Nat) = bo at *;generalize (ml + 18446744073709551616 - nl - 0) % 18446744073709551616 = lo at *;generalize (mh + 18446744073709551616 - nh - bo) % 18446744073709551616 = hi at *;generalize (if mh < nh + bo then 1 else 0 : Nat) = c2 at *;refine ye2 func304 ntmps304 fun _ _ _=>?_
   repeat' (first | refine yz ?_ | refine yp b336 hl ?_ | refine aw6 rfl rfl rfl rfl rfl a1 rfl ?_ | refine aw6 rfl rfl rfl rfl rfl a2 rfl ?_ | exact zD)
theorem cm1 (t : TypeId) (a b : Nat) (ha : a < 18446744073709551616) (hb : b < 18446744073709551616) (w : World) : (binOp .or t (.int .u64 (a : Int)) (.int .u64 (b : Int))).run E.P w = .ok (.int .u64 ((a ||| b : Nat) : Int)) w := by
 have h1 : BitVec.ofInt 64 (a : Int) = BitVec.ofNat 64 a := by simp
 have h2 : BitVec.ofInt 64 (b : Int) = BitVec.ofNat 64 b := by simp
 have hor : a ||| b < 18446744073709551616 := Nat.or_lt_two_pow (n := 64) ha hb
 have h3 : (BitVec.ofNat 64 a ||| BitVec.ofNat 64 b).toNat = a ||| b := by
  rw [BitVec.toNat_or, BitVec.toNat_ofNat, BitVec.toNat_ofNat, fl7 ha, fl7 hb]
 have hw : IntKind.u64.wrap ((a ||| b : Nat) : Int) = ((a ||| b : Nat) : Int) := af4 (k := .u64) (by simp only [inR]; omega);show (Op.intBits .or .u64 (a : Int) (b : Int)).run E.P w = _;simp only [Op.intBits];show (pure (Value.int .u64 (IntKind.u64.wrap (BitVec.ofInt 64 (a : Int) ||| BitVec.ofInt 64 (b : Int)).toNat)) : Sem Value).run E.P w = _;rw [h1, h2, h3, hw];rfl
theorem cm2 (p : Bool) (m : Nat) (hm : m < 18446744073709551616 * 18446744073709551616) : Ev E 305 [cl0 p m] (.d (.int (sgn (sv p m)))) := by
 have hr := cm1 267 (m / 18446744073709551616) (m % 18446744073709551616) (fq2 hm) (fl2 _ (by omega));have hor : m / 18446744073709551616 ||| m % 18446744073709551616 < 18446744073709551616 := Nat.or_lt_two_pow (n := 64) (fq2 hm) (fl2 _ (by omega));have hok : Go.Abs.okV (.int .u64 ((m / 18446744073709551616 ||| m % 18446744073709551616 : Nat) : Int)) = true := af2 (k := .u64) (by simp only [inR]; omega)
 by_cases h0 : m = 0
 ·subst h0;have e : sgn (sv p 0) = 0 := by cases p <;> rfl
  rw [e];refine ye1 func305 ntmps305 fun _ _ _=>?_
  repeat' (first | refine yz ?_ | (refine aw4 _ rfl rfl rfl rfl rfl rfl hr hok ?_) | exact zD)
 ·have g1 : (((m / 18446744073709551616 ||| m % 18446744073709551616 : Nat) : Int) == 0) = false := by
   rw [beq_eq_false_iff_ne];intro h;have h' : m / 18446744073709551616 ||| m % 18446744073709551616 = 0 := by omega
   rw [Nat.or_eq_zero_iff] at h';omega
  cases p with
  | true =>
   rw [cj9 (show sv true m < 0 by simp only [sv, cond_true]; omega)];refine ye1 func305 ntmps305 fun _ _ _=>?_
   repeat' (first | refine yz ?_ | (refine aw4 _ rfl rfl rfl rfl rfl rfl hr hok ?_) | exact zD)
  | false =>
   rw [cj8 (show sv false m > 0 by simp only [sv, cond_false]; omega)];refine ye1 func305 ntmps305 fun _ _ _=>?_
   repeat' (first | refine yz ?_ | (refine aw4 _ rfl rfl rfl rfl rfl rfl hr hok ?_) | exact zD)
theorem cm3 (a b : Int) : sv (!(decide (a < 0) == decide (b < 0))) (a.natAbs * b.natAbs) = a * b := by
 have e : ((a.natAbs * b.natAbs : Nat) : Int) = (a.natAbs : Int) * b.natAbs := Int.natCast_mul _ _
 by_cases ha : a < 0 <;> by_cases hb : b < 0
 ·rw [show decide (a < 0) = true by simpa using ha, show decide (b < 0) = true by simpa using hb];show ((a.natAbs * b.natAbs : Nat) : Int) = _;rw [e, show (a.natAbs : Int) = -a by omega, show (b.natAbs : Int) = -b by omega, Int.neg_mul_neg]
 ·rw [show decide (a < 0) = true by simpa using ha, show decide (b < 0) = false by simpa using hb];show -((a.natAbs * b.natAbs : Nat) : Int) = _;rw [e, show (a.natAbs : Int) = -a by omega, show (b.natAbs : Int) = b by omega, Int.neg_mul, Int.neg_neg]
 ·rw [show decide (a < 0) = false by simpa using ha, show decide (b < 0) = true by simpa using hb];show -((a.natAbs * b.natAbs : Nat) : Int) = _;rw [e, show (a.natAbs : Int) = a by omega, show (b.natAbs : Int) = -b by omega, Int.mul_neg, Int.neg_neg]
 ·rw [show decide (a < 0) = false by simpa using ha, show decide (b < 0) = false by simpa using hb];show ((a.natAbs * b.natAbs : Nat) : Int) = _;rw [e, show (a.natAbs : Int) = a by omega, show (b.natAbs : Int) = b by omega]
theorem cm4 {a b : Int} (ha : -1000000000000000 ≤ a ∧ a ≤ 1000000000000000) (hb : -1000000000000000 ≤ b ∧ b ≤ 1000000000000000) : a.natAbs * b.natAbs ≤ 1000000000000000000000000000000 := by
 have := Nat.mul_le_mul (show a.natAbs ≤ 1000000000000000 by omega) (show b.natAbs ≤ 1000000000000000 by omega);omega
theorem cm5 (an ad bn bd : Int) : Ev E 310 [.agg [.int an, .int ad], .agg [.int bn, .int bd]] (.d (.int (ck2 an ad bn bd))) := by
 have h1 := ck3 an ad;have h2 := ck3 bn bd;have hva := ca0 an ad;have hvb := ca0 bn bd
 have key : ∀ n d n' d' : Int, (-1000000000000000 ≤ n ∧ n ≤ 1000000000000000) → (1 ≤ d ∧ d ≤ 1000000000000000) → (-1000000000000000 ≤ n' ∧ n' ≤ 1000000000000000) → (1 ≤ d' ∧ d' ≤ 1000000000000000) →
   ∃ (p q r : Bool) (m m' m'' : Nat), Ev E 303 [.int n, .int d'] (.d (cl0 p m)) ∧ Ev E 303 [.int (0 - n'), .int d] (.d (cl0 q m')) ∧ Ev E 304 [cl0 p m, cl0 q m'] (.d (cl0 r m'')) ∧ Ev E 305 [cl0 r m''] (.d (.int (sgn (n * d' - n' * d)))) := by
  intro n d n' d' hn hd hn' hd';have b1 := cm4 (a := n) (b := d') hn (by omega);have b2 := cm4 (a := 0 - n') (b := d) (by omega) (by omega);refine ⟨_, _, _, _, _, _, cl2 n d', cl2 (0 - n') d, cm0 _ _ _ _ b1 b2, ?_⟩;have hle := cl9 (!(decide (n < 0) == decide (d' < 0))) (!(decide (0 - n' < 0) == decide (d < 0))) (n.natAbs * d'.natAbs) ((0 - n').natAbs * d.natAbs);have hs := cm2 (cl7 (!(decide (n < 0) == decide (d' < 0))) (!(decide (0 - n' < 0) == decide (d < 0))) (n.natAbs * d'.natAbs) ((0 - n').natAbs * d.natAbs)).1 _ (fp3 hle (by omega));rw [cl8, cm3, cm3, Int.zero_sub, Int.neg_mul, ← Int.sub_eq_add_neg, ← Int.zero_sub n'] at hs;exact hs
 obtain ⟨p, q, r, m, m', m'', e1, e2, e3, e4⟩ := key (fzn an ad) (fzd an ad) (fzn bn bd) (fzd bn bd) (by omega) (by omega) (by omega) (by omega);unfold ck2;generalize hres : (fzn an ad * fzd bn bd - fzn bn bd * fzd an ad) = res at *;clear hres key
 cases ha : bp2 an ad <;> cases hb : bp2 bn bd
 all_goals
  rw [ha] at hva;rw [hb] at hvb;simp only [fzn, fzd, ha, hb, cond_true, cond_false] at e1 e2 h1 h2;refine ye2 func310 ntmps310 fun _ _ _=>?_
  repeat' (first | refine yz ?_ | refine yp bt7 hva ?_ | refine yp bt7 hvb ?_ | refine qP (d := 17) rfl rfl rfl rfl rfl rfl bu3 (e1) ?_ | refine yp bu3 e2 ?_ | refine yp b304 e3 ?_ | refine yp b305 e4 ?_ | exact zD)
end Go.Proofs.YtibfalecohlngaaGreatDoor
namespace Go.Proofs.YtibfalecohlngaaGreatDoor
set_option maxRecDepth 4000
open Go Go.Abs Go.Val Go.RowKit Go.Proofs.Tryz
def bs (l : List UInt8) : ByteArray := ⟨l.toArray⟩
theorem cm6 (a b : List UInt8) : bs a ++ bs b = bs (a ++ b) := by
 apply ByteArray.ext;simp [bs, ByteArray.data_append]
theorem cm7 (s : ByteArray) : bs s.data.toList = s := by
 cases s
 simp [bs]
theorem cm8 (l : List UInt8) : (bs l).size = l.length := by simp [bs, ByteArray.size]
theorem cm9 (l : List UInt8) : (bs l).data.toList = l := by simp [bs]
theorem cn0 (n : Int) : strOf [n] = bs [UInt8.ofNat n.toNat] := rfl
def dd (u : Nat) : List UInt8 := if u = 0 then [] else Lib.decDigits u
theorem cn1 {u : Nat} (h : u ≠ 0) : dd u = dd (u / 10) ++ [UInt8.ofNat (48 + u % 10)] := by
 unfold dd;rw [if_neg h, Lib.decDigits]
 by_cases h10 : u < 10
 ·rw [dif_pos h10, if_pos (by omega), List.nil_append, fl7 h10]
 ·rw [dif_neg h10, if_neg (by omega)]
theorem cn2 {u : Nat} (h : u < 18446744073709551616) : (dd u).length ≤ 20 := by
 unfold dd;split
 ·simp
 ·rw [Lib.decDigits_length]; exact Lib.nDigits_le20 u h
structure ST (n : Int) where
 m : Int
 s : List UInt8
 hm : m.natAbs ≤ n.natAbs
 hs : dd n.natAbs = dd m.natAbs ++ s
end Go.Proofs.YtibfalecohlngaaGreatDoor
namespace Go.Proofs.YtibfalecohlngaaGreatDoor
open Go Go.Abs Go.Val Go.RowKit Go.Proofs.Tryz
attribute [local irreducible] go SGo an2 Ev aw0
theorem cn3 (n : Int) : Ev E 163 [.int n] (.d (.str (bs (Lib.itoa n)))) := Ev.fit fun hfit => by
 have hn := (hfit (.int n) (by simp)).int;simp only [inR] at hn
 by_cases h0 : n = 0
 ·subst h0;have e : bs (Lib.itoa 0) = ⟨#[48]⟩ := by simp [bs, Lib.itoa, Lib.decDigits]
  rw [e];refine ye1 func163 ntmps163 fun _ _ _=>?_
  repeat' (first | refine yz ?_ | exact zD)
 ·have g0 : (n == 0) = false := by simpa using h0
  have hdd : (dd n.natAbs).length ≤ 20 := cn2 (by omega);have he : dd n.natAbs = Lib.decDigits n.natAbs := by unfold dd; rw [if_neg (by omega)]
  refine ye1 func163 ntmps163 fun _ _ _=>?_
  repeat' (refine yz ?_)
  refine ac7 (α := ST n) (fun p => ⟨[(0, .d (.int n)), (3, .d (.str (bs p.s))), (4, .d (.int p.m))], []⟩) (fun p => p.m.natAbs) ⟨n, [], fh5 _, by simp⟩ (zle 0) ?_;rintro ⟨m, s, hm, hs⟩;dsimp only
  by_cases hz : m = 0
  ·subst hz;have g1 : ((0 : Int) != 0) = false := rfl;have hs' : s = Lib.decDigits n.natAbs := by rw [← he, hs]; rfl
   by_cases hneg : n < 0
   ·have g2 : decide (n < 0) = true := by simpa using hneg
    have e : bs (Lib.itoa n) = ⟨#[45]⟩ ++ bs s := by
     show _ = bs [45] ++ bs s;rw [cm6, Lib.itoa, if_pos hneg, hs'];rfl
    rw [e];have hsz : (bs s).size ≤ 20 := by rw [cm8, hs', ← he]; exact hdd
    have hone : (⟨#[45]⟩ : ByteArray).size = 1 := rfl
    repeat' (first | refine yz ?_ | exact zD)
   ·have g2 : decide (n < 0) = false := by simpa using hneg
    have e : bs (Lib.itoa n) = bs s := by rw [Lib.itoa, if_neg hneg, hs', show n.natAbs = n.toNat by omega]
    rw [e]
    repeat' (first | refine yz ?_ | exact zD)
  ·have g1 : (m != 0) = true := by simpa using hz
   have hstep := cn1 (u := m.natAbs) (by omega)
   have hq : (m.tdiv 10).natAbs = m.natAbs / 10 := by
    rw [Int.natAbs_tdiv]; rfl
   have hr : (m.tmod 10).natAbs = m.natAbs % 10 := by
    rw [Int.natAbs_tmod]; rfl
   have hr9 : -9 ≤ m.tmod 10 ∧ m.tmod 10 ≤ 9 := by omega
   have hlen : s.length ≤ 20 := by
    have := congrArg List.length hs;rw [fi3] at this;omega
   have hsz : (bs s).size ≤ 20 := by rw [cm8]; exact hlen
   have key : ∀ d : Int, d = (m.tmod 10).natAbs → strOf [48 + d] ++ bs s = bs (UInt8.ofNat (48 + m.natAbs % 10) :: s) ∧ (strOf [48 + d]).size = 1 := by
    intro d hd;refine ⟨?_, at2 _⟩;rw [cn0, cm6, show (48 + d).toNat = 48 + m.natAbs % 10 by omega];rfl
   by_cases hneg : m.tmod 10 < 0
   ·have g2 : decide (m.tmod 10 < 0) = true := by simpa using hneg
    obtain ⟨k1, k2⟩ := key (0 - m.tmod 10) (by omega)
    repeat' (refine yz ?_)
    refine ac1 ?_;rw [k1];exact ⟨⟨m.tdiv 10, _, by omega, by rw [hs, hstep, hq, fj1, List.singleton_append]⟩, by dsimp only; omega, (zle 0)⟩
   ·have g2 : decide (m.tmod 10 < 0) = false := by simpa using hneg
    obtain ⟨k1, k2⟩ := key (m.tmod 10) (by omega)
    repeat' (refine yz ?_)
    refine ac1 ?_;rw [k1];exact ⟨⟨m.tdiv 10, _, by omega, by rw [hs, hstep, hq, fj1, List.singleton_append]⟩, by dsimp only; omega, (zle 0)⟩
def dbl (l : List UInt8) : List UInt8 := l.flatMap fun b => bif b == 39 then [39, 39] else [b]
theorem cn4 : ∀ l : List UInt8, (dbl l).length ≤ 2 * l.length
 | [] => by simp [dbl]
 | b :: r => by
  have := cn4 r;have e : dbl (b :: r) = (bif b == 39 then [39, 39] else [b]) ++ dbl r := rfl;rw [e, fi3, fh9]
  cases b == 39 <;> simp <;> omega
structure SD1 (l : List UInt8) where
 i : Nat
 s : List UInt8
 hi : i ≤ l.length
 hs : s ++ dbl (l.drop i) = dbl l
theorem cn5 (s : ByteArray) (h : s.size ≤ 1000000000000000000) : Ev E 164 [.str s] (.d (.str (bs (dbl s.data.toList)))) := by
 have hl : s.data.toList.length = s.size := by simp
 have hd2 := cn4 s.data.toList;refine ye1 func164 ntmps164 fun _ _ _=>?_
 repeat' (refine yz ?_)
 refine ac7 (α := SD1 s.data.toList) (fun p => ⟨[(0, .d (.str s)), (3, .d (.str (bs p.s))), (4, .d (.int p.i))], []⟩) (fun p => s.size - p.i) ⟨0, [], by omega, rfl⟩ (zle 0) ?_;rintro ⟨i, t, hi, hs⟩;dsimp only
 have htl : t.length ≤ 2 * s.size := by
  have := congrArg List.length hs;rw [fi3] at this;omega
 have hts : (bs t).size ≤ 2 * s.size := by rw [cm8]; exact htl
 rcases fg7 i s.size with hlt | hge
 ·have g1 : decide ((i : Int) < (s.size : Int)) = true := by simpa using hlt
  have hx := fg5 (show i < s.data.toList.length by omega);generalize s.data.toList[i] = b at hx
  have hb1 : ag0 s i = (b.toNat : Int) := by
   unfold ag0;rw [fm0, hx];rfl
  have hb : 0 ≤ ag0 s (i : Int).toNat ∧ ag0 s (i : Int).toNat ≤ 255 := by simp only [fh0, hb1]; have := b.toNat_lt; omega
  have hex : s.extract (i : Int).toNat ((i : Int) + 1).toNat = bs [b] := by
   rw [fh0, show ((i : Int) + 1).toNat = i + 1 by omega]
   have : (s.extract i (i + 1)).data.toList = [b] := by
    rw [ByteArray.data_extract, Array.toList_extract];simp only [List.extract_eq_take_drop, Nat.add_sub_cancel_left];rw [cd5 hx];rfl
   rw [← cm7 (s.extract i (i + 1)), this]
  have hdrop := cd5 hx;have e : dbl (b :: s.data.toList.drop (i + 1)) = (bif b == 39 then [39, 39] else [b]) ++ dbl (s.data.toList.drop (i + 1)) := rfl;rw [hdrop, e] at hs;have hone : (bs [b]).size = 1 := rfl;have hone' : (⟨#[39]⟩ : ByteArray).size = 1 := rfl;have k0 : bs t ++ s.extract (i : Int).toNat ((i : Int) + 1).toNat = bs (t ++ [b]) := by rw [hex, cm6]
  have k1 : (s.extract (i : Int).toNat ((i : Int) + 1).toNat).size = 1 := by rw [hex]; rfl
  cases hq : b == 39 with
  | true =>
   have g2 : (ag0 s (i : Int).toNat == 39) = true := by
    simp only [fh0, hb1];rw [beq_iff_eq.1 hq];rfl
   rw [hq] at hs;have k3 : (bs t ++ s.extract (i : Int).toNat ((i : Int) + 1).toNat).size = t.length + 1 := by rw [k0, cm8, fi3]; rfl
   repeat' (first | refine yz ?_ | (refine qS rfl ⟨⟨by omega, by omega, by omega⟩, trivial⟩ ?_))
   refine ac1 ?_
   have k2 : bs t ++ s.extract (i : Int).toNat ((i : Int) + 1).toNat ++ ⟨#[39]⟩ = bs (t ++ [39, 39]) := by
    rw [k0];show bs (t ++ [b]) ++ bs [39] = _;rw [cm6, beq_iff_eq.1 hq, fj1];rfl
   rw [k2];exact ⟨⟨i + 1, t ++ [39, 39], by omega, by rw [fj1]; exact hs⟩, by dsimp only; omega, (zle 0)⟩
  | false =>
   have g2 : (ag0 s (i : Int).toNat == 39) = false := by
    simp only [fh0, hb1];rw [beq_eq_false_iff_ne] at hq ⊢;intro hc;apply hq;have : b.toNat = 39 := by omega
    exact UInt8.toNat_inj.1 this
   rw [hq] at hs
   repeat' (first | refine yz ?_ | (refine qS rfl ⟨⟨by omega, by omega, by omega⟩, trivial⟩ ?_))
   refine ac1 ?_;rw [k0];exact ⟨⟨i + 1, t ++ [b], by omega, by rw [fj1]; exact hs⟩, by dsimp only; omega, (zle 0)⟩
 ·have g1 : decide ((i : Int) < (s.size : Int)) = false := by simp; omega
  have : s.data.toList.drop i = [] := fh6 (by omega);rw [this] at hs;have hs' : t = dbl s.data.toList := by rw [← hs]; simp [dbl]
  rw [← hs']
  repeat' (first | refine yz ?_ | exact zD)
theorem cn6 : ∀ l : List UInt8, Lib.replaceK [39] [39, 39] (Lib.count l [39]) l = dbl l
 | [] => rfl
 | b :: l => by
  have ih := cn6 l
  by_cases hb : b = 39
  ·subst hb;have hidx : Lib.index (39 :: l) [39] = ((0 : Nat) : Int) := rfl;rw [Lib.count_cons_eq, Nat.add_comm, Lib.replaceK_hit _ _ _ _ _ hidx];show [] ++ [39, 39] ++ Lib.replaceK [39] [39, 39] (Lib.count l [39]) l = _;rw [ih];rfl
  ·have e : dbl (b :: l) = b :: dbl l := by
    show (bif b == 39 then [39, 39] else [b]) ++ dbl l = _;rw [beq_eq_false_iff_ne.2 hb];rfl
   rw [Lib.count_cons_ne b 39 l hb, e]
   cases hc : Lib.count l [39] with
   | zero =>
    rw [hc] at ih;have : l = dbl l := ih;show b :: l = b :: dbl l;rw [← this]
   | succ k =>
    obtain ⟨i, hi⟩ := Lib.index_of_count (s := l) (old := [39]) (by omega)
    have hidx : Lib.index (b :: l) [39] = ((i + 1 : Nat) : Int) := by
     have hp : ([39] : List UInt8).isPrefixOf (b :: l) = false := by
      simp [List.isPrefixOf];exact fun h => hb h.symm
     rw [Lib.index, hp, hi];have : ((i : Int) == -1) = false := by simp
     rw [this];rfl
    rw [hc, Lib.replaceK_hit _ _ _ _ _ hi] at ih;rw [Lib.replaceK_hit _ _ _ _ _ hidx, ← ih];simp only [List.take_succ_cons, fh9, fl8, fp4];rw [show i + 1 + (0 + 1) = (i + (0 + 1)) + 1 by omega, List.drop_succ_cons]
theorem cn7 (l : List UInt8) : Lib.replaceAll l [39] [39, 39] = dbl l := by
 rw [Lib.replaceAll, Lib.replace, if_neg (by decide), Lib.replaceNum, if_pos (.inl (by omega))];exact cn6 l
theorem cn8 {f : FuncId} {a b c r : Value} (hok : Go.Abs.okV r = true) (h : ∀ (w : World) (F : Nat → Prop), E.GI w F → Go.Abs.okV a = true → Go.Abs.okV b = true → Go.Abs.okV c = true → Calls E.P f #[a, b, c] w fun e w' => e = .returned r ∧ Below w.heap.size w w') : Ev E f [.imm a, .imm b, .imm c] (.d (.imm r)) := by
 refine cf4 hok fun w F vs hG hl hr => ?_
 match vs, hl with
 | [v, u, t], _ =>
  obtain ⟨rfl, hk⟩ := Rd.imm_inv (hr 0 _ v rfl rfl);obtain ⟨rfl, hk'⟩ := Rd.imm_inv (hr 1 _ u rfl rfl);obtain ⟨rfl, hk''⟩ := Rd.imm_inv (hr 2 _ t rfl rfl);exact h w F hG hk hk' hk''
theorem cn9 (s : ByteArray) (hs : s.size ≤ 1000000000) : Ev E 198 [.str s, .str ⟨#[39]⟩, .str ⟨#[39, 39]⟩] (.d (.str (bs (dbl s.data.toList)))) := by
 have hl : s.data.toList.length = s.size := by simp
 have hd2 := cn4 s.data.toList;refine cn8 ?_ fun w F hG _ _ _ => ?_
 ·simp only [Go.Abs.okV, decide_eq_true_eq, cm8, maxLen];omega
 ·obtain ⟨-, -, m, hm⟩ := hG.2;have hcnt := Lib.countB_mul_le ⟨#[39]⟩ (by decide) s.size s (fh5 _);have h1 : (⟨#[39]⟩ : ByteArray).size = 1 := rfl;have h2 : (⟨#[39, 39]⟩ : ByteArray).size = 2 := rfl;rw [h1, Nat.mul_one] at hcnt;refine (Tryz.strings_ReplaceAll s ⟨#[39]⟩ ⟨#[39, 39]⟩ m w (by omega) hm (by decide) (by rw [h2]; omega)).mono ?_;rintro e w' ⟨rfl, hb⟩;refine ⟨?_, hb⟩;show Ending.returned (.string (bs (Lib.replaceAll s.data.toList [39] [39, 39]))) = _;rw [cn7]
def ftxt (n d : Int) : List UInt8 := bif bp2 n d then (bif d == 1 then Lib.itoa n else Lib.itoa n ++ [47] ++ Lib.itoa d) else []
theorem co0 {n : Int} (h : inR .i64 n) : (Lib.itoa n).length ≤ 21 := Lib.itoa_length_le n h.1 h.2
theorem co1 (n d : Int) : Ev E 197 [.agg [.int n, .int d]] (.d (.str (bs (ftxt n d)))) := Ev.fit fun hfit => by
 have hn := co0 ((hfit _ (List.mem_cons_self)).aggs (.int n) (by simp)).int;have hd := co0 ((hfit _ (List.mem_cons_self)).aggs (.int d) (by simp)).int;have hv := ca0 n d;unfold ftxt
 cases hf : bp2 n d with
 | false =>
  rw [hf] at hv;show Ev E _ _ (.d (.str ⟨#[]⟩));refine ye1 func197 ntmps197 fun _ _ _=>?_
  repeat' (first | refine yz ?_ | refine yp bt7 hv ?_ | exact zD)
 | true =>
  rw [hf] at hv
  cases h1 : d == 1 with
  | true =>
   refine ye1 func197 ntmps197 fun _ _ _=>?_
   repeat' (first | refine yz ?_ | refine yp bt7 hv ?_ | refine yp bt0 (cf7 n) ?_ | exact zD)
  | false =>
   have e : bs (Lib.itoa n ++ [47] ++ Lib.itoa d) = ⟨(Lib.itoa n).toArray⟩ ++ ⟨#[47]⟩ ++ ⟨(Lib.itoa d).toArray⟩ := by
    rw [← cm6, ← cm6];rfl
   simp only [cond_true, cond_false];rw [e];have z1 : (⟨(Lib.itoa n).toArray⟩ : ByteArray).size ≤ 21 := by show (bs (Lib.itoa n)).size ≤ 21; rw [cm8]; exact hn
   have z2 : (⟨(Lib.itoa d).toArray⟩ : ByteArray).size ≤ 21 := by show (bs (Lib.itoa d)).size ≤ 21; rw [cm8]; exact hd
   have z3 : (⟨#[47]⟩ : ByteArray).size = 1 := rfl;refine ye1 func197 ntmps197 fun _ _ _=>?_
   repeat' (first | refine yz ?_ | refine yp bt7 hv ?_ | refine qP (d := 16) rfl rfl rfl rfl rfl rfl bt0 (cf7 n) ?_ | refine yp bt0 (cf7 d) ?_ | exact zD)
end Go.Proofs.YtibfalecohlngaaGreatDoor
namespace Go.Proofs.YtibfalecohlngaaGreatDoor
set_option maxRecDepth 4000
open Go Go.Abs Go.Val Go.RowKit Go.Proofs.Tryz
mutual
def txt : V → List UInt8
 | .mk k n d s l =>
  bif !(Val.okV (.mk k n d s l)) then [63] else
  bif k == 1 then (bif n == 1 then [116, 114, 117, 101] else [102, 97, 108, 115, 101]) else
  bif k == 2 then Lib.itoa n else
  bif k == 3 then Lib.itoa n ++ [47] ++ Lib.itoa d else
  bif k == 4 then [39] ++ dbl s.data.toList ++ [39] else
  bif k == 5 then [35] ++ Lib.itoa n else
  bif k == 6 then [64] ++ Lib.itoa n else
  bif k == 8 then [91] ++ Lib.join (co2 l) [44, 32] ++ [93] else
  bif k == 7 then [60] ++ Lib.join (co2 l) [32] ++ [62] else [110, 117, 108, 108]
def co2 : List V → List (List UInt8)
 | [] => []
 | v :: r => txt v :: co2 r
end
theorem co3 (l : List V) : co2 l = l.map txt := by
 induction l with
 | nil => simp [co2]
 | cons v r ih => simp [co2, ih]
theorem co4 (sep : List UInt8) : ∀ (xs : List (List UInt8)) (x : List UInt8), x ∈ xs → x.length ≤ (Lib.join xs sep).length
 | [], x, h => by simp at h
 | a :: r, x, h => by
  rw [Lib.join_cons, fi3];rcases fh7.1 h with e | e
  ·rw [e]; omega
  ·have : x.length ≤ (Lib.joinTail sep r).length := by
    clear h
    induction r with
    | nil => simp at e
    | cons b q ih =>
     have hc : Lib.joinTail sep (b :: q) = (sep ++ b) ++ Lib.joinTail sep q := rfl;rw [hc, fi3, fi3];rcases fh7.1 e with e' | e'
     ·rw [e']; omega
     ·have := ih e'; omega
   omega
theorem co5 {v : V} (h : Val.okV v = true) : v.k = 0 ∨ v.k = 1 ∨ v.k = 2 ∨ v.k = 3 ∨ v.k = 4 ∨ v.k = 5 ∨ v.k = 6 ∨ v.k = 7 ∨ v.k = 8 := by
 unfold Val.okV at h;simp only [okN, bq1, fi1, fg6, beq_iff_eq] at h;omega
theorem co6 {n d : Int} {s : ByteArray} {l : List V} (h : Val.okV (.mk 3 n d s l) = true) : d ≥ 2 ∧ bp2 n d = true := by
 unfold Val.okV at h;rw [ce0 8 3 n d s l (by omega) (by omega)] at h;simp [bq1, V.k, V.n, V.d, V.s, V.l] at h;exact ⟨h.2.1, h.2.2⟩
theorem co7 {n d : Int} {s : ByteArray} {l : List V} (h : Val.okV (.mk 4 n d s l) = true) : s.size ≤ 100 := by
 unfold Val.okV at h;rw [ce0 8 4 n d s l (by omega) (by omega)] at h;simp [bq1, V.k, V.n, V.d, V.s, V.l, bq0] at h;exact of_decide_eq_true h.2.2.2
theorem okV_7 {n d : Int} {s : ByteArray} {l : List V} (h : Val.okV (.mk 7 n d s l) = true) : l.length ≤ 25 := by
 unfold Val.okV at h;rw [ce1] at h;simp only [bq4, fg6, decide_eq_true_eq] at h;omega
theorem okV_8 {n d : Int} {s : ByteArray} {l : List V} (h : Val.okV (.mk 8 n d s l) = true) : l.length ≤ 64 := by
 unfold Val.okV at h;rw [ce3 7] at h;simp only [fg6, decide_eq_true_eq] at h;omega
structure SJ (xs : List (List UInt8)) (sep : List UInt8) where
 i : Nat
 s : List UInt8
 hi : i ≤ xs.length
 h0 : i = 0 → s = []
 h1 : i ≠ 0 → s ++ Lib.joinTail sep (xs.drop i) = Lib.join xs sep
theorem co8 {xs : List (List UInt8)} {sep x : List UInt8} {i : Nat} (h : xs[i]? = some x) : Lib.joinTail sep (xs.drop i) = sep ++ x ++ Lib.joinTail sep (xs.drop (i + 1)) := by
 rw [cd5 h];rfl
theorem co9 (xs : List ByteArray) (sep : ByteArray) (hN : xs.length ≤ 140737488355328) (hlen : (Lib.join (xs.map (·.data.toList)) sep.data.toList).length ≤ 140737488355328) : Ev E 253 [.sl (xs.map .str), .str sep] (.d (.str (bs (Lib.join (xs.map (·.data.toList)) sep.data.toList)))) := by
 intro w F vs hF hG hl hr
 match vs, hl with
 | [v, u], _ =>
  have h0 := hr 0 _ v rfl rfl;obtain ⟨rfl, -⟩ := Rd.imm_inv (hr 1 _ u rfl rfl)
  have hok : Go.Abs.okV (.string (bs (Lib.join (xs.map (·.data.toList)) sep.data.toList))) = true := by
   simp only [Go.Abs.okV, decide_eq_true_eq, cm8, maxLen];omega
  have hnone : ∀ (a : Option Addr) (c : Nat), v = .slice a 0 c → xs = [] → Calls E.P 253 #[v, .string sep] w fun e w' => ∃ v F', e = .returned v ∧ Ext w F w' F' ∧ RdX w' F' [] (.d (.str (bs (Lib.join (xs.map (·.data.toList)) sep.data.toList)))) v := by
   rintro a c rfl rfl;refine (Tryz.strings_Join_none a c sep w).mono ?_;rintro e w' ⟨rfl, rfl⟩;exact ⟨_, F, rfl, Ext.refl hF, Rd.imm _ hok⟩
  rcases Rd.sl_inv h0 with ⟨hx, rfl⟩ | ⟨size, ad, cap, rfl, h1, h2, h3, h4, h5, h6⟩
  ·exact hnone none 0 rfl (by simpa using hx)
  ·by_cases hx : xs = []
   ·exact hnone _ _ (by rw [hx]; rfl) hx
   ·have hlen' : (xs.map D.str).length = xs.length := by simp
    have hcell : ∀ (j : Nat) x, xs[j]? = some x → w.cell? (ad.add j) = some (.string x) := by
     intro j x hj;have hj' : (xs.map D.str)[j]? = some (.str x) := by rw [fh1, hj]; rfl
     have hs1 : size = 1 := (h4 _ (fg9 hj')).symm;obtain ⟨q, e1, e2⟩ := h6 j _ 0 _ hj' rfl;obtain ⟨rfl, -⟩ := Rd.imm_inv e2;rw [hs1, Nat.mul_one, fj7] at e1;exact e1
    obtain ⟨bk, o, sp⟩ := ad
    have hsp : sp = none := by
     obtain ⟨x0, hx0⟩ : ∃ x, xs[0]? = some x := ⟨xs[0]'(List.length_pos_iff.2 hx), fg5 _⟩;have := hcell 0 x0 hx0
     cases sp with
     | none => rfl
     | some q =>
      have e : (⟨bk, o, some q⟩ : Addr).add 0 = ⟨bk, o, some q⟩ := by simp [Addr.add]
      rw [e] at this;unfold World.cell? at this;simp only [Option.isSome_some, if_true] at this;split at this <;> cases this
    subst hsp;rw [hlen'] at h1 ⊢;have hbk : bk < w.heap.size := hF _ (h3 (by simpa using hx));refine (Tryz.strings_Join bk o cap xs sep w (fun j x hj => by rw [← aa2]; exact hcell j x hj) hbk hN h1 hlen).mono ?_;rintro e w' ⟨rfl, hb⟩;exact ⟨_, F, rfl, Ext.of_below hb hF, Rd.imm _ hok⟩
end Go.Proofs.YtibfalecohlngaaGreatDoor
namespace Go.Proofs.YtibfalecohlngaaGreatDoor
open Go Go.Abs Go.Val Go.RowKit Go.Proofs.Tryz
attribute [local irreducible] go SGo an2 Ev aw0
theorem cp0 (l : List V) (sep : List UInt8) (hT : ∀ x ∈ l, Ev E 100 [enc x] (.d (.str (bs (txt x))))) (hlen : (Lib.join (l.map txt) sep).length ≤ 1099511627776) (hsep : sep.length ≤ 2) :
  Ev E 165 [.sl (bo1 l), .str (bs sep)] (.d (.str (bs (Lib.join (l.map txt) sep)))) := Ev.fit fun hfit => by
 obtain ⟨hmax, -⟩ := bo9 (hfit (.sl (bo1 l)) (by simp));have hle : (bo1 l).length = l.length := bo7 l;have hml : (l.map txt).length = l.length := by simp
 refine ye2 func165 ntmps165 fun _ _ _=>?_
 repeat' (refine yz ?_)
 refine ac7 (α := SJ (l.map txt) sep) (fun p => ⟨[(0, .d (.sl (bo1 l))), (1, .d (.str (bs sep))), (5, .d (.str (bs p.s))), (6, .d (.int p.i))], []⟩) (fun p => l.length - p.i) ⟨0, [], by omega, fun _ => rfl, fun h => absurd rfl h⟩ (zle 0) ?_;rintro ⟨i, s, hi, h0, h1⟩;dsimp only;have hss : (bs sep).size ≤ 2 := by rw [cm8]; exact hsep
 rcases fg7 i l.length with hlt | hge
 ·have g1 : decide ((i : Int) < ((bo1 l).length : Int)) = true := by rw [hle]; simpa using hlt
  have hx0 := fg5 hlt;generalize l[i] = x at hx0;have hx : (bo1 l)[(i : Int).toNat]? = some (enc x) := bo5 (by rw [fh0]; exact hx0);have hm : (l.map txt)[i]? = some (txt x) := by rw [fh1, hx0]; rfl
  have ht := hT x (fg9 hx0)
  by_cases hi0 : i = 0
  ·subst hi0;have hs0 := h0 rfl;subst hs0;have g2 : decide (((0 : Nat) : Int) > 0) = false := rfl;have hl2 : (txt x).length ≤ 1099511627776 := fl5 (co4 sep _ _ (fg9 hm)) hlen;have z1 : (bs (txt x)).size ≤ 1099511627776 := by rw [cm8]; exact hl2
   have z2 : (bs []).size = 0 := rfl
   repeat' (first | refine yz ?_ | refine yi (enc x) hx ?_ | refine yp b100 ht ?_)
   refine ac1 ?_;rw [cm6];exact ⟨⟨1, [] ++ txt x, by omega, fun h => by omega, fun _ => by have := cd5 hm; rw [fm6] at this; rw [List.nil_append]; conv => rhs; rw [this, Lib.join_cons]⟩, by dsimp only; omega, (zle 0)⟩
  ·have g2 : decide ((i : Int) > 0) = true := by simp; omega
   have h1' := h1 hi0;rw [co8 hm] at h1'
   have hll : s.length + (sep.length + (txt x).length) ≤ 1099511627776 := by
    have := congrArg List.length h1';simp only [fi3] at this;omega
   have z1 : (bs (txt x)).size = (txt x).length := cm8 _;have z2 : (bs s).size = s.length := cm8 _;have z3 : (bs sep).size = sep.length := cm8 _
   repeat' (first | refine yz ?_ | refine yi (enc x) hx ?_ | refine yp b100 ht ?_)
   refine ac1 ?_;rw [cm6, cm6];exact ⟨⟨i + 1, s ++ sep ++ txt x, by omega, fun h => by omega, fun _ => by rw [← h1']; simp only [fj1]⟩, by dsimp only; omega, (zle 0)⟩
 ·have g1 : decide ((i : Int) < ((bo1 l).length : Int)) = false := by rw [hle]; simp; omega
  have e : Lib.join (l.map txt) sep = s := by
   by_cases hi0 : i = 0
   ·have : l = [] := fp7 (by omega);rw [this, h0 hi0];rfl
   ·rw [← h1 hi0, fh6 (by omega)];simp [Lib.joinTail]
  rw [e]
  repeat' (first | refine yz ?_ | exact zD)
theorem cp1 (v : V) : (txt v).length ≤ 1099511627776 → Ev E 100 [enc v] (.d (.str (bs (txt v)))) := by
 refine cg5 (P := fun v => (txt v).length ≤ 1099511627776 → Ev E 100 [enc v] (.d (.str (bs (txt v))))) (fun k n d s l ih hlen => Ev.fit fun hfit => ?_) v;obtain ⟨-, hn, hd, -, -, -⟩ := bo8 (hfit (enc (.mk k n d s l)) (by simp));have hv := ce9 (.mk k n d s l)
 cases hok : Val.okV (.mk k n d s l) with
 | false =>
  rw [hok] at hv;have e : txt (.mk k n d s l) = [63] := by simp only [txt, hok]; rfl
  rw [e];show Ev E _ _ (.d (.str ⟨#[63]⟩));refine ye1 func100 ntmps100 fun _ _ _=>?_
  repeat' (first | refine yz ?_ | refine yp b39 hv ?_ | exact zD)
 | true =>
  rw [hok] at hv;have ln := co0 hn;have ld := co0 hd;have zn : (bs (Lib.itoa n)).size ≤ 21 := by rw [cm8]; exact ln
  have zd : (bs (Lib.itoa d)).size ≤ 21 := by rw [cm8]; exact ld
  have o1 : (⟨#[47]⟩ : ByteArray).size = 1 := rfl;have o2 : (⟨#[39]⟩ : ByteArray).size = 1 := rfl;have o3 : (⟨#[35]⟩ : ByteArray).size = 1 := rfl;have o4 : (⟨#[64]⟩ : ByteArray).size = 1 := rfl;have o5 : (⟨#[91]⟩ : ByteArray).size = 1 := rfl;have o6 : (⟨#[93]⟩ : ByteArray).size = 1 := rfl;have o7 : (⟨#[60]⟩ : ByteArray).size = 1 := rfl;have o8 : (⟨#[62]⟩ : ByteArray).size = 1 := rfl;have hk := co5 hok;simp only [V.k] at hk;have tn := cn3 n;have td := cn3 d;rcases hk with rfl | rfl | rfl | rfl | rfl | rfl | rfl | rfl | rfl
  ·have e : txt (.mk 0 n d s l) = [110, 117, 108, 108] := by simp only [txt, hok]; rfl
   rw [e];show Ev E _ _ (.d (.str ⟨#[110, 117, 108, 108]⟩));refine ye1 func100 ntmps100 fun _ _ _=>?_
   repeat' (first | refine yz ?_ | refine yp b39 hv ?_ | exact zD)
  ·have e : txt (.mk 1 n d s l) = (bif n == 1 then [116, 114, 117, 101] else [102, 97, 108, 115, 101]) := by simp only [txt, hok]; rfl
   rw [e]
   cases h1 : n == 1 with
   | true =>
    show Ev E _ _ (.d (.str ⟨#[116, 114, 117, 101]⟩));refine ye1 func100 ntmps100 fun _ _ _=>?_
    repeat' (first | refine yz ?_ | refine yp b39 hv ?_ | exact zD)
   | false =>
    show Ev E _ _ (.d (.str ⟨#[102, 97, 108, 115, 101]⟩));refine ye1 func100 ntmps100 fun _ _ _=>?_
    repeat' (first | refine yz ?_ | refine yp b39 hv ?_ | exact zD)
  ·have e : txt (.mk 2 n d s l) = Lib.itoa n := by simp only [txt, hok]; rfl
   rw [e];refine ye1 func100 ntmps100 fun _ _ _=>?_
   repeat' (first | refine yz ?_ | refine yp b39 hv ?_ | refine yp bs6 tn ?_ | exact zD)
  ·have e : bs (txt (.mk 3 n d s l)) = bs (Lib.itoa n) ++ ⟨#[47]⟩ ++ bs (Lib.itoa d) := by
    show _ = bs (Lib.itoa n) ++ bs [47] ++ bs (Lib.itoa d);rw [cm6, cm6];simp only [txt, hok];rfl
   rw [e];refine ye1 func100 ntmps100 fun _ _ _=>?_
   repeat' (first | refine yz ?_ | refine yp b39 hv ?_ | refine qP (d := 22) rfl rfl rfl rfl rfl rfl bs6 (tn) ?_ | refine yp bs6 td ?_ | exact zD)
  ·have e : bs (txt (.mk 4 n d s l)) = ⟨#[39]⟩ ++ bs (dbl s.data.toList) ++ ⟨#[39]⟩ := by
    show _ = bs [39] ++ bs (dbl s.data.toList) ++ bs [39];rw [cm6, cm6];simp only [txt, hok];rfl
   rw [e];have h4 := co7 hok;have hdb := cn5 s (by omega);have hl2 := cn4 s.data.toList;have hsl : s.data.toList.length = s.size := by simp
   have zs : (bs (dbl s.data.toList)).size ≤ 200 := by rw [cm8]; omega
   refine ye1 func100 ntmps100 fun _ _ _=>?_
   repeat' (first | refine yz ?_ | refine yp b39 hv ?_ | refine yp b164 hdb ?_ | exact zD)
  ·have e : bs (txt (.mk 5 n d s l)) = ⟨#[35]⟩ ++ bs (Lib.itoa n) := by
    show _ = bs [35] ++ bs (Lib.itoa n);rw [cm6];simp only [txt, hok];rfl
   rw [e];refine ye1 func100 ntmps100 fun _ _ _=>?_
   repeat' (first | refine yz ?_ | refine yp b39 hv ?_ | refine yp bs6 tn ?_ | exact zD)
  ·have e : bs (txt (.mk 6 n d s l)) = ⟨#[64]⟩ ++ bs (Lib.itoa n) := by
    show _ = bs [64] ++ bs (Lib.itoa n);rw [cm6];simp only [txt, hok];rfl
   rw [e];refine ye1 func100 ntmps100 fun _ _ _=>?_
   repeat' (first | refine yz ?_ | refine yp b39 hv ?_ | refine yp bs6 tn ?_ | exact zD)
  ·have e0 : txt (.mk 7 n d s l) = [60] ++ Lib.join (l.map txt) [32] ++ [62] := by simp only [txt, hok, co3]; rfl
   have e : bs (txt (.mk 7 n d s l)) = ⟨#[60]⟩ ++ bs (Lib.join (l.map txt) [32]) ++ ⟨#[62]⟩ := by
    show _ = bs [60] ++ bs (Lib.join (l.map txt) [32]) ++ bs [62];rw [cm6, cm6, e0]
   rw [e]
   have hjl : (Lib.join (l.map txt) [32]).length ≤ 1099511627776 := by
    rw [e0, fi3, fi3] at hlen;omega
   have hj := cp0 l [32] (fun x hx => ih x hx (fl5 (co4 [32] _ _ (fn2 hx)) hjl)) hjl (by simp);have zj : (bs (Lib.join (l.map txt) [32])).size ≤ 1099511627776 := by rw [cm8]; exact hjl
   refine ye1 func100 ntmps100 fun _ _ _=>?_
   repeat' (first | refine yz ?_ | refine yp b39 hv ?_ | refine yp b165 hj ?_ | exact zD)
  ·have e0 : txt (.mk 8 n d s l) = [91] ++ Lib.join (l.map txt) [44, 32] ++ [93] := by simp only [txt, hok, co3]; rfl
   have e : bs (txt (.mk 8 n d s l)) = ⟨#[91]⟩ ++ bs (Lib.join (l.map txt) [44, 32]) ++ ⟨#[93]⟩ := by
    show _ = bs [91] ++ bs (Lib.join (l.map txt) [44, 32]) ++ bs [93];rw [cm6, cm6, e0]
   rw [e]
   have hjl : (Lib.join (l.map txt) [44, 32]).length ≤ 1099511627776 := by
    rw [e0, fi3, fi3] at hlen;omega
   have hj := cp0 l [44, 32] (fun x hx => ih x hx (fl5 (co4 [44, 32] _ _ (fn2 hx)) hjl)) hjl (by simp);have zj : (bs (Lib.join (l.map txt) [44, 32])).size ≤ 1099511627776 := by rw [cm8]; exact hjl
   refine ye1 func100 ntmps100 fun _ _ _=>?_
   repeat' (first | refine yz ?_ | refine yp b39 hv ?_ | refine yp b165 hj ?_ | exact zD)
set_option maxRecDepth 4000
def cp2 (xs : List (List UInt8)) : List D := xs.map fun t => .str (bs t)
structure STx (l : List V) where
 i : Nat
 hi : i ≤ l.length
theorem cp3 {l : List V} {i : Nat} {x : V} (h : l[i]? = some x) : cp2 ((l.take (i + 1)).map txt) = cp2 ((l.take i).map txt) ++ [.str (bs (txt x))] := by
 have hi := (fg8.1 h).1;rw [fo5 hi];rw [fg5 hi] at h
 cases h
 simp only [cp2, fm7, fj0, fn5]
theorem cp4 (l : List V) (sep : List UInt8) (hT : ∀ x ∈ l, Ev E 152 [enc x] (.d (.str (bs (txt x))))) (hn : l.length ≤ 1000000) (hlen : (Lib.join (l.map txt) sep).length ≤ 1099511627776) :
  Ev E 199 [.sl (bo1 l), .str (bs sep)] (.d (.str (bs (Lib.join (l.map txt) sep)))) := by
 have hle : (bo1 l).length = l.length := bo7 l;have e1 : (l.map fun x => bs (txt x)).map D.str = cp2 (l.map txt) := by simp [cp2]
 have e2 : (l.map fun x => bs (txt x)).map (·.data.toList) = l.map txt := by simp [cm9]
 have hj := co9 (l.map fun x => bs (txt x)) (bs sep) (by simp; omega) (by rw [e2, cm9]; omega);rw [e1, e2, cm9] at hj;refine ye2 func199 ntmps199 fun _ _ _=>?_
 repeat' (refine yz ?_)
 refine ac7 (α := STx l) (fun p => ⟨[(1, .d (.str (bs sep))), (5, ay4 (cp2 ((l.take p.i).map txt))), (8, .d (.sl (bo1 l))), (9, .d (.int (bo1 l).length)), (10, .d (.int p.i))], ay5 9 1 (cp2 ((l.take p.i).map txt))⟩) (fun p => l.length - p.i) ⟨0, by omega⟩ (by rw [List.take_zero]; exact (zle 0)) ?_;rintro ⟨i, hi⟩;dsimp only;rcases fg7 i l.length with hlt | hge
 ·have g1 : decide ((i : Int) < ((bo1 l).length : Int)) = true := by rw [hle]; simpa using hlt
  have hx0 := fg5 hlt;generalize l[i] = x at hx0;have hx : (bo1 l)[(i : Int).toNat]? = some (enc x) := bo5 (by rw [fh0]; exact hx0);have ht := hT x (fg9 hx0);have hta := cp3 hx0;have hll : (cp2 ((l.take i).map txt)).length ≤ i := by simp [cp2]; omega
  generalize cp2 ((l.take i).map txt) = out at *
  match out, hll with
  | [], hll =>
   dsimp only [ay4, ay5]
   repeat' (first | refine yz ?_ | refine yi (enc x) hx ?_ | refine yp b152 ht ?_ | (refine qS rfl ⟨by simp, by simp [D.cells]; rfl, by (show (0 + 1) * 16 ≤ 140737488355328; omega), by (show 0 + 1 ≤ 9223372036854775807; omega)⟩ ?_))
   refine ac1 ?_;refine ⟨⟨i + 1, by omega⟩, by dsimp only; omega, ?_⟩;dsimp only;rw [hta];exact (bj8 [1])
  | a :: q, hll =>
   dsimp only [ay4, ay5]
   repeat' (first | refine yz ?_ | refine yi (enc x) hx ?_ | refine yp b152 ht ?_ | (refine qS rfl ⟨by simp, by simp [D.cells]; rfl, by (show ((a :: q).length + 1) * 16 ≤ 140737488355328; omega), by (show (a :: q).length + 1 ≤ 9223372036854775807; omega)⟩ ?_))
   refine ac1 ?_;refine ⟨⟨i + 1, by omega⟩, by dsimp only; omega, ?_⟩;dsimp only;rw [hta];exact (bj8 [2])
 ·have g1 : decide ((i : Int) < ((bo1 l).length : Int)) = false := by rw [hle]; simp; omega
  rw [fk9 hge];generalize cp2 (l.map txt) = out at *
  match out, hj with
  | [], hj =>
   dsimp only [ay4, ay5]
   repeat' (first | refine yz ?_ | refine yp b253 hj ?_ | exact zD)
  | a :: q, hj =>
   dsimp only [ay4, ay5];refine qA ?_;refine au6 0 rfl ?_
   repeat' (first | refine yz ?_ | refine yp b253 hj ?_ | exact zD)
theorem cp5 (v : V) : (txt v).length ≤ 1099511627776 → Ev E 152 [enc v] (.d (.str (bs (txt v)))) := by
 refine cg5 (P := fun v => (txt v).length ≤ 1099511627776 → Ev E 152 [enc v] (.d (.str (bs (txt v))))) (fun k n d s l ih hlen => Ev.fit fun hfit => ?_) v;obtain ⟨-, hn, hd, -, -, -⟩ := bo8 (hfit (enc (.mk k n d s l)) (by simp));have hv := ce8 cg4 (.mk k n d s l)
 cases hok : Val.okV (.mk k n d s l) with
 | false =>
  rw [hok] at hv;have e : txt (.mk k n d s l) = [63] := by simp only [txt, hok]; rfl
  rw [e];show Ev E _ _ (.d (.str ⟨#[63]⟩));refine ye1 func152 ntmps152 fun _ _ _=>?_
  repeat' (first | refine yz ?_ | refine yp br8 hv ?_ | exact zD)
 | true =>
  rw [hok] at hv;have ln := co0 hn;have ld := co0 hd;have zn : (bs (Lib.itoa n)).size ≤ 21 := by rw [cm8]; exact ln
  have zn' : (⟨(Lib.itoa n).toArray⟩ : ByteArray).size ≤ 21 := zn;have o2 : (⟨#[39]⟩ : ByteArray).size = 1 := rfl;have o3 : (⟨#[35]⟩ : ByteArray).size = 1 := rfl;have o4 : (⟨#[64]⟩ : ByteArray).size = 1 := rfl;have o5 : (⟨#[91]⟩ : ByteArray).size = 1 := rfl;have o6 : (⟨#[93]⟩ : ByteArray).size = 1 := rfl;have o7 : (⟨#[60]⟩ : ByteArray).size = 1 := rfl;have o8 : (⟨#[62]⟩ : ByteArray).size = 1 := rfl;have hk := co5 hok;simp only [V.k] at hk;have tn := cf7 n;have td := cf7 d;rcases hk with rfl | rfl | rfl | rfl | rfl | rfl | rfl | rfl | rfl
  ·have e : txt (.mk 0 n d s l) = [110, 117, 108, 108] := by simp only [txt, hok]; rfl
   rw [e];show Ev E _ _ (.d (.str ⟨#[110, 117, 108, 108]⟩));refine ye1 func152 ntmps152 fun _ _ _=>?_
   repeat' (first | refine yz ?_ | refine yp br8 hv ?_ | exact zD)
  ·have e : bs (txt (.mk 1 n d s l)) = ⟨(Lib.formatBool (n == 1)).toArray⟩ := by
    have : txt (.mk 1 n d s l) = (bif n == 1 then [116, 114, 117, 101] else [102, 97, 108, 115, 101]) := by simp only [txt, hok]; rfl
    rw [this]
    cases n == 1 <;> decide
   rw [e];have hb := cf8 (n == 1);refine ye1 func152 ntmps152 fun _ _ _=>?_
   repeat' (first | refine yz ?_ | refine yp br8 hv ?_ | refine yp b195 hb ?_ | exact zD)
  ·have e : txt (.mk 2 n d s l) = Lib.itoa n := by simp only [txt, hok]; rfl
   rw [e];refine ye1 func152 ntmps152 fun _ _ _=>?_
   repeat' (first | refine yz ?_ | refine yp br8 hv ?_ | refine yp bt0 tn ?_ | exact zD)
  ·obtain ⟨h2, h3⟩ := co6 hok
   have e : txt (.mk 3 n d s l) = ftxt n d := by
    have hd1 : (d == 1) = false := by simp; omega
    simp only [txt, hok, ftxt, h3, hd1];rfl
   rw [e];have hf := co1 n d;refine ye1 func152 ntmps152 fun _ _ _=>?_
   repeat' (first | refine yz ?_ | refine yp br8 hv ?_ | refine yp b197 hf ?_ | exact zD)
  ·have e : bs (txt (.mk 4 n d s l)) = ⟨#[39]⟩ ++ bs (dbl s.data.toList) ++ ⟨#[39]⟩ := by
    show _ = bs [39] ++ bs (dbl s.data.toList) ++ bs [39];rw [cm6, cm6];simp only [txt, hok];rfl
   rw [e];have h4 := co7 hok;have hdb := cn9 s (by omega);have hl2 := cn4 s.data.toList;have hsl : s.data.toList.length = s.size := by simp
   have zs : (bs (dbl s.data.toList)).size ≤ 200 := by rw [cm8]; omega
   refine ye1 func152 ntmps152 fun _ _ _=>?_
   repeat' (first | refine yz ?_ | refine yp br8 hv ?_ | refine yp b198 hdb ?_ | exact zD)
  ·have e : bs (txt (.mk 5 n d s l)) = ⟨#[35]⟩ ++ ⟨(Lib.itoa n).toArray⟩ := by
    show _ = bs [35] ++ bs (Lib.itoa n);rw [cm6];simp only [txt, hok];rfl
   rw [e];refine ye1 func152 ntmps152 fun _ _ _=>?_
   repeat' (first | refine yz ?_ | refine yp br8 hv ?_ | refine yp bt0 tn ?_ | exact zD)
  ·have e : bs (txt (.mk 6 n d s l)) = ⟨#[64]⟩ ++ ⟨(Lib.itoa n).toArray⟩ := by
    show _ = bs [64] ++ bs (Lib.itoa n);rw [cm6];simp only [txt, hok];rfl
   rw [e];refine ye1 func152 ntmps152 fun _ _ _=>?_
   repeat' (first | refine yz ?_ | refine yp br8 hv ?_ | refine yp bt0 tn ?_ | exact zD)
  ·have e0 : txt (.mk 7 n d s l) = [60] ++ Lib.join (l.map txt) [32] ++ [62] := by simp only [txt, hok, co3]; rfl
   have e : bs (txt (.mk 7 n d s l)) = ⟨#[60]⟩ ++ bs (Lib.join (l.map txt) [32]) ++ ⟨#[62]⟩ := by
    show _ = bs [60] ++ bs (Lib.join (l.map txt) [32]) ++ bs [62];rw [cm6, cm6, e0]
   rw [e]
   have hjl : (Lib.join (l.map txt) [32]).length ≤ 1099511627776 := by
    rw [e0, fi3, fi3] at hlen;omega
   have hj := cp4 l [32] (fun x hx => ih x hx (fl5 (co4 [32] _ _ (fn2 hx)) hjl)) (by have := okV_7 hok; omega) hjl;have zj : (bs (Lib.join (l.map txt) [32])).size ≤ 1099511627776 := by rw [cm8]; exact hjl
   refine ye1 func152 ntmps152 fun _ _ _=>?_
   repeat' (first | refine yz ?_ | refine yp br8 hv ?_ | refine yp b199 hj ?_ | exact zD)
  ·have e0 : txt (.mk 8 n d s l) = [91] ++ Lib.join (l.map txt) [44, 32] ++ [93] := by simp only [txt, hok, co3]; rfl
   have e : bs (txt (.mk 8 n d s l)) = ⟨#[91]⟩ ++ bs (Lib.join (l.map txt) [44, 32]) ++ ⟨#[93]⟩ := by
    show _ = bs [91] ++ bs (Lib.join (l.map txt) [44, 32]) ++ bs [93];rw [cm6, cm6, e0]
   rw [e]
   have hjl : (Lib.join (l.map txt) [44, 32]).length ≤ 1099511627776 := by
    rw [e0, fi3, fi3] at hlen;omega
   have hj := cp4 l [44, 32] (fun x hx => ih x hx (fl5 (co4 [44, 32] _ _ (fn2 hx)) hjl)) (by have := okV_8 hok; omega) hjl;have zj : (bs (Lib.join (l.map txt) [44, 32])).size ≤ 1099511627776 := by rw [cm8]; exact hjl
   refine ye1 func152 ntmps152 fun _ _ _=>?_
   repeat' (first | refine yz ?_ | refine yp br8 hv ?_ | refine yp b199 hj ?_ | exact zD)
attribute [local irreducible] EvO
mutual
def nar : V → Bool
 | .mk _ _ _ _ l => decide (l.length ≤ 2000000) && cp6 l
def cp6 : List V → Bool
 | [] => true
 | v :: r => nar v && cp6 r
end
theorem cp7 : ∀ {l : List V}, cp6 l = true → ∀ x ∈ l, nar x = true
 | [], _, x, h => by simp at h
 | v :: r, h, x, hx => by
  simp only [cp6, fg6] at h;rcases fh7.1 hx with e | e
  ·rw [e]; exact h.1
  ·exact cp7 h.2 x e
theorem cp8 {v : V} (h : nar v = true) : v.l.length ≤ 2000000 ∧ cp6 v.l = true := by
 cases v
 simpa [nar, V.l] using h
theorem cp9 : Ev E 255 [.sl []] (.d (.sl [])) := by
 refine ye1 func255 ntmps255 fun _ _ _=>?_
 repeat' (first | refine yz ?_ | (refine ay6 rfl (fun _ => ?_) ?_) | refine az3 rfl rfl rfl rfl rfl rfl rfl rfl ?_ | exact zD)
theorem cq0 (l : List V) : ∀ d ∈ bo1 l, d.cells.length = 5 := fun d hd => by
 rw [bo2] at hd;obtain ⟨u, -, rfl⟩ := fk8.1 hd;rfl
theorem cq1 (l : List V) (h0 : l ≠ []) (hn : l.length ≤ 2000000) : EvO E 255 [.sl (bo1 l)] 24 5 (bo1 l) := by
 have hle : (bo1 l).length = l.length := bo7 _;have hne : bo1 l ≠ [] := by rw [bo2]; simpa using h0
 refine az4 func255 ntmps255 rfl rfl fun w0 F0 O => ?_
 repeat' (first | refine az0 rfl rfl rfl rfl rfl rfl rfl (by decide) (by decide) ?_ | refine yz ?_ | (refine ay6 rfl (fun h => absurd h hne) ?_))
 refine qS rfl ⟨hne, cq0 l, by (show (0 + (bo1 l).length) * 64 ≤ 140737488355328; omega), by (show 0 + (bo1 l).length ≤ 9223372036854775807; omega)⟩ ?_
 repeat' (first | refine yz ?_ | exact zL)
theorem cq2 (v : V) : nar v = true → Ev E 203 [.sl (kids v)] (.d (.sl (kids v))) := by
 refine cg5 (P := fun v => nar v = true → Ev E 203 [.sl (kids v)] (.d (.sl (kids v)))) (fun k n d s l ih hn => ?_) v;obtain ⟨hl, hm⟩ := cp8 hn;simp only [V.l] at hl hm;show Ev E 203 [.sl (bo1 l)] (.d (.sl (bo1 l)));have hle : (bo1 l).length = l.length := bo7 _
 by_cases h0 : l = []
 ·subst h0;show Ev E 203 [.sl []] (.d (.sl []));refine ye1 func203 ntmps203 fun _ _ _=>?_
  repeat' (first | refine yz ?_ | refine yp b255 cp9 ?_)
  refine ac7 (α := Unit) (fun _ => ⟨[(3, .d (.sl [])), (8, .d (.int 0)), (9, .d (.int 0))], []⟩) (fun _ => 0) () (zle 0) ?_;rintro -;have g1 : decide ((0 : Int) < 0) = false := rfl
  repeat' (first | refine yz ?_ | exact zD)
 ·have hc := cq1 l h0 hl;refine ye1 func203 ntmps203 fun _ _ _=>?_
  repeat' (first | refine yz ?_ | refine ay9 rfl rfl rfl rfl rfl rfl b255 (hc) ?_)
  refine ac7 (α := Fin (l.length + 1)) (fun p => ⟨[(3, .own 0), (8, .d (.int (bo1 l).length)), (9, .d (.int p.val))], [.row 24 5 (bo1 l)]⟩) (fun p => l.length - p.val) ⟨0, by omega⟩ (zle 1) ?_;rintro ⟨i, hi⟩;dsimp only;rcases fg7 i l.length with hlt | hge
  ·have g1 : decide ((i : Int) < ((bo1 l).length : Int)) = true := by rw [hle]; simpa using hlt
   have hx0 := fg5 hlt;generalize l[i] = x at hx0;have hx : (bo1 l)[(i : Int).toNat]? = some (enc x) := bo5 (by rw [fh0]; exact hx0);have hmem := fg9 hx0;have hcx := ih x hmem (cp7 hm x hmem)
   have hset : (bo1 l).set (i : Int).toNat (ar1 (enc x) 4 (.sl (kids x))) = bo1 l := by
    have e : ar1 (enc x) 4 (.sl (kids x)) = enc x := rfl;rw [e, fh0];refine fn0 fun j => ?_
    rw [fk3];split
    ·rename_i hij
     subst hij;rw [if_pos (by rw [hle]; exact hlt)];exact (bo5 hx0).symm
    ·rfl
   repeat' (first | refine yz ?_ | refine qW (enc x) rfl rfl rfl rfl rfl rfl hx rfl ?_ | refine qZ (enc x) rfl rfl rfl rfl rfl rfl hx rfl rfl rfl ?_ | refine yp b203 hcx ?_)
   refine ac1 ?_;refine ⟨⟨i + 1, by omega⟩, by dsimp only; omega, ?_⟩;show Le _ ⟨_, [.row 24 5 ((bo1 l).set (i : Int).toNat (ar1 (enc x) 4 (.sl (kids x))))]⟩ _;rw [hset];exact (zle 1)
  ·have g1 : decide ((i : Int) < ((bo1 l).length : Int)) = false := by rw [hle]; simp; omega
   repeat' (refine yz ?_)
   refine au6 0 rfl ?_
   repeat' (first | refine qL rfl rfl ?_ | exact zD)
structure SCp (l : List V) where
 i : Nat
 hi : i ≤ l.length
theorem cq3 {l : List V} {i : Nat} {x : V} (h : l[i]? = some x) : bo1 (l.take (i + 1)) = bo1 (l.take i) ++ [enc x] := by
 have hi := (fg8.1 h).1;rw [fo5 hi];rw [fg5 hi] at h
 cases h
 simp only [bo2, fm7, fj0, fn5]
theorem cq4 (v : V) : nar v = true → Ev E 96 [.sl (kids v)] (.d (.sl (kids v))) := by
 refine cg5 (P := fun v => nar v = true → Ev E 96 [.sl (kids v)] (.d (.sl (kids v)))) (fun k n d s l ih hn => ?_) v;obtain ⟨hl, hm⟩ := cp8 hn;simp only [V.l] at hl hm;show Ev E 96 [.sl (bo1 l)] (.d (.sl (bo1 l)));have hle : (bo1 l).length = l.length := bo7 _;refine ye1 func96 ntmps96 fun _ _ _=>?_
 repeat' (refine yz ?_)
 refine ac7 (α := SCp l) (fun p => ⟨[(0, .d (.sl (bo1 l))), (3, ay4 (bo1 (l.take p.i))), (4, .d (.int p.i))], ay5 24 5 (bo1 (l.take p.i))⟩) (fun p => l.length - p.i) ⟨0, by omega⟩ (by rw [List.take_zero]; exact (zle 0)) ?_;rintro ⟨i, hi⟩;dsimp only;rcases fg7 i l.length with hlt | hge
 ·have g1 : decide ((i : Int) < ((bo1 l).length : Int)) = true := by rw [hle]; simpa using hlt
  have hx0 := fg5 hlt;generalize l[i] = x at hx0;have hx : (bo1 l)[(i : Int).toNat]? = some (enc x) := bo5 (by rw [fh0]; exact hx0);have hmem := fg9 hx0;have hcx := ih x hmem (cp7 hm x hmem);have hta := cq3 hx0;have hll : (bo1 (l.take i)).length ≤ i := by rw [bo7]; simp; omega
  generalize bo1 (l.take i) = out at *
  match out, hll with
  | [], hll =>
   dsimp only [ay4, ay5]
   repeat' (first | refine yz ?_ | refine yi (enc x) hx ?_ | refine yp b96 hcx ?_ | (refine qS rfl ⟨by simp, fun d hd => by (obtain rfl := fl4.1 hd; rfl), by (show (0 + 1) * 64 ≤ 140737488355328; omega), by (show 0 + 1 ≤ 9223372036854775807; omega)⟩ ?_))
   refine ac1 ?_;refine ⟨⟨i + 1, by omega⟩, by dsimp only; omega, ?_⟩;dsimp only;rw [hta];exact (bj8 [1])
  | a :: q, hll =>
   dsimp only [ay4, ay5]
   repeat' (first | refine yz ?_ | refine yi (enc x) hx ?_ | refine yp b96 hcx ?_ | (refine qS rfl ⟨by simp, fun d hd => by (obtain rfl := fl4.1 hd; rfl), by (show ((a :: q).length + 1) * 64 ≤ 140737488355328; omega), by (show (a :: q).length + 1 ≤ 9223372036854775807; omega)⟩ ?_))
   refine ac1 ?_;refine ⟨⟨i + 1, by omega⟩, by dsimp only; omega, ?_⟩;dsimp only;rw [hta];exact (bj8 [2])
 ·have g1 : decide ((i : Int) < ((bo1 l).length : Int)) = false := by rw [hle]; simp; omega
  rw [fk9 hge];generalize bo1 l = out at *
  match out with
  | [] =>
   dsimp only [ay4, ay5]
   repeat' (first | refine yz ?_ | exact zD)
  | a :: q =>
   dsimp only [ay4, ay5];refine qA ?_;refine au6 0 rfl ?_
   repeat' (first | refine yz ?_ | exact zD)
end Go.Proofs.YtibfalecohlngaaGreatDoor
namespace Go.Proofs.YtibfalecohlngaaGreatDoor
set_option maxRecDepth 4000
open Go Go.Abs Go.Val Go.RowKit Go.Proofs.Tryz
attribute [local irreducible] go SGo an2 Ev aw0 EvO
def ci (x y : Int) : Int := Lib.compareInt x y
theorem cq5 {x y : Int} (h : x < y) : ci x y = -1 := by unfold ci Lib.compareInt; rw [if_pos h]
theorem cq6 {x y : Int} (h : x > y) : ci x y = 1 := by unfold ci Lib.compareInt; rw [if_neg (by omega), if_pos h]
theorem cq7 (x : Int) : ci x x = 0 := by unfold ci Lib.compareInt; rw [if_neg (by omega), if_neg (by omega)]
def cs (a b : ByteArray) : Int := bif Op.bytesLess a.toList b.toList then -1 else bif (Op.bytesLess a.toList b.toList || a.toList == b.toList) then 0 else 1
def orI (x y : Int) : Int := bif x != 0 then x else y
theorem cq8 (x y : Int) : Ev E 42 [.int x, .int y] (.d (.int (ci x y))) := by
 rcases (show x < y ∨ x = y ∨ x > y by omega) with h | h | h
 ·rw [cq5 h];have g1 : decide (x < y) = true := by simpa using h
  refine ye2 func42 ntmps42 fun _ _ _=>?_
  repeat' (first | refine yz ?_ | refine yx ?_ | (refine yy ?_ ?_ <;> intro _) | exact zD | exact zL)
 ·subst h;rw [cq7];have g1 : decide (x < x) = false := by simp
  have g2 : decide (x > x) = false := by simp
  refine ye2 func42 ntmps42 fun _ _ _=>?_
  repeat' (first | refine yz ?_ | refine yx ?_ | (refine yy ?_ ?_ <;> intro _) | exact zD | exact zL)
 ·rw [cq6 h];have g1 : decide (x < y) = false := by simp; omega
  have g2 : decide (x > y) = true := by simpa using h
  refine ye2 func42 ntmps42 fun _ _ _=>?_
  repeat' (first | refine yz ?_ | refine yx ?_ | (refine yy ?_ ?_ <;> intro _) | exact zD | exact zL)
theorem cq9 (a b : ByteArray) : Ev E 73 [.str a, .str b] (.d (.int (cs a b))) := by
 unfold cs
 cases h1 : Op.bytesLess a.toList b.toList with
 | true =>
  refine ye2 func73 ntmps73 fun _ _ _=>?_
  repeat' (first | refine yz ?_ | refine yx ?_ | (refine yy ?_ ?_ <;> intro _) | exact zD | exact zL)
 | false =>
  cases h2 : a.toList == b.toList with
  | true =>
   have g2 : (!(Op.bytesLess a.toList b.toList || a.toList == b.toList)) = false := by rw [h1, h2]; rfl
   refine ye2 func73 ntmps73 fun _ _ _=>?_
   repeat' (first | refine yz ?_ | refine yx ?_ | (refine yy ?_ ?_ <;> intro _) | exact zD | exact zL)
  | false =>
   have g2 : (!(Op.bytesLess a.toList b.toList || a.toList == b.toList)) = true := by rw [h1, h2]; rfl
   refine ye2 func73 ntmps73 fun _ _ _=>?_
   repeat' (first | refine yz ?_ | refine yx ?_ | (refine yy ?_ ?_ <;> intro _) | exact zD | exact zL)
def cr0 (g : V → V → Int) : List V → List V → Int
 | [], [] => 0
 | [], _ :: _ => -1
 | _ :: _, [] => 1
 | x :: r, y :: q => orI (g x y) (cr0 g r q)
theorem cr1 (g : V → V → Int) (a b : List V) (h : a = [] ∨ b = []) : cr0 g a b = ci a.length b.length := by
 cases a with
 | nil =>
  cases b with
  | nil => exact (cq7 0).symm
  | cons y q => simp only [cr0]; rw [cq5 (by simp only [fl8, fh9]; omega)]
 | cons x r =>
  cases b with
  | nil => simp only [cr0]; rw [cq6 (by simp only [fl8, fh9]; omega)]
  | cons y q => rcases h with h | h <;> cases h
structure SCF (g : V → V → Int) (a b : List V) where
 i : Nat
 hi : i ≤ a.length
 hj : i ≤ b.length
 ok : cr0 g a b = cr0 g (a.drop i) (b.drop i)
def cr2 (k : Int) : Int := bif k == 0 then 0 else bif k == 1 then 1 else bif k == 2 || k == 3 then 2 else bif k == 4 then 3 else bif k == 5 then 4 else bif k == 6 then 5 else bif k == 8 then 6 else 7
def cr3 (a b : V) (t : Int) : Int := orI (ci a.k b.k) (orI (ci a.n b.n) (orI (ci a.d b.d) (orI (cs a.s b.s) t)))
def cr4 (a b : V) (t : Int) : Int :=
 bif Val.okV a != Val.okV b then 1 - tt (Val.okV a) else
 bif !Val.okV a then cr3 a b t else
 bif ci (cr2 a.k) (cr2 b.k) != 0 then ci (cr2 a.k) (cr2 b.k) else
 bif bq5 a then ck2 (bq6 a) (bq7 a) (bq6 b) (bq7 b) else cr3 a b t
mutual
def cr5 : V → V → Int
 | .mk k n d s l, b => cr4 (.mk k n d s l) b (cr6 l b.l)
def cr6 : List V → List V → Int
 | [], [] => 0
 | [], _ :: _ => -1
 | _ :: _, [] => 1
 | x :: r, y :: q => orI (cr5 x y) (cr6 r q)
end
theorem cr7 : ∀ a b : List V, cr6 a b = cr0 cr5 a b
 | [], [] => by simp [cr6, cr0]
 | [], _ :: _ => by simp [cr6, cr0]
 | _ :: _, [] => by simp [cr6, cr0]
 | x :: r, y :: q => by simp only [cr6, cr0, cr7 r q]
theorem cr8 (a b : V) : cr5 a b = cr4 a b (cr0 cr5 a.l b.l) := by
 cases a
 simp only [cr5, cr7, V.l]
theorem cr9 (k : Int) : Ev E 43 [.int k] (.d (.int (cr2 k))) := by
 unfold cr2
 cases h0 : k == 0 with
 | true =>
  refine ye1 func43 ntmps43 fun _ _ _=>?_
  repeat' (first | refine yz ?_ | refine yx ?_ | (refine yy ?_ ?_ <;> intro _) | exact zD | exact zL)
 | false =>
 cases h1 : k == 1 with
 | true =>
  refine ye1 func43 ntmps43 fun _ _ _=>?_
  repeat' (first | refine yz ?_ | refine yx ?_ | (refine yy ?_ ?_ <;> intro _) | exact zD | exact zL)
 | false =>
 cases h2 : k == 2 with
 | true =>
  refine ye1 func43 ntmps43 fun _ _ _=>?_
  repeat' (first | refine yz ?_ | refine yx ?_ | (refine yy ?_ ?_ <;> intro _) | exact zD | exact zL)
 | false =>
 cases h3 : k == 3 with
 | true =>
  refine ye1 func43 ntmps43 fun _ _ _=>?_
  repeat' (first | refine yz ?_ | refine yx ?_ | (refine yy ?_ ?_ <;> intro _) | exact zD | exact zL)
 | false =>
 cases h4 : k == 4 with
 | true =>
  refine ye1 func43 ntmps43 fun _ _ _=>?_
  repeat' (first | refine yz ?_ | refine yx ?_ | (refine yy ?_ ?_ <;> intro _) | exact zD | exact zL)
 | false =>
 cases h5 : k == 5 with
 | true =>
  refine ye1 func43 ntmps43 fun _ _ _=>?_
  repeat' (first | refine yz ?_ | refine yx ?_ | (refine yy ?_ ?_ <;> intro _) | exact zD | exact zL)
 | false =>
 cases h6 : k == 6 with
 | true =>
  refine ye1 func43 ntmps43 fun _ _ _=>?_
  repeat' (first | refine yz ?_ | refine yx ?_ | (refine yy ?_ ?_ <;> intro _) | exact zD | exact zL)
 | false =>
 cases h8 : k == 8 with
 | true =>
  refine ye1 func43 ntmps43 fun _ _ _=>?_
  repeat' (first | refine yz ?_ | refine yx ?_ | (refine yy ?_ ?_ <;> intro _) | exact zD | exact zL)
 | false =>
  refine ye1 func43 ntmps43 fun _ _ _=>?_
  repeat' (first | refine yz ?_ | refine yx ?_ | (refine yy ?_ ?_ <;> intro _) | exact zD | exact zL)
theorem lists_ev (a b : List V) (hf : ∀ x ∈ a, ∀ y ∈ b, Ev E 24 [enc x, enc y] (.d (.int (cr5 x y)))) : Ev E 74 [.sl (bo1 a), .sl (bo1 b)] (.d (.int (cr0 cr5 a b))) := Ev.fit fun hfit => by
 obtain ⟨hma, -⟩ := bo9 (hfit (.sl (bo1 a)) (by simp));obtain ⟨hmb, -⟩ := bo9 (hfit (.sl (bo1 b)) (by simp));have hla : (bo1 a).length = a.length := bo7 a;have hlb : (bo1 b).length = b.length := bo7 b;refine ye2 func74 ntmps74 fun _ _ _=>?_
 repeat' (first | refine yz ?_ | refine yx ?_ | (refine yy ?_ ?_ <;> intro _) | exact zD | exact zL)
 refine ac7 (α := SCF cr5 a b) (fun p => ⟨[(0, .d (.sl (bo1 a))), (1, .d (.sl (bo1 b))), (5, .d (.int p.i))], []⟩) (fun p => a.length - p.i) ⟨0, by omega, by omega, rfl⟩ (zle 0) ?_;rintro ⟨i, hi, hj, ok⟩;dsimp only
 have hend : (i = a.length ∨ i = b.length) → cr0 cr5 a b = ci ((bo1 a).length : Int) ((bo1 b).length : Int) := by
  intro h;rw [ok, cr1]
  ·rw [hla, hlb];rcases (show (a.length : Int) < b.length ∨ (a.length : Int) = b.length ∨ (a.length : Int) > b.length by omega) with h' | h' | h'
   ·rw [cq5 h', cq5 (by simp only [fm5]; omega)]
   ·rw [h', cq7, show ((a.drop i).length : Int) = ((b.drop i).length : Int) by simp only [fm5]; omega, cq7]
   ·rw [cq6 h', cq6 (by simp only [fm5]; omega)]
  ·rcases h with h | h
   ·exact .inl (fh6 (by omega))
   ·exact .inr (fh6 (by omega))
 have hin := cq8 ((bo1 a).length : Int) ((bo1 b).length : Int);rcases fg7 i a.length with hlt | hge
 ·have g1 : decide ((i : Int) < ((bo1 a).length : Int)) = true := by rw [hla]; simpa using hlt
  rcases fg7 i b.length with hltb | hgeb
  ·have g2 : decide ((i : Int) < ((bo1 b).length : Int)) = true := by rw [hlb]; simpa using hltb
   have hx0 := fg5 hlt;generalize a[i] = x at hx0;have hx : (bo1 a)[(i : Int).toNat]? = some (enc x) := bo5 (by rw [fh0]; exact hx0);have hy0 := fg5 hltb;generalize b[i] = y at hy0;have hy : (bo1 b)[(i : Int).toNat]? = some (enc y) := bo5 (by rw [fh0]; exact hy0);have hxy := hf x (fg9 hx0) y (fg9 hy0);rw [ok, cd5 hx0, cd5 hy0];simp only [cr0, orI]
   cases h : cr5 x y != 0 with
   | true =>
    repeat' (first | refine yz ?_ | refine yi (enc x) hx ?_ | refine yi (enc y) hy ?_ | refine yp b24 hxy ?_ | refine yx ?_ | (refine yy ?_ ?_ <;> intro _) | exact zD | exact zL)
   | false =>
    repeat' (first | refine yz ?_ | refine yi (enc x) hx ?_ | refine yi (enc y) hy ?_ | refine yp b24 hxy ?_ | refine yx ?_ | (refine yy ?_ ?_ <;> intro _) | exact zD | exact zL)
    refine ac1 ?_;exact ⟨⟨i + 1, by omega, by omega, by rw [ok, cd5 hx0, cd5 hy0]; simp only [cr0, orI]; rw [h]; rfl⟩, by dsimp only; omega, (zle 0)⟩
  ·have g2 : decide ((i : Int) < ((bo1 b).length : Int)) = false := by rw [hlb]; simp; omega
   rw [hend (.inr (by omega))]
   repeat' (first | refine yz ?_ | refine yp b42 hin ?_ | refine yx ?_ | (refine yy ?_ ?_ <;> intro _) | exact zD | exact zL)
 ·have g1 : decide ((i : Int) < ((bo1 a).length : Int)) = false := by rw [hla]; simp; omega
  rw [hend (.inl (by omega))]
  repeat' (first | refine yz ?_ | refine yp b42 hin ?_ | refine yx ?_ | (refine yy ?_ ?_ <;> intro _) | exact zD | exact zL)
theorem cs0 (a b : V) (hf : ∀ x ∈ a.l, ∀ y ∈ b.l, Ev E 24 [enc x, enc y] (.d (.int (cr5 x y)))) : Ev E 41 [enc a, enc b] (.d (.int (cr3 a b (cr0 cr5 a.l b.l)))) := by
 have hl := lists_ev a.l b.l hf;rw [bo2, bo2, ← bo3, ← bo3] at hl;unfold cr3 orI
 cases h1 : ci a.k b.k != 0 with
 | true =>
  refine ye2 func41 ntmps41 fun _ _ _=>?_
  repeat' (first | refine yz ?_ | refine yp b42 (cq8 _ _) ?_ | refine yx ?_ | (refine yy ?_ ?_ <;> intro _) | exact zD | exact zL)
 | false =>
 cases h2 : ci a.n b.n != 0 with
 | true =>
  refine ye2 func41 ntmps41 fun _ _ _=>?_
  repeat' (first | refine yz ?_ | refine yp b42 (cq8 _ _) ?_ | refine yx ?_ | (refine yy ?_ ?_ <;> intro _) | exact zD | exact zL)
 | false =>
 cases h3 : ci a.d b.d != 0 with
 | true =>
  refine ye2 func41 ntmps41 fun _ _ _=>?_
  repeat' (first | refine yz ?_ | refine yp b42 (cq8 _ _) ?_ | refine yx ?_ | (refine yy ?_ ?_ <;> intro _) | exact zD | exact zL)
 | false =>
 cases h4 : cs a.s b.s != 0 with
 | true =>
  refine ye2 func41 ntmps41 fun _ _ _=>?_
  repeat' (first | refine yz ?_ | refine yp b42 (cq8 _ _) ?_ | refine yp b73 (cq9 _ _) ?_ | refine yx ?_ | (refine yy ?_ ?_ <;> intro _) | exact zD | exact zL)
 | false =>
  refine ye2 func41 ntmps41 fun _ _ _=>?_
  repeat' (first | refine yz ?_ | refine yp b42 (cq8 _ _) ?_ | refine yp b73 (cq9 _ _) ?_ | refine yp b74 hl ?_ | refine yx ?_ | (refine yy ?_ ?_ <;> intro _) | exact zD | exact zL)
theorem cs1 (a : V) : ∀ b : V, Ev E 24 [enc a, enc b] (.d (.int (cr5 a b))) := by
 refine cg5 (P := fun a => ∀ b : V, Ev E 24 [enc a, enc b] (.d (.int (cr5 a b)))) (fun k n d s l ih b => ?_) a;have hfl := cs0 (.mk k n d s l) b (fun x hx y _ => ih x hx y);rw [cr8];generalize V.mk k n d s l = a at *;clear ih;have va := ce9 a;have vb := ce9 b;have na := cf1 a;have nb := cf1 b;have hc := ck8 (bq6 a) (bq7 a) (bq6 b) (bq7 b);have hcl := cq8 (cr2 a.k) (cr2 b.k);unfold cr4
 cases h1 : Val.okV a != Val.okV b with
 | true =>
  have hy := cc3 (Val.okV a);have htt : 0 ≤ tt (Val.okV a) ∧ tt (Val.okV a) ≤ 2 := by cases Val.okV a <;> decide
  refine ye2 func24 ntmps24 fun _ _ _=>?_
  repeat' (first | refine yz ?_ | refine yp b39 va ?_ | refine yp b39 vb ?_ | refine yp b40 hy ?_ | refine yx ?_ | (refine yy ?_ ?_ <;> intro _) | exact zD | exact zL)
 | false =>
 cases h2 : Val.okV a with
 | false =>
  have g2 : (!Val.okV a) = true := by rw [h2]; rfl
  refine ye2 func24 ntmps24 fun _ _ _=>?_
  repeat' (first | refine yz ?_ | refine yp b39 va ?_ | refine yp b39 vb ?_ | refine yp b41 hfl ?_ | refine yx ?_ | (refine yy ?_ ?_ <;> intro _) | exact zD | exact zL)
 | true =>
 have g2 : (!Val.okV a) = false := by rw [h2]; rfl
 cases h3 : ci (cr2 a.k) (cr2 b.k) != 0 with
 | true =>
  refine ye2 func24 ntmps24 fun _ _ _=>?_
  repeat' (first | refine yz ?_ | refine yp b39 va ?_ | refine yp b39 vb ?_ | refine yp b43 (cr9 _) ?_ | refine yp b42 hcl ?_ | refine yx ?_ | (refine yy ?_ ?_ <;> intro _) | exact zD | exact zL)
 | false =>
 cases h4 : bq5 a with
 | true =>
  refine ye2 func24 ntmps24 fun _ _ _=>?_
  repeat' (first | refine yz ?_ | refine yp b39 va ?_ | refine yp b39 vb ?_ | refine yp b43 (cr9 _) ?_ | refine yp b42 hcl ?_ | refine qP (d := 39) rfl rfl rfl rfl rfl rfl b44 (na) ?_ | refine yp b44 nb ?_ | refine yp b45 hc ?_ | refine yx ?_ | (refine yy ?_ ?_ <;> intro _) | exact zD | exact zL)
 | false =>
  refine ye2 func24 ntmps24 fun _ _ _=>?_
  repeat' (first | refine yz ?_ | refine yp b39 va ?_ | refine yp b39 vb ?_ | refine yp b43 (cr9 _) ?_ | refine yp b42 hcl ?_ | refine qP (d := 39) rfl rfl rfl rfl rfl rfl b44 (na) ?_ | refine yp b44 nb ?_ | refine yp b41 hfl ?_ | refine yx ?_ | (refine yy ?_ ?_ <;> intro _) | exact zD | exact zL)
end Go.Proofs.YtibfalecohlngaaGreatDoor
namespace Go.Proofs.YtibfalecohlngaaGreatDoor
set_option maxRecDepth 4000
open Go Go.Abs Go.Val Go.RowKit Go.Proofs.Tryz
attribute [local irreducible] go SGo an2 Ev aw0 EvO
theorem cs2 {v : V} (h : bq1 v = true) : v.l = [] := by
 simp only [bq1, fi1, fg6, beq_iff_eq, List.length_eq_zero_iff] at h
 grind
theorem cs3 : ∀ (l : List V) (i : Nat), bq3 i l = true → ∀ x ∈ l, bq1 x = true
 | [], _, _, x, hx => by simp at hx
 | v :: r, i, h, x, hx => by
  simp only [bq3, bq2, fg6] at h;rcases fh7.1 hx with e | e
  ·rw [e]; exact h.1.2
  ·exact cs3 r (i + 1) h.2 x e
theorem cs4 {v : V} (m : Nat) (h : bq1 v = true) : okN m v = true := by
 cases m <;> simp [okN, h]
theorem cs5 : ∀ (m : Nat) (v : V), okN m v = true → okN (m + 1) v = true
 | 0, v, h => by
  simp only [okN, fi1] at h ⊢;exact .inl h
 | m + 1, v, h => by
  have ih := cs5 m;simp only [okN, fi1, fg6, fi5, decide_eq_true_eq] at h ih ⊢;rcases h with h | h
  ·exact .inl h
  ·exact .inr ⟨h.1, h.2.1, fun x hx => by have := ih x (by have := h.2.2 x hx; simpa [okN] using this); simpa [okN] using this⟩
theorem cs6 {v : V} (h : Val.okV v = true) : ∀ x ∈ v.l, Val.okV x = true := by
 unfold Val.okV at h;rw [okN] at h;simp only [fi1, fg6, fi5] at h;intro x hx;rcases h with (h | h) | h
 ·rw [cs2 h] at hx; simp at hx
 ·have hp := h.2.2;simp only [bq4, fg6] at hp;exact cs4 8 (cs3 _ 0 hp.2 x hx)
 ·exact cs5 7 x (h.2.2 x hx)
theorem cs7 {v : V} (h : Val.okV v = true) : (v.k ≠ 3 → v.d = 0) ∧ (v.k ≠ 4 → v.s.toList = (⟨#[]⟩ : ByteArray).toList) ∧ (v.k = 4 → v.n = 0) ∧ (v.k = 7 ∨ v.k = 8 → v.n = 0) ∧ (v.k ≠ 7 → v.k ≠ 8 → v.l = []) := by
 unfold Val.okV at h;rw [okN] at h;simp only [bq1, s0, fi1, fg6, beq_iff_eq, List.length_eq_zero_iff] at h
 grind
theorem cs8 {v : V} (h : Val.okV v = true) : bq5 v = (v.k == 2 || v.k == 3) := by unfold bq5; rw [h, fm4]
theorem cs9 {a b : Int} (ha : 0 ≤ a ∧ a ≤ 8) (hb : 0 ≤ b ∧ b ≤ 8) (h : ci (cr2 a) (cr2 b) = 0) (hn : (a == 2 || a == 3) = false) : a = b := by
 obtain ⟨x, rfl⟩ := Int.eq_ofNat_of_zero_le ha.1;obtain ⟨y, rfl⟩ := Int.eq_ofNat_of_zero_le hb.1;have hx : x < 9 := by omega
 have hy : y < 9 := by omega
 revert ha hb h hn;have key : ∀ (x y : Fin 9), ci (cr2 (x.val : Int)) (cr2 (y.val : Int)) = 0 → ((x.val : Int) == 2 || (x.val : Int) == 3) = false → (x.val : Int) = (y.val : Int) := by decide
 intros
 exact key ⟨x, hx⟩ ⟨y, hy⟩ (by assumption) (by assumption)
theorem ct0 {v : V} (h : Val.okV v = true) : 0 ≤ v.k ∧ v.k ≤ 8 := by have := co5 h; omega
theorem ct1 {n d n' d' : Int} (h : bp2 n d = true) (h' : bp2 n' d' = true) (he : n * d' = n' * d) : n = n' ∧ d = d' := by
 simp only [bp2, fg6, decide_eq_true_eq, beq_iff_eq] at h h';have g : Int.gcd n d = 1 := by have := h.2.2.2; omega
 have g' : Int.gcd n' d' = 1 := by have := h'.2.2.2; omega
 have key : ∀ {n d n' d' : Int}, Int.gcd n d = 1 → n * d' = n' * d → d ∣ d' := by
  intro n d n' d' g he;have hdv : d ∣ n * d' := ⟨n', by rw [he, Int.mul_comm]⟩
  have h0 : d.natAbs ∣ d'.natAbs * n.natAbs := by
   have := Int.natAbs_dvd_natAbs.2 hdv;rwa [Int.natAbs_mul, fl0] at this
  have hc : Nat.Coprime d.natAbs n.natAbs := by
   unfold Nat.Coprime;rw [Nat.gcd_comm];exact g
  exact Int.natAbs_dvd_natAbs.1 (hc.dvd_of_dvd_mul_right h0)
 have h1 : d ∣ d' := key g he;have h2 : d' ∣ d := key g' he.symm;have hd : d = d' := Int.dvd_antisymm (by omega) (by omega) h1 h2;refine ⟨?_, hd⟩;rw [hd] at he;exact Int.eq_of_mul_eq_mul_right (by omega) he
theorem ct2 {v : V} (h : bq5 v = true) : bp2 (bq6 v) (bq7 v) = true := by
 have hok : Val.okV v = true := by unfold bq5 at h; simp only [fg6] at h; exact h.2
 have hk : v.k = 2 ∨ v.k = 3 := by unfold bq5 at h; simp only [fg6, fi1, beq_iff_eq] at h; exact h.1
 unfold bq6 bq7;rw [h];simp only [cond_true];obtain ⟨k, n, d, s, l⟩ := v;simp only [V.k] at hk;unfold Val.okV at hok;rw [ce0 8 k n d s l (by omega) (by omega)] at hok;rcases hk with rfl | rfl
 ·simp [bq1, V.k, V.n, V.d, V.s, V.l] at hok;simp [V.k, V.n, bp2, hok.2]
 ·simp [bq1, V.k, V.n, V.d, V.s, V.l] at hok;simpa [V.k, V.n, V.d] using hok.2.2
theorem ct3 {a b : V} (ha : bq5 a = true) (hb : bq5 b = true) : (ck2 (bq6 a) (bq7 a) (bq6 b) (bq7 b) == 0) = ((bq6 a == bq6 b) && (bq7 a == bq7 b)) := by
 have fa := ct2 ha;have fb := ct2 hb
 have e : ck2 (bq6 a) (bq7 a) (bq6 b) (bq7 b) = sgn (bq6 a * bq7 b - bq6 b * bq7 a) := by
  unfold ck2 fzn fzd;rw [fa, fb];rfl
 rw [e, fm3];simp only [beq_iff_eq, fg6];constructor
 ·intro h;refine ct1 fa fb ?_;unfold sgn at h;split at h
  ·cases h
  ·split at h
   ·cases h
   ·omega
 ·rintro ⟨h1, h2⟩;rw [h1, h2, Int.sub_self];rfl
def ct4 (a b : V) (t : Int) : Int :=
 bif a.k == 0 || b.k == 0 || !Val.okV a || !Val.okV b then 1 else
 bif bq5 a && bq5 b then tt (ck2 (bq6 a) (bq7 a) (bq6 b) (bq7 b) == 0) else
 bif a.k != b.k then 0 else
 bif a.k == 4 then tt (a.s.toList == b.s.toList) else
 bif a.k != 8 && a.k != 7 then tt (a.n == b.n) else
 bif a.l.length != b.l.length then 0 else t
mutual
def eqF : V → V → Int
 | .mk k n d s l, b => ct4 (.mk k n d s l) b (eqL l b.l 2)
def eqL : List V → List V → Int → Int
 | x :: r, y :: q, t => eqL r q (min (kn t) (kn (eqF x y)))
 | [], _, t => t
 | _ :: _, [], t => t
end
def eqM (g : V → V → Int) : List V → List V → Int → Int
 | x :: r, y :: q, t => eqM g r q (min (kn t) (kn (g x y)))
 | [], _, t => t
 | _ :: _, [], t => t
theorem ct5 : ∀ (a b : List V) (t : Int), eqL a b t = eqM eqF a b t
 | [], b, t => by simp [eqL, eqM]
 | _ :: _, [], t => by simp [eqL, eqM]
 | x :: r, y :: q, t => by simp only [eqL, eqM]; rw [ct5 r q]
theorem ct6 (a b : V) : eqF a b = ct4 a b (eqM eqF a.l b.l 2) := by
 cases a
 simp only [eqF, ct5, V.l]
structure SE (a b : List V) where
 i : Nat
 t : Int
 hi : i ≤ a.length
 ok : eqM eqF a b 2 = eqM eqF (a.drop i) (b.drop i) t
end Go.Proofs.YtibfalecohlngaaGreatDoor
