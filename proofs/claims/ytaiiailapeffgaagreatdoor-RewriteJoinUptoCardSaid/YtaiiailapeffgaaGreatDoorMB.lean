/- The specification's wide numbers: their value, and what times, plus, minus, order and sum come to; The specification's product of wide numbers; The specification's sums of wide numbers; The specification's sum of signed wide numbers, and its comparison of fractions; The program's wide numbers and its comparison of fractions; Numbers and strings as text, by both texts; Values as text, by both texts; The program's values as text; Copies of values, by both texts; Comparisons: of integers, strings, lists; the specification's order of values; The program's order of values; equality and Less of both. Conditions: each part's own, as it says. -/
import Derived.Test.YtaiiailapeffgaaGreatDoorGC
import Derived.Test.YtaiiailapeffgaaGreatDoorMA
import Derived.Test.YtaiiailapeffgaaGreatDoorGA
import Derived.Test.YtaiiailapeffgaaGreatDoorGB
import Derived.Shelf.Spec.BitsCarry
import Derived.Lib.ReplaceLaws
import Derived.Lib.Join
set_option linter.unusedVariables false
set_option linter.unusedSimpArgs false
namespace Go.Proofs.YtaiiailapeffgaaGreatDoor
set_option maxRecDepth 4000
open Go Go.Abs Go.Val Go.Proofs.Tryz
attribute [local irreducible] go SGo an2 Ev
def wv : List Int → Int
 | [] => 0
 | d :: r => d + 1000 * wv r
def wok (l : List Int) : Prop := ∀ d ∈ l, 0 ≤ d ∧ d ≤ 999
def cc3 (l : List Int) : List D := l.map fun n => .int n
theorem cc4 {l : List Int} {i : Nat} {x : Int} (h : l[i]? = some x) : (cc3 l)[i]? = some (.int x) := by
 unfold cc3;rw [fk7, h];rfl
theorem cc5 (l : List Int) : (cc3 l).length = l.length := by simp [cc3]
def pw : Nat → Int
 | 0 => 1
 | k + 1 => 1000 * pw k
theorem cc6 : ∀ k, 1 ≤ pw k
 | 0 => Int.le_refl _
 | k + 1 => by have := cc6 k; simp only [pw]; omega
theorem cc7 (m : Nat) : ∀ k, pw (m + k) = pw m * pw k
 | 0 => by simp [pw]
 | k + 1 => by
  rw [← Nat.add_assoc];simp only [pw];rw [cc7 m k, Int.mul_left_comm]
theorem cc8 {k m : Nat} {c : Int} (hc : 1 ≤ c) (h : c * pw k ≤ pw m) : k ≤ m := by
 rcases fk1 m k with hlt | hge
 ·exfalso;obtain ⟨j, rfl⟩ : ∃ j, k = (m + 1) + j := ⟨k - (m + 1), by omega⟩;have h1 := cc6 m;have h2 := cc6 j
  have h3 : pw (m + 1) ≤ pw (m + 1) * pw j := by
   have := fu3 h2 (show 0 ≤ pw (m + 1) by have := cc6 (m + 1); omega);rwa [Int.mul_one] at this
  rw [cc7] at h
  have h4 : pw (m + 1) * pw j ≤ c * (pw (m + 1) * pw j) := by
   have := Int.mul_le_mul_of_nonneg_right hc (show 0 ≤ pw (m + 1) * pw j by have := cc6 (m + 1); omega);rwa [Int.one_mul] at this
  simp only [pw] at h3 h4 h;omega
 ·exact hge
theorem cc9 : ∀ (l : List Int) (k : Nat) (x y : Int), l[k]? = some x → wv (l.set k y) = wv l + pw k * (y - x)
 | [], k, x, y, h => by simp at h
 | d :: r, 0, x, y, h => by simp at h; subst h; simp only [List.set_cons_zero, wv, pw]; omega
 | d :: r, k + 1, x, y, h => by
  have ih := cc9 r k x y (by simpa using h);simp only [List.set_cons_succ, wv, ih, pw];rw [Int.mul_add, ← Int.mul_assoc];omega
theorem cd0 : ∀ (l : List Int), wok l → 0 ≤ wv l
 | [], _ => Int.le_refl _
 | d :: r, h => by
  have h1 := (h d (by simp)).1;have h2 := cd0 r fun x hx => h x (by simp [hx])
  simp only [wv];omega
theorem cd1 {l : List Int} (h : wok l) (k : Nat) (y : Int) (hy : 0 ≤ y ∧ y ≤ 999) : wok (l.set k y) := fun d hd => by
 rcases ft7 hd with h1 | h1
 ·exact h d h1
 ·rw [h1]; exact hy
def sgn (n : Int) : Int := if n < 0 then -1 else if n > 0 then 1 else 0
theorem cd2 (n : Int) : Ev E 83 [.int n] (.d (.int (sgn n))) := by
 refine ye1 func83 ntmps83 fun _ _ _=>?_
 repeat' (first | refine yz ?_ | (refine qV rfl ?_ ?_ <;> intro _))
 all_goals (refine congrArg D.int ?_; simp only [decide_eq_true_eq, decide_eq_false_iff_not] at *; unfold sgn; split <;> (try split) <;> omega)
structure TO (a0 b : Int) where
 i : Nat
 a : Int
 out : List Int
 ha : 0 ≤ a
 hb : a * pw i ≤ 1000000000000000
 ok : wok out
 hl : out.length = 14
 hv : wv out + pw i * (a * b) = a0 * b
structure TI (a0 b d a' : Int) (i : Nat) where
 k : Nat
 c : Int
 carry : Int
 out : List Int
 hk : k ≤ 11
 hc : 0 ≤ c
 hcb : ∃ j, k = i + j ∧ c * pw j ≤ 1000000000000000
 hca : 0 ≤ carry ∧ carry ≤ 999
 ok : wok out
 hl : out.length = 14
 hv : wv out + pw k * (d * c + carry) + pw (i + 1) * (a' * b) = a0 * b
theorem cd3 {out : List Int} (hl : out.length = 14) {k : Nat} (hk : k < 14) : ∃ x, out[k]? = some x := ⟨out[k], fk0 (by omega)⟩
theorem cd4 (l : List Int) (k : Nat) (y : Int) : (cc3 l).set k (.int y) = cc3 (l.set k y) := by simp [cc3, List.map_set]
theorem cd5 {out : List Int} {k i : Nat} {x d c carry a' b T : Int} (hx : out[k]? = some x) (h0 : 0 ≤ carry + x + d * (c % 1000)) (hc : 0 ≤ c)
  (hv : wv out + pw k * (d * c + carry) + pw (i + 1) * (a' * b) = T) :
  wv (out.set k ((carry + x + d * (c % 1000)) % 1000)) + pw (k + 1) * (d * (c / 1000) + (carry + x + d * (c % 1000)) / 1000) + pw (i + 1) * (a' * b) = T := by
 rw [cc9 out k x _ hx, ← hv];have e1 : c = c % 1000 + 1000 * (c / 1000) := by omega
 have e2 : carry + x + d * (c % 1000) = (carry + x + d * (c % 1000)) % 1000 + 1000 * ((carry + x + d * (c % 1000)) / 1000) := by omega
 generalize hq : (carry + x + d * (c % 1000)) / 1000 = q at *;generalize hr : (carry + x + d * (c % 1000)) % 1000 = r at *
 have e3 : d * c = d * (c % 1000) + 1000 * (d * (c / 1000)) := by
  rw [← Int.mul_left_comm, ← Int.mul_add, ← e1]
 have e4 : pw (k + 1) * (d * (c / 1000) + q) = pw k * (1000 * (d * (c / 1000)) + 1000 * q) := by
  simp only [pw];rw [Int.mul_comm 1000 (pw k), Int.mul_assoc, Int.mul_add 1000]
 have e5 : pw k * (r - x) + pw k * (1000 * (d * (c / 1000)) + 1000 * q) = pw k * (d * c + carry) := by
  rw [← Int.mul_add];congr 1;omega
 rw [e4];omega
theorem pw5 : pw 5 = 1000000000000000 := by decide
def cd6 : Nat → Int → List Int
 | 0, _ => []
 | k + 1, n => n % 1000 :: cd6 k (n / 1000)
theorem cd7 : ∀ (l : List Int), wok l → cd6 l.length (wv l) = l
 | [], _ => rfl
 | d :: r, h => by
  have hd := h d (by simp);simp only [fk5, cd6, wv];rw [show (d + 1000 * wv r) % 1000 = d from by omega, show (d + 1000 * wv r) / 1000 = wv r from by omega, cd7 r fun x hx => h x (by simp [hx])]
theorem cd8 {l : List Int} {n : Int} (h : wok l) (hl : l.length = 14) (hv : wv l = n) : l = cd6 14 n := by
 rw [← hv, ← hl, cd7 l h]
theorem cd9 : ∀ (k : Nat) (n : Int), (cd6 k n).length = k
 | 0, _ => rfl
 | k + 1, n => by simp [cd6, cd9 k]
theorem ce0 : ∀ (k : Nat) (n : Int), wok (cd6 k n)
 | 0, _ => by intro d hd; simp [cd6] at hd
 | k + 1, n => by
  intro d hd;simp only [cd6, fl1] at hd;rcases hd with h | h
  ·subst h; omega
  ·exact ce0 k _ d h
theorem ce1 : ∀ (k : Nat) (n : Int), 0 ≤ n → n < pw k → wv (cd6 k n) = n
 | 0, n, h0, h1 => by simp only [pw] at h1; simp only [cd6, wv]; omega
 | k + 1, n, h0, h1 => by
  simp only [pw] at h1;simp only [cd6, wv];rw [ce1 k (n / 1000) (by omega) (by omega)];omega
theorem ce2 {a0 b d c carry a' : Int} {k i : Nat} {out : List Int} (ha0 : 0 ≤ a0) (ha1 : a0 ≤ 1000000000000000) (hb0 : 0 ≤ b) (hb1 : b ≤ 1000000000000000) (ok : wok out) (hd : 0 ≤ d) (hc : 0 ≤ c) (hca : carry > 0) (ha' : 0 ≤ a')
  (hv : wv out + pw k * (d * c + carry) + pw (i + 1) * (a' * b) = a0 * b) : k ≤ 10 := by
 have h1 := cd0 out ok;have h2 : 0 ≤ pw (i + 1) * (a' * b) := Int.mul_nonneg (by have := cc6 (i + 1); omega) (Int.mul_nonneg ha' hb0);have h3 : a0 * b ≤ 1000000000000000 * 1000000000000000 := Int.mul_le_mul ha1 hb1 hb0 (by omega);have h4 : 1 ≤ d * c + carry := by have := Int.mul_nonneg hd hc; omega
 refine cc8 h4 ?_;rw [Int.mul_comm, show pw 10 = 1000000000000000 * 1000000000000000 from by decide];omega
theorem ce3 (l : List Int) (k : Nat) (x y : Int) : (cc3 l).set ((k : Int)).toNat (ar1 (.int x) 0 (.int y)) = cc3 (l.set k y) := by
 rw [fl0];exact cd4 l k y
theorem ce4 {a0 b d a' : Int} {i k j : Nat} {c carry x : Int} {out : List Int} (hk : k ≤ 10) (hj : k = i + j) (hcb : c * pw j ≤ 1000000000000000) (hc : 0 ≤ c) (hca : 0 ≤ carry ∧ carry ≤ 999) (ok : wok out) (hl : out.length = 14) (hx : out[k]? = some x) (hxr : 0 ≤ x ∧ x ≤ 999)
  (hp : 0 ≤ d * c.tmod 1000 ∧ d * c.tmod 1000 ≤ 998001) (hv : wv out + pw k * (d * c + carry) + pw (i + 1) * (a' * b) = a0 * b) :
  ∃ y : TI a0 b d a' i, y.k = k + 1 ∧ y.c = c.tdiv 1000 ∧ y.carry = (carry + x + d * c.tmod 1000).tdiv 1000 ∧ y.out = out.set k ((carry + x + d * c.tmod 1000).tmod 1000) := by
 have s1 : c.tmod 1000 = c % 1000 := fq0 hc;have s2 : c.tdiv 1000 = c / 1000 := fr1 hc;have t0 : 0 ≤ carry + x + d * c.tmod 1000 := by omega
 have s3 : (carry + x + d * c.tmod 1000).tmod 1000 = (carry + x + d * c.tmod 1000) % 1000 := fq0 t0;have s4 : (carry + x + d * c.tmod 1000).tdiv 1000 = (carry + x + d * c.tmod 1000) / 1000 := fr1 t0;refine ⟨⟨k + 1, c.tdiv 1000, (carry + x + d * c.tmod 1000).tdiv 1000, out.set k ((carry + x + d * c.tmod 1000).tmod 1000), by omega, by rw [s2]; omega, ⟨j + 1, by omega, ?_⟩, by rw [s4]; omega, cd1 ok k _ (by rw [s3]; omega), by simpa using hl, ?_⟩, rfl, rfl, rfl, rfl⟩
 ·rw [s2];simp only [pw];have h1 : c / 1000 * 1000 ≤ c := by omega
  have := Int.mul_le_mul_of_nonneg_right h1 (show 0 ≤ pw j by have := cc6 j; omega);rw [Int.mul_assoc] at this;omega
 ·rw [s3, s4, s1, s2];rw [s1] at t0;exact cd5 hx t0 hc hv
theorem ce5 (a0 b : Int) (ha0 : 0 ≤ a0) (ha1 : a0 ≤ 1000000000000000) (hb0 : 0 ≤ b) (hb1 : b ≤ 1000000000000000) : Ev E 84 [.int a0, .int b] (.d (.sl (cc3 (cd6 14 (a0 * b))))) := by
 refine ye2 func84 ntmps84 fun _ _ _=>?_
 repeat' (refine yz ?_)
 refine ac7 (α := TO a0 b) (fun p => ⟨[(0, .d (.int p.a)), (1, .d (.int b)), (5, .own 0), (6, .d (.int p.i))], [.row 3 1 (cc3 p.out)]⟩) (fun p => p.a.toNat) ⟨0, a0, List.replicate 14 0, ha0, by simp only [pw]; omega, fun d hd => by rw [(fs8.1 hd).2]; omega, by simp, by simp [pw, wv, List.replicate]⟩ (zle 1) ?_;rintro ⟨i, a, out, ha, hb, ok, hl, hv⟩;dsimp only
 by_cases hpos : a > 0
 ·have hd : decide (a > 0) = true := by simpa using hpos
  have hi5 : i ≤ 5 := cc8 (show 1 ≤ a by omega) (by rw [pw5]; exact hb);have q1 : a.tmod 1000 = a % 1000 := fq0 ha;have q2 : a.tdiv 1000 = a / 1000 := fr1 ha
  have ha2 : a ≤ 1000000000000000 := by
   have := fu3 (cc6 i) ha;rw [Int.mul_one] at this;omega
  have r1 : inR .i64 (a.tmod 1000) := by rw [q1]; simp only [inR]; omega
  have hinit : wv out + pw i * (a.tmod 1000 * b + 0) + pw (i + 1) * (a.tdiv 1000 * b) = a0 * b := by
   rw [← hv, q1, q2, Int.add_zero]
   have e : a * b = a % 1000 * b + 1000 * (a / 1000 * b) := by
    rw [← Int.mul_assoc, ← Int.add_mul, show a % 1000 + 1000 * (a / 1000) = a from by omega]
   rw [e, Int.mul_add];simp only [pw];rw [Int.mul_comm 1000 (pw i), Int.mul_assoc];omega
  repeat' (refine yz ?_)
  refine ac7 (α := TI a0 b (a.tmod 1000) (a.tdiv 1000) i) (fun p => ⟨[(0, .d (.int (a.tdiv 1000))), (1, .d (.int b)), (5, .own 0), (6, .d (.int i)), (7, .d (.int (a.tmod 1000))), (8, .d (.int p.c)), (9, .d (.int p.carry)), (10, .d (.int p.k))], [.row 3 1 (cc3 p.out)]⟩) (fun p => 20 - p.k) ⟨i, b, 0, out, by omega, hb0, ⟨0, rfl, by simp only [pw]; omega⟩, by omega, ok, hl, hinit⟩ (zle 1) ?_;rintro ⟨k, c, carry, o2, hk, hc, ⟨j, hj, hcb⟩, hca, ok2, hl2, hv2⟩;dsimp only;have hd0 : 0 ≤ a.tmod 1000 ∧ a.tmod 1000 ≤ 999 := by rw [q1]; omega
  by_cases hcont : c > 0 ∨ carry > 0
  ·have hk10 : k ≤ 10 := by
    rcases hcont with h | h
    ·have : j ≤ 5 := cc8 (show 1 ≤ c by omega) (by rw [pw5]; exact hcb);omega
    ·exact ce2 ha0 ha1 hb0 hb1 ok2 hd0.1 hc h (by rw [q2]; omega) hv2
   obtain ⟨x, hx⟩ := cd3 hl2 (show k < 14 by omega);have hx' : (cc3 o2)[((k : Int)).toNat]? = some (.int x) := cc4 (by rw [fl0]; exact hx);have hxr := ok2 x (fk4 hx);have hle : (cc3 o2).length = 14 := by rw [cc5]; exact hl2
   have s1 : c.tmod 1000 = c % 1000 := fq0 hc;have s2 : c.tdiv 1000 = c / 1000 := fr1 hc
   have hp : 0 ≤ a.tmod 1000 * c.tmod 1000 ∧ a.tmod 1000 * c.tmod 1000 ≤ 998001 := by
    have h1 : 0 ≤ c.tmod 1000 ∧ c.tmod 1000 ≤ 999 := by rw [s1]; omega
    refine ⟨Int.mul_nonneg hd0.1 h1.1, ?_⟩;have := Int.mul_le_mul hd0.2 h1.2 h1.1 (by omega);omega
   have hc15 : c ≤ 1000000000000000 := by
    have := fu3 (cc6 j) hc;rw [Int.mul_one] at this;omega
   obtain ⟨y, e1, e2, e3, e4⟩ := ce4 hk10 hj hcb hc hca ok2 hl2 hx hxr hp hv2
   by_cases hc0 : c > 0
   ·have g1 : decide (c > 0) = true := by simpa using hc0
    repeat' (first | refine yz ?_ | refine qW (.int x) rfl rfl rfl rfl rfl rfl hx' rfl ?_ | refine qZ (.int x) rfl rfl rfl rfl rfl rfl hx' rfl rfl rfl ?_ | refine yx ?_)
    refine ac1 ?_;refine ⟨y, by omega, ?_⟩;rw [e1, e2, e3, e4, ← ce3 o2 k x];exact (zle 1)
   ·have g1 : decide (c > 0) = false := by simpa using hc0
    have g2 : decide (carry > 0) = true := by simp; omega
    repeat' (first | refine yz ?_ | refine qW (.int x) rfl rfl rfl rfl rfl rfl hx' rfl ?_ | refine qZ (.int x) rfl rfl rfl rfl rfl rfl hx' rfl rfl rfl ?_ | refine yx ?_)
    refine ac1 ?_;refine ⟨y, by omega, ?_⟩;rw [e1, e2, e3, e4, ← ce3 o2 k x];exact (zle 1)
  ·have g1 : decide (c > 0) = false := by simp; omega
   have g2 : decide (carry > 0) = false := by simp; omega
   have hc0 : c = 0 := by omega
   have hca0 : carry = 0 := by omega
   subst hc0 hca0
   repeat' (refine yz ?_)
   refine ac1 ?_;refine ⟨⟨i + 1, a.tdiv 1000, o2, by rw [q2]; omega, ?_, ok2, hl2, ?_⟩, by dsimp only; omega, (zle 1)⟩
   ·rw [q2];simp only [pw];have h1 : a / 1000 * 1000 ≤ a := by omega
    have := Int.mul_le_mul_of_nonneg_right h1 (show 0 ≤ pw i by have := cc6 i; omega);rw [Int.mul_assoc] at this;omega
   ·rw [← hv2, Int.mul_zero, Int.add_zero, Int.mul_zero, Int.add_zero]
 ·have hd : decide (a > 0) = false := by simpa using hpos
  have ha' : a = 0 := by omega
  subst ha';rw [Int.zero_mul, Int.mul_zero, Int.add_zero] at hv;rw [← cd8 ok hl hv]
  repeat' (refine yz ?_)
  refine au6 0 rfl ?_
  repeat' (first | refine qL rfl rfl ?_ | exact zD)
structure SPM (x y : List Int) (s : Int) where
 k : Nat
 carry : Int
 out : List Int
 hk : k ≤ 14
 hca : carry = 0 ∨ carry = s
 ok : wok out
 hl : out.length = 14
 hz : ∀ j, k ≤ j → j < 14 → out[j]? = some 0
 hv : wv out + pw k * (carry + wv (x.drop k) + s * wv (y.drop k)) = wv x + s * wv y
theorem ce6 {x y : List Int} {s : Int} (p : SPM x y s) (hk : p.k < 14) {a b r q : Int} (ha : x[p.k]? = some a) (hb : y[p.k]? = some b) (he : p.carry + a + s * b = r + 1000 * q) (hr : 0 ≤ r ∧ r ≤ 999) (hq : q = 0 ∨ q = s) :
  ∃ p' : SPM x y s, p'.k = p.k + 1 ∧ p'.carry = q ∧ p'.out = p.out.set p.k r := by
 refine ⟨⟨p.k + 1, q, p.out.set p.k r, by omega, hq, cd1 p.ok _ _ hr, by simpa using p.hl, fun j h1 h2 => ?_, ?_⟩, rfl, rfl, rfl⟩
 ·rw [List.getElem?_set_ne (by omega)];exact p.hz j (by omega) h2
 ·rw [cc9 p.out p.k 0 r (p.hz p.k (fk9 _) hk), ← p.hv, bz3 ha, bz3 hb];simp only [wv, pw];have e1 : s * (b + 1000 * wv (List.drop (p.k + 1) y)) = s * b + 1000 * (s * wv (List.drop (p.k + 1) y)) := by rw [Int.mul_add, Int.mul_left_comm]
  have e2 : p.carry + (a + 1000 * wv (List.drop (p.k + 1) x)) + s * (b + 1000 * wv (List.drop (p.k + 1) y)) = r + 1000 * (q + wv (List.drop (p.k + 1) x) + s * wv (List.drop (p.k + 1) y)) := by
   rw [e1];omega
  rw [e2, Int.mul_add (pw p.k) r, ← Int.mul_assoc (pw p.k) 1000, Int.mul_comm (pw p.k) 1000, Int.sub_zero, Int.add_assoc]
theorem ce7 : ∀ (l : List Int), wok l → wv l < pw l.length
 | [], _ => by decide
 | d :: r, h => by
  have h1 := h d (by simp);have h2 := ce7 r fun x hx => h x (by simp [hx])
  simp only [wv, fk5, pw];omega
theorem ce8 {x y : List Int} {s : Int} (p : SPM x y s) (hx : x.length = 14) (hy : y.length = 14) (hk : p.k = 14) (hs : s = 1 ∨ s = -1) (h0 : 0 ≤ wv x + s * wv y) (h1 : wv x + s * wv y < pw 14) : p.out = cd6 14 (wv x + s * wv y) := by
 have hb := ce7 p.out p.ok;rw [p.hl] at hb;have hv := p.hv;rw [hk, fl9 (by omega), fl9 (by omega)] at hv;simp only [wv, Int.mul_zero, Int.add_zero] at hv;have hp : pw 14 = 1000000000000000000000000000000000000000000 := by decide
 rw [hp] at h1 hb hv;have hn := cd0 p.out p.ok;refine cd8 p.ok p.hl ?_;rcases p.hca with h | h <;> rcases hs with h' | h' <;> rw [h] at hv <;> (try rw [h'] at hv h0 h1 ⊢) <;> omega
def spm0 (x y : List Int) (s : Int) : SPM x y s := ⟨0, 0, List.replicate 14 0, by omega, .inl rfl, fun d hd => by rw [(fs8.1 hd).2]; omega, by simp, fun j _ h => by rw [List.getElem?_replicate, if_pos h], by
 have : wv (List.replicate 14 0) = 0 := by decide
 rw [this];simp [pw]⟩
theorem ce9 {x : List Int} (hx : wok x) (hl : x.length = 14) {k : Nat} (hk : k < 14) : ∃ a, x[k]? = some a ∧ (cc3 x)[((k : Int)).toNat]? = some (.int a) ∧ 0 ≤ a ∧ a ≤ 999 := by
 obtain ⟨a, ha⟩ := cd3 hl hk;exact ⟨a, ha, cc4 (by rw [fl0]; exact ha), hx a (fk4 ha)⟩
theorem cf0 (x y : List Int) (hx : wok x) (hy : wok y) (lx : x.length = 14) (ly : y.length = 14) (h1 : wv x + wv y < pw 14) : Ev E 135 [.sl (cc3 x), .sl (cc3 y)] (.d (.sl (cc3 (cd6 14 (wv x + wv y))))) := by
 have zx := cd0 x hx;have zy := cd0 y hy;have hlx : (cc3 x).length = 14 := by rw [cc5]; exact lx
 have hlxz : ((cc3 x).length : Int) = 14 := by rw [hlx]; rfl
 refine ye2 func135 ntmps135 fun _ _ _=>?_
 repeat' (first | refine yz ?_ | (refine qS rfl ⟨rfl, by (show 8 * (cc3 x).length ≤ 281474976710656; omega), by omega⟩ ?_))
 refine ac7 (α := SPM x y 1) (fun p => ⟨[(0, .d (.sl (cc3 x))), (1, .d (.sl (cc3 y))), (5, .own 0), (6, .d (.int p.carry)), (7, .d (.int p.k))], [.row 3 1 (cc3 p.out)]⟩) (fun p => 14 - p.k) (spm0 x y 1) (by rw [hlx]; exact (zle 1)) ?_;intro p;have hkk := p.hk;rcases fk1 p.k 14 with hlt | hge
 ·have hd : decide ((p.k : Int) < ((cc3 x).length : Int)) = true := by rw [hlx]; simp; omega
  obtain ⟨a, a1, a2, a3⟩ := ce9 hx lx hlt;obtain ⟨b, b1, b2, b3⟩ := ce9 hy ly hlt;have c2 : (cc3 p.out)[((p.k : Int)).toNat]? = some (.int 0) := cc4 (by rw [fl0]; exact p.hz p.k (fk9 _) hlt);have hle : (cc3 p.out).length = 14 := by rw [cc5]; exact p.hl
  have hca := p.hca;have t0 : 0 ≤ p.carry + a + b := by omega
  obtain ⟨p', e1, e2, e3⟩ := ce6 p hlt a1 b1 (r := (p.carry + a + b).tmod 1000) (q := (p.carry + a + b).tdiv 1000) (by rw [fq0 t0, fr1 t0]; omega) (by rw [fq0 t0]; omega) (by rw [fr1 t0]; omega)
  repeat' (first | refine yz ?_ | refine yi (.int a) a2 ?_ | refine yi (.int b) b2 ?_ | refine qZ (.int 0) rfl rfl rfl rfl rfl rfl c2 rfl rfl rfl ?_)
  refine ac1 ?_;refine ⟨p', by omega, ?_⟩;rw [e1, e2, e3, ← ce3 p.out p.k 0];exact (zle 1)
 ·have hd : decide ((p.k : Int) < ((cc3 x).length : Int)) = false := by rw [hlx]; simp; omega
  have hend := ce8 p lx ly (by omega) (.inl rfl) (by omega) (by omega);rw [Int.one_mul] at hend;rw [← hend]
  repeat' (refine yz ?_)
  refine au6 0 rfl ?_
  repeat' (first | refine qL rfl rfl ?_ | exact zD)
theorem cf1 (x y : List Int) (hx : wok x) (hy : wok y) (lx : x.length = 14) (ly : y.length = 14) (h1 : wv y ≤ wv x) : Ev E 137 [.sl (cc3 x), .sl (cc3 y)] (.d (.sl (cc3 (cd6 14 (wv x - wv y))))) := by
 have zx := ce7 x hx;rw [lx] at zx;have zy := cd0 y hy;have hlx : (cc3 x).length = 14 := by rw [cc5]; exact lx
 refine ye2 func137 ntmps137 fun _ _ _=>?_
 repeat' (first | refine yz ?_ | (refine qS rfl ⟨rfl, by (show 8 * (cc3 x).length ≤ 281474976710656; omega), by omega⟩ ?_))
 refine ac7 (α := SPM x y (-1)) (fun p => ⟨[(0, .d (.sl (cc3 x))), (1, .d (.sl (cc3 y))), (5, .own 0), (6, .d (.int p.carry)), (7, .d (.int p.k))], [.row 3 1 (cc3 p.out)]⟩) (fun p => 14 - p.k) (spm0 x y (-1)) (by rw [hlx]; exact (zle 1)) ?_;intro p;have hkk := p.hk;rcases fk1 p.k 14 with hlt | hge
 ·have hd : decide ((p.k : Int) < ((cc3 x).length : Int)) = true := by rw [hlx]; simp; omega
  obtain ⟨a, a1, a2, a3⟩ := ce9 hx lx hlt;obtain ⟨b, b1, b2, b3⟩ := ce9 hy ly hlt;have c2 : (cc3 p.out)[((p.k : Int)).toNat]? = some (.int 0) := cc4 (by rw [fl0]; exact p.hz p.k (fk9 _) hlt);have hle : (cc3 p.out).length = 14 := by rw [cc5]; exact p.hl
  have hca := p.hca
  by_cases hneg : p.carry + a - b < 0
  ·have g1 : decide (p.carry + a - b < 0) = true := by simpa using hneg
   obtain ⟨p', e1, e2, e3⟩ := ce6 p hlt a1 b1 (r := p.carry + a - b + 1000) (q := -1) (by omega) (by omega) (by omega)
   repeat' (first | refine yz ?_ | refine yi (.int a) a2 ?_ | refine yi (.int b) b2 ?_ | refine qZ (.int 0) rfl rfl rfl rfl rfl rfl c2 rfl rfl rfl ?_)
   refine ac1 ?_;refine ⟨p', by omega, ?_⟩;rw [e1, e2, e3, ← ce3 p.out p.k 0];exact (zle 1)
  ·have g1 : decide (p.carry + a - b < 0) = false := by simpa using hneg
   obtain ⟨p', e1, e2, e3⟩ := ce6 p hlt a1 b1 (r := p.carry + a - b) (q := 0) (by omega) (by omega) (by omega)
   repeat' (first | refine yz ?_ | refine yi (.int a) a2 ?_ | refine yi (.int b) b2 ?_ | refine qZ (.int 0) rfl rfl rfl rfl rfl rfl c2 rfl rfl rfl ?_)
   refine ac1 ?_;refine ⟨p', by omega, ?_⟩;rw [e1, e2, e3, ← ce3 p.out p.k 0];exact (zle 1)
 ·have hd : decide ((p.k : Int) < ((cc3 x).length : Int)) = false := by rw [hlx]; simp; omega
  have hend := ce8 p lx ly (by omega) (.inr rfl) (by omega) (by omega);rw [show wv x + -1 * wv y = wv x - wv y from by omega] at hend;rw [← hend]
  repeat' (refine yz ?_)
  refine au6 0 rfl ?_
  repeat' (first | refine qL rfl rfl ?_ | exact zD)
theorem cf2 : ∀ (l : List Int) (k : Nat), k ≤ l.length → wv l = wv (l.take k) + pw k * wv (l.drop k)
 | l, 0, _ => by simp [wv, pw]
 | [], k + 1, h => by simp at h
 | d :: r, k + 1, h => by
  simp only [List.take_succ_cons, List.drop_succ_cons, wv, pw];rw [cf2 r k (by simpa using h), Int.mul_add, Int.mul_assoc];omega
theorem cf3 {x y : List Int} (hx : wok x) (lx : x.length = 14) (ly : y.length = 14) (hy : wok y) {k : Nat} (hk : k < 14) {a b : Int} (ha : x[k]? = some a) (hb : y[k]? = some b) (he : x.drop (k + 1) = y.drop (k + 1)) (hab : a < b) : wv x < wv y := by
 rw [cf2 x k (by omega), cf2 y k (by omega), bz3 ha, bz3 hb, he];simp only [wv];have h1 := ce7 (x.take k) fun d hd => hx d (fr4 hd)
 have h2 := cd0 (y.take k) fun d hd => hy d (fr4 hd)
 rw [fm1, lx, Nat.min_eq_left (by omega)] at h1
 have h3 : pw k * (a + 1000 * wv (List.drop (k + 1) y)) + pw k ≤ pw k * (b + 1000 * wv (List.drop (k + 1) y)) := by
  have := fu3 (show a + 1000 * wv (List.drop (k + 1) y) + 1 ≤ b + 1000 * wv (List.drop (k + 1) y) by omega) (show 0 ≤ pw k by have := cc6 k; omega);rw [Int.mul_add _ _ 1, Int.mul_one] at this;exact this
 omega
structure SO (x y : List Int) where
 n : Nat
 hn : n ≤ 14
 he : x.drop n = y.drop n
theorem cf4 (x y : List Int) (hx : wok x) (hy : wok y) (lx : x.length = 14) (ly : y.length = 14) : Ev E 136 [.sl (cc3 x), .sl (cc3 y)] (.d (.int (sgn (wv x - wv y)))) := by
 have hlx : (cc3 x).length = 14 := by rw [cc5]; exact lx
 refine ye2 func136 ntmps136 fun _ _ _=>?_
 repeat' (refine yz ?_)
 refine ac7 (α := SO x y) (fun p => ⟨[(0, .d (.sl (cc3 x))), (1, .d (.sl (cc3 y))), (5, .d (.int ((p.n : Int) - 1)))], []⟩) (fun p => p.n) ⟨14, by omega, by rw [fl9 (by omega), fl9 (by omega)]⟩ (by rw [hlx]; exact (zle 0)) ?_;rintro ⟨n, hn, he⟩;dsimp only
 match n, hn, he with
 | 0, _, he =>
  have g1 : decide (((0 : Nat) : Int) - 1 ≥ 0) = false := by decide
  have : x = y := by simpa using he
  repeat' (refine yz ?_)
  rw [this, Int.sub_self];rfl
 | k + 1, hn, he =>
  have hk : (((k + 1 : Nat) : Int) - 1) = (k : Int) := by omega
  rw [hk];have g1 : decide ((k : Int) ≥ 0) = true := by simp
  obtain ⟨a, a1, a2, a3⟩ := ce9 hx lx (show k < 14 by omega);obtain ⟨b, b1, b2, b3⟩ := ce9 hy ly (show k < 14 by omega)
  by_cases h1 : a < b
  ·have g2 : decide (a < b) = true := by simpa using h1
   have := cf3 hx lx ly hy (by omega) a1 b1 he h1
   repeat' (first | refine yz ?_ | refine yi (.int a) a2 ?_ | refine yi (.int b) b2 ?_)
   unfold sgn;rw [if_pos (by omega)]
  ·have g2 : decide (a < b) = false := by simpa using h1
   by_cases h2 : a > b
   ·have g3 : decide (a > b) = true := by simpa using h2
    have := cf3 hy ly lx hx (by omega) b1 a1 he.symm h2
    repeat' (first | refine yz ?_ | refine yi (.int a) a2 ?_ | refine yi (.int b) b2 ?_)
    unfold sgn;rw [if_neg (by omega), if_pos (by omega)]
   ·have g3 : decide (a > b) = false := by simpa using h2
    repeat' (first | refine yz ?_ | refine yi (.int a) a2 ?_ | refine yi (.int b) b2 ?_)
    refine ac1 ?_;refine ⟨⟨k, by omega, ?_⟩, by dsimp only; omega, (zle 0)⟩;rw [bz3 a1, bz3 b1, he, show a = b from by omega]
theorem cf5 {n : Int} (h : n > 0) : sgn n = 1 := by unfold sgn; rw [if_neg (by omega), if_pos h]
theorem cf6 {n : Int} (h : n < 0) : sgn n = -1 := by unfold sgn; rw [if_pos h]
theorem cf7 : sgn 0 = 0 := rfl
theorem cf8 (A B : Int) (hA : (A.natAbs : Int) ≤ 1000000000000000000000000000000) (hB : (B.natAbs : Int) ≤ 1000000000000000000000000000000) :
  Ev E 82 [.int (sgn A), .sl (cc3 (cd6 14 A.natAbs)), .int (sgn B), .sl (cc3 (cd6 14 B.natAbs))] (.tup [.int (sgn (A + B)), .sl (cc3 (cd6 14 (A + B).natAbs))]) := by
 have hpw : pw 14 = 1000000000000000000000000000000000000000000 := by decide
 have va : wv (cd6 14 A.natAbs) = A.natAbs := ce1 14 _ (by omega) (by omega);have vb : wv (cd6 14 B.natAbs) = B.natAbs := ce1 14 _ (by omega) (by omega);have hp := cf0 (cd6 14 A.natAbs) (cd6 14 B.natAbs) (ce0 _ _) (ce0 _ _) (cd9 _ _) (cd9 _ _) (by rw [va, vb]; omega);have ho := cf4 (cd6 14 A.natAbs) (cd6 14 B.natAbs) (ce0 _ _) (ce0 _ _) (cd9 _ _) (cd9 _ _);have hm1 : (B.natAbs : Int) ≤ A.natAbs → _ := fun h => cf1 (cd6 14 A.natAbs) (cd6 14 B.natAbs) (ce0 _ _) (ce0 _ _) (cd9 _ _) (cd9 _ _) (by rw [va, vb]; exact h)
 have hm2 : (A.natAbs : Int) ≤ B.natAbs → _ := fun h => cf1 (cd6 14 B.natAbs) (cd6 14 A.natAbs) (ce0 _ _) (ce0 _ _) (cd9 _ _) (cd9 _ _) (by rw [va, vb]; exact h)
 have hp0 : Ev E 135 [.sl (List.replicate 14 (.int 0)), .sl (List.replicate 14 (.int 0))] (.d (.sl (cc3 (cd6 14 0)))) := cf0 (List.replicate 14 0) (List.replicate 14 0) (fun d hd => by rw [(fs8.1 hd).2]; omega) (fun d hd => by rw [(fs8.1 hd).2]; omega) rfl rfl (by decide);rw [va, vb] at hp ho;simp only [va, vb] at hm1 hm2
 have same : ∀ s : Int, sgn A = s → (sgn B = s ∨ sgn B = 0) → sgn (A + B) = s → ((A + B).natAbs : Int) = A.natAbs + B.natAbs → Ev E 82 [.int (sgn A), .sl (cc3 (cd6 14 A.natAbs)), .int (sgn B), .sl (cc3 (cd6 14 B.natAbs))] (.tup [.int (sgn (A + B)), .sl (cc3 (cd6 14 (A + B).natAbs))]) := by
  intro s h1 h2 h3 h4;rw [h3, h4, h1]
  cases h5 : s == sgn B with
  | true =>
   refine ap9 func82 ntmps82 rfl rfl fun w0 F0 O => ?_
   repeat' (first | refine yz ?_ | refine yp b135 hp ?_ | refine yx ?_ | exact zL)
  | false =>
   have h6 : (sgn B == 0) = true := by
    rcases h2 with h | h
    ·rw [h] at h5; simp at h5
    ·rw [h]; rfl
   refine ap9 func82 ntmps82 rfl rfl fun w0 F0 O => ?_
   repeat' (first | refine yz ?_ | refine yp b135 hp ?_ | refine yx ?_ | exact zL)
 rcases (show A > 0 ∨ A = 0 ∨ A < 0 by omega) with h1 | h1 | h1 <;> rcases (show B > 0 ∨ B = 0 ∨ B < 0 by omega) with h2 | h2 | h2
 ·exact same 1 (cf5 h1) (.inl (cf5 h2)) (cf5 (by omega)) (by omega)
 ·exact same 1 (cf5 h1) (.inr (by rw [h2]; rfl)) (cf5 (by omega)) (by omega)
 rotate_left
 ·subst h1;have e : ((0 + B).natAbs : Int) = B.natAbs := by omega
  rw [e, Int.zero_add, cf5 h2];refine ap9 func82 ntmps82 rfl rfl fun w0 F0 O => ?_
  repeat' (first | refine yz ?_ | exact zL)
 ·exact same 0 (by rw [h1]; rfl) (.inl (by rw [h2]; rfl)) (by rw [h1, h2]; rfl) (by omega)
 ·subst h1;have e : ((0 + B).natAbs : Int) = B.natAbs := by omega
  rw [e, Int.zero_add, cf6 h2];refine ap9 func82 ntmps82 rfl rfl fun w0 F0 O => ?_
  repeat' (first | refine yz ?_ | exact zL)
 rotate_left
 ·exact same (-1) (cf6 h1) (.inr (by rw [h2]; rfl)) (cf6 (by omega)) (by omega)
 ·exact same (-1) (cf6 h1) (.inl (cf6 h2)) (cf6 (by omega)) (by omega)
 all_goals
  first | rw [cf5 h1] | rw [cf6 h1]
  first | rw [cf5 h2] | rw [cf6 h2]
  rcases (show (A.natAbs : Int) - B.natAbs > 0 ∨ (A.natAbs : Int) - B.natAbs = 0 ∨ (A.natAbs : Int) - B.natAbs < 0 by omega) with h3 | h3 | h3
 ·rw [cf5 h3] at ho;have e : ((A + B).natAbs : Int) = A.natAbs - B.natAbs := by omega
  rw [e, cf5 (show A + B > 0 by omega)];refine ap9 func82 ntmps82 rfl rfl fun w0 F0 O => ?_
  repeat' (first | refine yz ?_ | refine yp bt6 ho ?_ | refine yp b137 (hm1 (by omega)) ?_ | exact zL)
 ·rw [h3, cf7] at ho;have e : A + B = 0 := by omega
  rw [e, cf7];refine ap9 func82 ntmps82 rfl rfl fun w0 F0 O => ?_
  repeat' (first | refine yz ?_ | refine yp bt6 ho ?_ | refine av3 14 rfl rfl rfl rfl rfl rfl rfl rfl rfl rfl (by decide) (by decide) ?_ | refine yp b135 hp0 ?_ | exact zL)
 ·rw [cf6 h3] at ho;have e : ((A + B).natAbs : Int) = B.natAbs - A.natAbs := by omega
  rw [e, cf6 (show A + B < 0 by omega)];refine ap9 func82 ntmps82 rfl rfl fun w0 F0 O => ?_
  repeat' (first | refine yz ?_ | refine yp bt6 ho ?_ | refine yp b137 (hm2 (by omega)) ?_ | exact zL)
 ·rw [cf5 h3] at ho;have e : ((A + B).natAbs : Int) = A.natAbs - B.natAbs := by omega
  rw [e, cf6 (show A + B < 0 by omega)];refine ap9 func82 ntmps82 rfl rfl fun w0 F0 O => ?_
  repeat' (first | refine yz ?_ | refine yp bt6 ho ?_ | refine yp b137 (hm1 (by omega)) ?_ | exact zL)
 ·rw [h3, cf7] at ho;have e : A + B = 0 := by omega
  rw [e, cf7];refine ap9 func82 ntmps82 rfl rfl fun w0 F0 O => ?_
  repeat' (first | refine yz ?_ | refine yp bt6 ho ?_ | refine av3 14 rfl rfl rfl rfl rfl rfl rfl rfl rfl rfl (by decide) (by decide) ?_ | refine yp b135 hp0 ?_ | exact zL)
 ·rw [cf6 h3] at ho;have e : ((A + B).natAbs : Int) = B.natAbs - A.natAbs := by omega
  rw [e, cf5 (show A + B > 0 by omega)];refine ap9 func82 ntmps82 rfl rfl fun w0 F0 O => ?_
  repeat' (first | refine yz ?_ | refine yp bt6 ho ?_ | refine yp b137 (hm2 (by omega)) ?_ | exact zL)
def fzn (n d : Int) : Int := bif bq8 n d then n else 0
def fzd (n d : Int) : Int := bif bq8 n d then d else 1
def cf9 (an ad bn bd : Int) : Int := sgn (fzn an ad * fzd bn bd - fzn bn bd * fzd an ad)
theorem cg0 (n d : Int) : -1000000000000000 ≤ fzn n d ∧ fzn n d ≤ 1000000000000000 ∧ 1 ≤ fzd n d ∧ fzd n d ≤ 1000000000000000 := by
 unfold fzn fzd
 cases h : bq8 n d with
 | false => simp
 | true =>
  simp only [bq8, fk3, decide_eq_true_eq] at h;have := (bq6 n).1 h.2.2.1;simp only [cond_true];omega
theorem cg1 {x y : Int} (hx : -1000000000000000 ≤ x ∧ x ≤ 1000000000000000) (hy : 1 ≤ y ∧ y ≤ 1000000000000000) : ((x * y).natAbs : Int) = x.natAbs * y ∧ ((x * y).natAbs : Int) ≤ 1000000000000000000000000000000 := by
 have e : ((x * y).natAbs : Int) = x.natAbs * y := by rw [Int.natAbs_mul, Int.natCast_mul, Int.natAbs_of_nonneg (show 0 ≤ y by omega)]
 refine ⟨e, ?_⟩;rw [e];have := Int.mul_le_mul (show (x.natAbs : Int) ≤ 1000000000000000 by omega) hy.2 (by omega) (by omega);omega
theorem cg2 {x y : Int} (hy : 1 ≤ y) : sgn (x * y) = sgn x := by
 rcases (show x > 0 ∨ x = 0 ∨ x < 0 by omega) with h | h | h
 ·rw [cf5 h, cf5 (Int.mul_pos h (by omega))]
 ·rw [h, Int.zero_mul]
 ·rw [cf6 h, cf6 (Int.mul_neg_of_neg_of_pos h (by omega))]
theorem cg3 (x : Int) : sgn (-x) = - sgn x := by
 rcases (show x > 0 ∨ x = 0 ∨ x < 0 by omega) with h | h | h
 ·rw [cf5 h, cf6 (by omega)]
 ·rw [h]; rfl
 ·rw [cf6 h, cf5 (by omega)]; rfl
theorem cg4 (x : Int) : -1 ≤ sgn x ∧ sgn x ≤ 1 := by unfold sgn; split <;> (try split) <;> omega
theorem cg5 (an ad bn bd : Int) : Ev E 44 [.agg [.int an, .int ad], .agg [.int bn, .int bd]] (.d (.int (cf9 an ad bn bd))) := by
 have h1 := cg0 an ad;have h2 := cg0 bn bd;have hva := bx0 an ad;have hvb := bx0 bn bd
 have key : ∀ n d n' d' : Int, (-1000000000000000 ≤ n ∧ n ≤ 1000000000000000) → (1 ≤ d ∧ d ≤ 1000000000000000) → (-1000000000000000 ≤ n' ∧ n' ≤ 1000000000000000) → (1 ≤ d' ∧ d' ≤ 1000000000000000) →
   Ev E 82 [.int (sgn n), .sl (cc3 (cd6 14 (n.natAbs * d'))), .int (0 - sgn n'), .sl (cc3 (cd6 14 (n'.natAbs * d)))] (.tup [.int (sgn (n * d' - n' * d)), .sl (cc3 (cd6 14 (n * d' - n' * d).natAbs))]) := by
  intro n d n' d' hn hd hn' hd';obtain ⟨m1, m2⟩ := cg1 hn hd';obtain ⟨m3, m4⟩ := cg1 hn' hd;have := cf8 (n * d') (-(n' * d)) m2 (by rw [Int.natAbs_neg]; exact m4);rw [Int.natAbs_neg, m1, m3, cg2 hd'.1, cg3, cg2 hd.1, ← Int.sub_eq_add_neg] at this;rw [show 0 - sgn n' = - sgn n' by omega];exact this
 have hs := key (fzn an ad) (fzd an ad) (fzn bn bd) (fzd bn bd) (by omega) (by omega) (by omega) (by omega);have ht1 := ce5 (fzn an ad).natAbs (fzd bn bd) (by omega) (by omega) (by omega) (by omega);have ht2 := ce5 (fzn bn bd).natAbs (fzd an ad) (by omega) (by omega) (by omega) (by omega);have hz1 := bw4 (fzn an ad) (by omega);have hz2 := bw4 (fzn bn bd) (by omega);have hg1 := cd2 (fzn an ad);have hg2 := cd2 (fzn bn bd);have hgr := cg4 (fzn bn bd);unfold cf9;generalize hres : (fzn an ad * fzd bn bd - fzn bn bd * fzd an ad) = res at *;clear hres key
 cases ha : bq8 an ad <;> cases hb : bq8 bn bd
 all_goals
  rw [ha] at hva;rw [hb] at hvb;simp only [fzn, fzd, ha, hb, cond_true, cond_false] at hs ht1 ht2 hz1 hz2 hg1 hg2 hgr h1 h2;refine ye2 func44 ntmps44 fun _ _ _=>?_
  repeat' (first | refine yz ?_ | refine yp b81 hva ?_ | refine yp b81 hvb ?_ | refine yp b83 hg1 ?_ | refine yp b83 hg2 ?_ | refine yp b85 hz1 ?_ | refine yp b85 hz2 ?_ | refine yp b84 ht1 ?_ | refine yp b84 ht2 ?_ | refine yp b82 hs ?_ | exact zD)
attribute [local irreducible] aw0
theorem cg6 (n : Int) : Ev E 339 [.int n] (.d (.imm (.int .u64 (n.natAbs : Int)))) := Ev.fit fun hfit => by
 have hn := (hfit (.int n) (by simp)).int;simp only [inR] at hn
 by_cases h : n < 0
 ·have g1 : decide (n < 0) = true := by simpa using h
  have w1 : IntKind.u64.wrap n = n + 18446744073709551616 := by simp [IntKind.wrap, IntKind.signed, IntKind.bits]; omega
  have w2 : IntKind.u64.wrap (0 - (n + 18446744073709551616)) = n.natAbs := by simp [IntKind.wrap, IntKind.signed, IntKind.bits]; omega
  refine ye1 func339 ntmps339 fun _ _ _=>?_
  repeat' (first | refine yz ?_ | (refine aw2 _ rfl rfl rfl rfl rfl rfl rfl w1 ?_) | (refine aw3 _ rfl rfl rfl rfl rfl w2 ?_) | exact zD)
 ·have g1 : decide (n < 0) = false := by simpa using h
  have e : (n.natAbs : Int) = n := by omega
  rw [e];refine ye1 func339 ntmps339 fun _ _ _=>?_
  repeat' (first | refine yz ?_ | exact zD)
def cg7 (neg : Bool) (m : Nat) : D := .agg [.imm (.bool neg), .imm (.int .u64 ((m / 18446744073709551616 : Nat) : Int)), .imm (.int .u64 ((m % 18446744073709551616 : Nat) : Int))]
def sv (neg : Bool) (m : Nat) : Int := bif neg then -(m : Int) else m
theorem cg8 (x y : Nat) (hx : x < 18446744073709551616) (hy : y < 18446744073709551616) : Ev E 338 [.imm (.int .u64 (x : Int)), .imm (.int .u64 (y : Int))] (.tup [.imm (.int .u64 ((x * y / 18446744073709551616 : Nat) : Int)), .imm (.int .u64 ((x * y % 18446744073709551616 : Nat) : Int))]) := by
 refine Ev.mk fun w F vs hF hG hl hr => ?_
 match vs, hl with
 | [v, u], _ =>
  obtain ⟨rfl, -⟩ := Rd.imm_inv (hr 0 _ v rfl rfl);obtain ⟨rfl, -⟩ := Rd.imm_inv (hr 1 _ u rfl rfl);refine (Tryz.bits_Mul64 x y hx hy w).mono ?_;rintro e w' ⟨rfl, rfl⟩;refine ⟨_, F, rfl, Ext.refl hF, [_, _], rfl, rfl, fun i d v hd hv => ?_⟩
  have hq : x * y / 18446744073709551616 < 18446744073709551616 := by
   have : x * y < 18446744073709551616 * 18446744073709551616 := Nat.mul_lt_mul_of_lt_of_le hx (Nat.le_of_lt hy) (by omega);exact ft6 this
  have hm : x * y % 18446744073709551616 < 18446744073709551616 := fp2 _ (by omega)
  match i with
  | 0 => simp at hd hv; subst hd hv; exact Rd.imm _ (af2 (k := .u64) (by simp only [inR]; omega))
  | 1 => simp at hd hv; subst hd hv; exact Rd.imm _ (af2 (k := .u64) (by simp only [inR]; omega))
  | i + 2 => simp at hd
theorem cg9 (a b : Int) : Ev E 300 [.int a, .int b] (.d (cg7 (!(decide (a < 0) == decide (b < 0))) (a.natAbs * b.natAbs))) := Ev.fit fun hfit => by
 have ha := (hfit (.int a) (by simp)).int;have hb := (hfit (.int b) (by simp)).int;simp only [inR] at ha hb;have h1 := cg6 a;have h2 := cg6 b;have h3 := cg8 a.natAbs b.natAbs (by omega) (by omega);refine ye2 func300 ntmps300 fun _ _ _=>?_
 repeat' (first | refine yz ?_ | refine yp b339 h1 ?_ | refine yp b339 h2 ?_ | refine yp b338 h3 ?_ | exact zD)
theorem ch0 (p q : Bool) (m n : Nat) : Ev E 341 [cg7 p m, cg7 q n] (.d (.bool (decide (m < n)))) := by
 have e1 : decide (((m / 18446744073709551616 : Nat) : Int) < ((n / 18446744073709551616 : Nat) : Int)) = decide (m / 18446744073709551616 < n / 18446744073709551616) := by simp only [decide_eq_decide]; omega
 rcases Nat.lt_trichotomy (m / 18446744073709551616) (n / 18446744073709551616) with h | h | h
 ·have g1 : decide (((m / 18446744073709551616 : Nat) : Int) < ((n / 18446744073709551616 : Nat) : Int)) = true := by simp only [decide_eq_true_eq]; omega
  have g3 : decide (m < n) = true := by simp only [decide_eq_true_eq]; omega
  rw [g3];refine ye2 func341 ntmps341 fun _ _ _=>?_
  repeat' (first | refine yz ?_ | refine yx ?_ | exact zD)
 ·have g1 : decide (((m / 18446744073709551616 : Nat) : Int) < ((n / 18446744073709551616 : Nat) : Int)) = false := by simp only [decide_eq_false_iff_not]; omega
  have g2 : (((m / 18446744073709551616 : Nat) : Int) == ((n / 18446744073709551616 : Nat) : Int)) = true := by simp only [beq_iff_eq]; omega
  have g3 : decide (m < n) = decide (((m % 18446744073709551616 : Nat) : Int) < ((n % 18446744073709551616 : Nat) : Int)) := by simp only [decide_eq_decide]; omega
  rw [g3];refine ye2 func341 ntmps341 fun _ _ _=>?_
  repeat' (first | refine yz ?_ | refine yx ?_ | exact zD)
 ·have g1 : decide (((m / 18446744073709551616 : Nat) : Int) < ((n / 18446744073709551616 : Nat) : Int)) = false := by simp only [decide_eq_false_iff_not]; omega
  have g2 : (((m / 18446744073709551616 : Nat) : Int) == ((n / 18446744073709551616 : Nat) : Int)) = false := by simp only [beq_eq_false_iff_ne]; omega
  have g3 : decide (m < n) = false := by simp only [decide_eq_false_iff_not]; omega
  rw [g3];refine ye2 func341 ntmps341 fun _ _ _=>?_
  repeat' (first | refine yz ?_ | refine yx ?_ | exact zD)
theorem ch1 (x y c : Nat) (hc : c ≤ 1) (w : World) : (callFunc 340 [Value.int .u64 (x : Int), .int .u64 (y : Int), .int .u64 (c : Int)].toArray).run E.P w =
  .ok (.value (.tuple #[.int .u64 (((x + y + c) % 18446744073709551616 : Nat) : Int), .int .u64 (((x + y + c) / 18446744073709551616 : Nat) : Int)])) w := by
 have := run_callFunc_extern func340 (by kernel_rfl) (by kernel_rfl) (by kernel_rfl) (e := add64Entry) (by kernel_rfl) #[.int .u64 (x : Int), .int .u64 (y : Int), .int .u64 (c : Int)] w;refine this.trans ?_;rw [run_add64 x y c (by omega) (by omega) (by omega) (by omega)];simp only [Result.andThen];congr 5 <;> omega
theorem ch2 (x y b : Nat) (hb : b ≤ 1) (w : World) : (callFunc 342 [Value.int .u64 (x : Int), .int .u64 (y : Int), .int .u64 (b : Int)].toArray).run E.P w =
  .ok (.value (.tuple #[.int .u64 (((x + 18446744073709551616 - y - b) % 18446744073709551616 : Nat) : Int), .int .u64 ((if x < y + b then 1 else 0 : Nat) : Int)])) w := by
 have := run_callFunc_extern func342 (by kernel_rfl) (by kernel_rfl) (by kernel_rfl) (e := sub64Entry) (by kernel_rfl) #[.int .u64 (x : Int), .int .u64 (y : Int), .int .u64 (b : Int)] w;refine this.trans ?_;rw [run_sub64 x y b hb];rfl
theorem ch3 {a b : Nat} (ha : a < 18446744073709551616) (hb : b < 18446744073709551616) (w : World) (F : Nat → Prop) : RdX w F [] (.tup [.imm (.int .u64 (a : Int)), .imm (.int .u64 (b : Int))]) (.tuple #[.int .u64 (a : Int), .int .u64 (b : Int)]) := by
 refine ⟨[_, _], rfl, rfl, fun i d v hd hv => ?_⟩
 match i with
 | 0 => simp at hd hv; subst hd hv; exact Rd.imm _ (af2 (k := .u64) (by simp only [inR]; omega))
 | 1 => simp at hd hv; subst hd hv; exact Rd.imm _ (af2 (k := .u64) (by simp only [inR]; omega))
 | i + 2 => simp at hd
def ch4 (p q : Bool) (m n : Nat) : Bool × Nat := bif p == q then (p, m + n) else (bif decide (m < n) then (q, n - m) else (p, m - n))
theorem ch5 (p q : Bool) (m n : Nat) : sv (ch4 p q m n).1 (ch4 p q m n).2 = sv p m + sv q n := by
 cases p <;> cases q <;> (simp only [ch4, sv]; cases h : decide (m < n) <;> simp at h <;> simp <;> omega)
theorem ch6 (p q : Bool) (m n : Nat) : (ch4 p q m n).2 ≤ m + n := by
 unfold ch4
 cases p == q <;> cases decide (m < n) <;> simp <;> omega
theorem ch7 (p q : Bool) (m n : Nat) (hm : m ≤ 1000000000000000000000000000000) (hn : n ≤ 1000000000000000000000000000000) : Ev E 301 [cg7 p m, cg7 q n] (.d (cg7 (ch4 p q m n).1 (ch4 p q m n).2)) := by
 cases hpq : p == q with
 | true =>
  have e : ch4 p q m n = (p, m + n) := by unfold ch4; rw [hpq]; rfl
  rw [e];have a1 := ch1 (m % 18446744073709551616) (n % 18446744073709551616) 0 (by omega);have a2 := ch1 (m / 18446744073709551616) (n / 18446744073709551616) ((m % 18446744073709551616 + n % 18446744073709551616 + 0) / 18446744073709551616) (by omega);have r1 := ch3 (a := (m % 18446744073709551616 + n % 18446744073709551616 + 0) % 18446744073709551616) (b := (m % 18446744073709551616 + n % 18446744073709551616 + 0) / 18446744073709551616) (by omega) (by omega);have r2 := ch3 (a := (m / 18446744073709551616 + n / 18446744073709551616 + (m % 18446744073709551616 + n % 18446744073709551616 + 0) / 18446744073709551616) % 18446744073709551616) (b := (m / 18446744073709551616 + n / 18446744073709551616 + (m % 18446744073709551616 + n % 18446744073709551616 + 0) / 18446744073709551616) / 18446744073709551616) (by omega) (by omega);have d1 : (m / 18446744073709551616 + n / 18446744073709551616 + (m % 18446744073709551616 + n % 18446744073709551616 + 0) / 18446744073709551616) % 18446744073709551616 = (m + n) / 18446744073709551616 := by omega
  have d2 : (m % 18446744073709551616 + n % 18446744073709551616 + 0) % 18446744073709551616 = (m + n) % 18446744073709551616 := by omega
  unfold cg7;rw [← d1, ← d2];clear d1 d2 e;replace a1 := aw0.mk a1 r1;replace a2 := aw0.mk a2 r2;clear r1 r2;generalize m / 18446744073709551616 = mh at *;generalize m % 18446744073709551616 = ml at *;generalize n / 18446744073709551616 = nh at *;generalize n % 18446744073709551616 = nl at *;generalize (ml + nl + 0) % 18446744073709551616 = lo at *;generalize (ml + nl + 0) / 18446744073709551616 = c1 at *;generalize (mh + nh + c1) % 18446744073709551616 = hi at *;generalize (mh + nh + c1) / 18446744073709551616 = c2 at *;refine ye2 func301 ntmps301 fun _ _ _=>?_
  repeat' (first | refine yz ?_ | refine aw6 rfl rfl rfl rfl rfl a1 rfl ?_ | refine aw6 rfl rfl rfl rfl rfl a2 rfl ?_ | exact zD)
 | false =>
  have hl := ch0 p q m n;have key : ∀ (p' q' : Bool) (m' n' : Nat), n' ≤ m' → m' ≤ 1000000000000000000000000000000 → True := fun _ _ _ _ _ _ => trivial
  cases hlt : decide (m < n) with
  | true =>
   have e : ch4 p q m n = (q, n - m) := by unfold ch4; rw [hpq, hlt]; rfl
   rw [e];rw [hlt] at hl;have hmn : m < n := of_decide_eq_true hlt;have a1 := ch2 (n % 18446744073709551616) (m % 18446744073709551616) 0 (by omega);have a2 := ch2 (n / 18446744073709551616) (m / 18446744073709551616) (if n % 18446744073709551616 < m % 18446744073709551616 + 0 then 1 else 0) (by split <;> omega);have r1 := ch3 (a := (n % 18446744073709551616 + 18446744073709551616 - m % 18446744073709551616 - 0) % 18446744073709551616) (b := if n % 18446744073709551616 < m % 18446744073709551616 + 0 then 1 else 0) (by omega) (by split <;> omega);have r2 := ch3 (a := (n / 18446744073709551616 + 18446744073709551616 - m / 18446744073709551616 - (if n % 18446744073709551616 < m % 18446744073709551616 + 0 then 1 else 0)) % 18446744073709551616) (b := if n / 18446744073709551616 < m / 18446744073709551616 + (if n % 18446744073709551616 < m % 18446744073709551616 + 0 then 1 else 0) then 1 else 0) (by omega) (by split <;> split <;> omega);have d1 : (n / 18446744073709551616 + 18446744073709551616 - m / 18446744073709551616 - (if n % 18446744073709551616 < m % 18446744073709551616 + 0 then 1 else 0)) % 18446744073709551616 = (n - m) / 18446744073709551616 := by split <;> omega
   have d2 : (n % 18446744073709551616 + 18446744073709551616 - m % 18446744073709551616 - 0) % 18446744073709551616 = (n - m) % 18446744073709551616 := by omega
   unfold cg7 at *;rw [← d1, ← d2];clear d1 d2 e;replace a1 := aw0.mk a1 r1;replace a2 := aw0.mk a2 r2;clear r1 r2;generalize m / 18446744073709551616 = mh at *;generalize m % 18446744073709551616 = ml at *;generalize n / 18446744073709551616 = nh at *;generalize n % 18446744073709551616 = nl at *;generalize (if nl < ml + 0 then 1 else 0 : Nat) = bo at *;generalize (nl + 18446744073709551616 - ml - 0) % 18446744073709551616 = lo at *;generalize (nh + 18446744073709551616 - mh - bo) % 18446744073709551616 = hi at *;generalize (if nh < mh + bo then 1 else 0 : Nat) = c2 at *;refine ye2 func301 ntmps301 fun _ _ _=>?_
   repeat' (first | refine yz ?_ | refine yp b341 hl ?_ | refine aw6 rfl rfl rfl rfl rfl a1 rfl ?_ | refine aw6 rfl rfl rfl rfl rfl a2 rfl ?_ | exact zD)
  | false =>
   have e : ch4 p q m n = (p, m - n) := by unfold ch4; rw [hpq, hlt]; rfl
   rw [e];rw [hlt] at hl;have hmn : ¬ m < n := of_decide_eq_false hlt;have a1 := ch2 (m % 18446744073709551616) (n % 18446744073709551616) 0 (by omega);have a2 := ch2 (m / 18446744073709551616) (n / 18446744073709551616) (if m % 18446744073709551616 < n % 18446744073709551616 + 0 then 1 else 0) (by split <;> omega);have r1 := ch3 (a := (m % 18446744073709551616 + 18446744073709551616 - n % 18446744073709551616 - 0) % 18446744073709551616) (b := if m % 18446744073709551616 < n % 18446744073709551616 + 0 then 1 else 0) (by omega) (by split <;> omega);have r2 := ch3 (a := (m / 18446744073709551616 + 18446744073709551616 - n / 18446744073709551616 - (if m % 18446744073709551616 < n % 18446744073709551616 + 0 then 1 else 0)) % 18446744073709551616) (b := if m / 18446744073709551616 < n / 18446744073709551616 + (if m % 18446744073709551616 < n % 18446744073709551616 + 0 then 1 else 0) then 1 else 0) (by omega) (by split <;> split <;> omega);have d1 : (m / 18446744073709551616 + 18446744073709551616 - n / 18446744073709551616 - (if m % 18446744073709551616 < n % 18446744073709551616 + 0 then 1 else 0)) % 18446744073709551616 = (m - n) / 18446744073709551616 := by split <;> omega
   have d2 : (m % 18446744073709551616 + 18446744073709551616 - n % 18446744073709551616 - 0) % 18446744073709551616 = (m - n) % 18446744073709551616 := by omega
   unfold cg7 at *;rw [← d1, ← d2];clear d1 d2 e;replace a1 := aw0.mk a1 r1;replace a2 := aw0.mk a2 r2;clear r1 r2;generalize m / 18446744073709551616 = mh at *;generalize m % 18446744073709551616 = ml at *;generalize n / 18446744073709551616 = nh at *;generalize n % 18446744073709551616 = nl at *;generalize (if ml < nl + 0 then 1 else 0 : Nat) = bo at *;generalize (ml + 18446744073709551616 - nl - 0) % 18446744073709551616 = lo at *;generalize (mh + 18446744073709551616 - nh - bo) % 18446744073709551616 = hi at *;generalize (if mh < nh + bo then 1 else 0 : Nat) = c2 at *;refine ye2 func301 ntmps301 fun _ _ _=>?_
   repeat' (first | refine yz ?_ | refine yp b341 hl ?_ | refine aw6 rfl rfl rfl rfl rfl a1 rfl ?_ | refine aw6 rfl rfl rfl rfl rfl a2 rfl ?_ | exact zD)
theorem ch8 (t : TypeId) (a b : Nat) (ha : a < 18446744073709551616) (hb : b < 18446744073709551616) (w : World) : (binOp .or t (.int .u64 (a : Int)) (.int .u64 (b : Int))).run E.P w = .ok (.int .u64 ((a ||| b : Nat) : Int)) w := by
 have h1 : BitVec.ofInt 64 (a : Int) = BitVec.ofNat 64 a := by simp
 have h2 : BitVec.ofInt 64 (b : Int) = BitVec.ofNat 64 b := by simp
 have hor : a ||| b < 18446744073709551616 := Nat.or_lt_two_pow (n := 64) ha hb
 have h3 : (BitVec.ofNat 64 a ||| BitVec.ofNat 64 b).toNat = a ||| b := by
  rw [BitVec.toNat_or, BitVec.toNat_ofNat, BitVec.toNat_ofNat, fp5 ha, fp5 hb]
 have hw : IntKind.u64.wrap ((a ||| b : Nat) : Int) = ((a ||| b : Nat) : Int) := af4 (k := .u64) (by simp only [inR]; omega);show (Op.intBits .or .u64 (a : Int) (b : Int)).run E.P w = _;simp only [Op.intBits];show (pure (Value.int .u64 (IntKind.u64.wrap (BitVec.ofInt 64 (a : Int) ||| BitVec.ofInt 64 (b : Int)).toNat)) : Sem Value).run E.P w = _;rw [h1, h2, h3, hw];rfl
theorem ch9 (p : Bool) (m : Nat) (hm : m < 18446744073709551616 * 18446744073709551616) : Ev E 302 [cg7 p m] (.d (.int (sgn (sv p m)))) := by
 have hr := ch8 271 (m / 18446744073709551616) (m % 18446744073709551616) (ft6 hm) (fp2 _ (by omega));have hor : m / 18446744073709551616 ||| m % 18446744073709551616 < 18446744073709551616 := Nat.or_lt_two_pow (n := 64) (ft6 hm) (fp2 _ (by omega));have hok : Go.Abs.okV (.int .u64 ((m / 18446744073709551616 ||| m % 18446744073709551616 : Nat) : Int)) = true := af2 (k := .u64) (by simp only [inR]; omega)
 by_cases h0 : m = 0
 ·subst h0;have e : sgn (sv p 0) = 0 := by cases p <;> rfl
  rw [e];refine ye1 func302 ntmps302 fun _ _ _=>?_
  repeat' (first | refine yz ?_ | (refine aw4 _ rfl rfl rfl rfl rfl rfl hr hok ?_) | exact zD)
 ·have g1 : (((m / 18446744073709551616 ||| m % 18446744073709551616 : Nat) : Int) == 0) = false := by
   rw [beq_eq_false_iff_ne];intro h;have h' : m / 18446744073709551616 ||| m % 18446744073709551616 = 0 := by omega
   rw [Nat.or_eq_zero_iff] at h';omega
  cases p with
  | true =>
   rw [cf6 (show sv true m < 0 by simp only [sv, cond_true]; omega)];refine ye1 func302 ntmps302 fun _ _ _=>?_
   repeat' (first | refine yz ?_ | (refine aw4 _ rfl rfl rfl rfl rfl rfl hr hok ?_) | exact zD)
  | false =>
   rw [cf5 (show sv false m > 0 by simp only [sv, cond_false]; omega)];refine ye1 func302 ntmps302 fun _ _ _=>?_
   repeat' (first | refine yz ?_ | (refine aw4 _ rfl rfl rfl rfl rfl rfl hr hok ?_) | exact zD)
theorem ci0 (a b : Int) : sv (!(decide (a < 0) == decide (b < 0))) (a.natAbs * b.natAbs) = a * b := by
 have e : ((a.natAbs * b.natAbs : Nat) : Int) = (a.natAbs : Int) * b.natAbs := Int.natCast_mul _ _
 by_cases ha : a < 0 <;> by_cases hb : b < 0
 ·rw [show decide (a < 0) = true by simpa using ha, show decide (b < 0) = true by simpa using hb];show ((a.natAbs * b.natAbs : Nat) : Int) = _;rw [e, show (a.natAbs : Int) = -a by omega, show (b.natAbs : Int) = -b by omega, Int.neg_mul_neg]
 ·rw [show decide (a < 0) = true by simpa using ha, show decide (b < 0) = false by simpa using hb];show -((a.natAbs * b.natAbs : Nat) : Int) = _;rw [e, show (a.natAbs : Int) = -a by omega, show (b.natAbs : Int) = b by omega, Int.neg_mul, Int.neg_neg]
 ·rw [show decide (a < 0) = false by simpa using ha, show decide (b < 0) = true by simpa using hb];show -((a.natAbs * b.natAbs : Nat) : Int) = _;rw [e, show (a.natAbs : Int) = a by omega, show (b.natAbs : Int) = -b by omega, Int.mul_neg, Int.neg_neg]
 ·rw [show decide (a < 0) = false by simpa using ha, show decide (b < 0) = false by simpa using hb];show ((a.natAbs * b.natAbs : Nat) : Int) = _;rw [e, show (a.natAbs : Int) = a by omega, show (b.natAbs : Int) = b by omega]
theorem ci1 {a b : Int} (ha : -1000000000000000 ≤ a ∧ a ≤ 1000000000000000) (hb : -1000000000000000 ≤ b ∧ b ≤ 1000000000000000) : a.natAbs * b.natAbs ≤ 1000000000000000000000000000000 := by
 have := Nat.mul_le_mul (show a.natAbs ≤ 1000000000000000 by omega) (show b.natAbs ≤ 1000000000000000 by omega);omega
theorem ci2 (an ad bn bd : Int) : Ev E 307 [.agg [.int an, .int ad], .agg [.int bn, .int bd]] (.d (.int (cf9 an ad bn bd))) := by
 have h1 := cg0 an ad;have h2 := cg0 bn bd;have hva := bw9 an ad;have hvb := bw9 bn bd
 have key : ∀ n d n' d' : Int, (-1000000000000000 ≤ n ∧ n ≤ 1000000000000000) → (1 ≤ d ∧ d ≤ 1000000000000000) → (-1000000000000000 ≤ n' ∧ n' ≤ 1000000000000000) → (1 ≤ d' ∧ d' ≤ 1000000000000000) →
   ∃ (p q r : Bool) (m m' m'' : Nat), Ev E 300 [.int n, .int d'] (.d (cg7 p m)) ∧ Ev E 300 [.int (0 - n'), .int d] (.d (cg7 q m')) ∧ Ev E 301 [cg7 p m, cg7 q m'] (.d (cg7 r m'')) ∧ Ev E 302 [cg7 r m''] (.d (.int (sgn (n * d' - n' * d)))) := by
  intro n d n' d' hn hd hn' hd';have b1 := ci1 (a := n) (b := d') hn (by omega);have b2 := ci1 (a := 0 - n') (b := d) (by omega) (by omega);refine ⟨_, _, _, _, _, _, cg9 n d', cg9 (0 - n') d, ch7 _ _ _ _ b1 b2, ?_⟩;have hle := ch6 (!(decide (n < 0) == decide (d' < 0))) (!(decide (0 - n' < 0) == decide (d < 0))) (n.natAbs * d'.natAbs) ((0 - n').natAbs * d.natAbs);have hs := ch9 (ch4 (!(decide (n < 0) == decide (d' < 0))) (!(decide (0 - n' < 0) == decide (d < 0))) (n.natAbs * d'.natAbs) ((0 - n').natAbs * d.natAbs)).1 _ (ft0 hle (by omega));rw [ch5, ci0, ci0, Int.zero_sub, Int.neg_mul, ← Int.sub_eq_add_neg, ← Int.zero_sub n'] at hs;exact hs
 obtain ⟨p, q, r, m, m', m'', e1, e2, e3, e4⟩ := key (fzn an ad) (fzd an ad) (fzn bn bd) (fzd bn bd) (by omega) (by omega) (by omega) (by omega);unfold cf9;generalize hres : (fzn an ad * fzd bn bd - fzn bn bd * fzd an ad) = res at *;clear hres key
 cases ha : bq8 an ad <;> cases hb : bq8 bn bd
 all_goals
  rw [ha] at hva;rw [hb] at hvb;simp only [fzn, fzd, ha, hb, cond_true, cond_false] at e1 e2 h1 h2;refine ye2 func307 ntmps307 fun _ _ _=>?_
  repeat' (first | refine yz ?_ | refine yp bv3 hva ?_ | refine yp bv3 hvb ?_ | refine qP (d := 17) rfl rfl rfl rfl rfl rfl bv9 (e1) ?_ | refine yp bv9 e2 ?_ | refine yp b301 e3 ?_ | refine yp b302 e4 ?_ | exact zD)
end Go.Proofs.YtaiiailapeffgaaGreatDoor
namespace Go.Proofs.YtaiiailapeffgaaGreatDoor
set_option maxRecDepth 4000
open Go Go.Abs Go.Val Go.RowKit Go.Proofs.Tryz
def bs (l : List UInt8) : ByteArray := ⟨l.toArray⟩
theorem ci3 (a b : List UInt8) : bs a ++ bs b = bs (a ++ b) := by
 apply ByteArray.ext;simp [bs, ByteArray.data_append]
theorem ci4 (l : List UInt8) : (bs l).size = l.length := by simp [bs, ByteArray.size]
theorem ci5 (l : List UInt8) : (bs l).data.toList = l := by simp [bs]
def dd (u : Nat) : List UInt8 := if u = 0 then [] else Lib.decDigits u
end Go.Proofs.YtaiiailapeffgaaGreatDoor
namespace Go.Proofs.YtaiiailapeffgaaGreatDoor
open Go Go.Abs Go.Val Go.RowKit Go.Proofs.Tryz
attribute [local irreducible] go SGo an2 Ev aw0
def dbl (l : List UInt8) : List UInt8 := l.flatMap fun b => bif b == 39 then [39, 39] else [b]
theorem ci6 : ∀ l : List UInt8, (dbl l).length ≤ 2 * l.length
 | [] => by simp [dbl]
 | b :: r => by
  have := ci6 r;have e : dbl (b :: r) = (bif b == 39 then [39, 39] else [b]) ++ dbl r := rfl;rw [e, fl8, fk5]
  cases b == 39 <;> simp <;> omega
theorem ci7 : ∀ l : List UInt8, Lib.replaceK [39] [39, 39] (Lib.count l [39]) l = dbl l
 | [] => rfl
 | b :: l => by
  have ih := ci7 l
  by_cases hb : b = 39
  ·subst hb;have hidx : Lib.index (39 :: l) [39] = ((0 : Nat) : Int) := rfl;rw [Lib.count_cons_eq, Nat.add_comm, Lib.replaceK_hit _ _ _ _ _ hidx];show [] ++ [39, 39] ++ Lib.replaceK [39] [39, 39] (Lib.count l [39]) l = _;rw [ih];rfl
  ·have e : dbl (b :: l) = b :: dbl l := by
    show (bif b == 39 then [39, 39] else [b]) ++ dbl l = _;rw [beq_eq_false_iff_ne.2 hb];rfl
   rw [Lib.count_cons_ne b 39 l hb, e]
   cases hc : Lib.count l [39] with
   | zero =>
    rw [hc] at ih;have : l = dbl l := ih;show b :: l = b :: dbl l;rw [← this]
   | succ k =>
    obtain ⟨i, hi⟩ := Lib.index_of_count (s := l) (old := [39]) (by omega)
    have hidx : Lib.index (b :: l) [39] = ((i + 1 : Nat) : Int) := by
     have hp : ([39] : List UInt8).isPrefixOf (b :: l) = false := by
      simp [List.isPrefixOf];exact fun h => hb h.symm
     rw [Lib.index, hp, hi];have : ((i : Int) == -1) = false := by simp
     rw [this];rfl
    rw [hc, Lib.replaceK_hit _ _ _ _ _ hi] at ih;rw [Lib.replaceK_hit _ _ _ _ _ hidx, ← ih];simp only [List.take_succ_cons, fk5, fm6, fs4];rw [show i + 1 + (0 + 1) = (i + (0 + 1)) + 1 by omega, List.drop_succ_cons]
theorem ci8 (l : List UInt8) : Lib.replaceAll l [39] [39, 39] = dbl l := by
 rw [Lib.replaceAll, Lib.replace, if_neg (by decide), Lib.replaceNum, if_pos (.inl (by omega))];exact ci7 l
theorem ci9 {f : FuncId} {a b c r : Value} (hok : Go.Abs.okV r = true) (h : ∀ (w : World) (F : Nat → Prop), E.GI w F → Go.Abs.okV a = true → Go.Abs.okV b = true → Go.Abs.okV c = true → Calls E.P f #[a, b, c] w fun e w' => e = .returned r ∧ Below w.heap.size w w') : Ev E f [.imm a, .imm b, .imm c] (.d (.imm r)) := by
 refine cb1 hok fun w F vs hG hl hr => ?_
 match vs, hl with
 | [v, u, t], _ =>
  obtain ⟨rfl, hk⟩ := Rd.imm_inv (hr 0 _ v rfl rfl);obtain ⟨rfl, hk'⟩ := Rd.imm_inv (hr 1 _ u rfl rfl);obtain ⟨rfl, hk''⟩ := Rd.imm_inv (hr 2 _ t rfl rfl);exact h w F hG hk hk' hk''
theorem cj0 (s : ByteArray) (hs : s.size ≤ 1000000000) : Ev E 198 [.str s, .str ⟨#[39]⟩, .str ⟨#[39, 39]⟩] (.d (.str (bs (dbl s.data.toList)))) := by
 have hl : s.data.toList.length = s.size := by simp
 have hd2 := ci6 s.data.toList;refine ci9 ?_ fun w F hG _ _ _ => ?_
 ·simp only [Go.Abs.okV, decide_eq_true_eq, ci4, maxLen];omega
 ·obtain ⟨-, -, m, hm⟩ := hG.2;have hcnt := Lib.countB_mul_le ⟨#[39]⟩ (by decide) s.size s (fk9 _);have h1 : (⟨#[39]⟩ : ByteArray).size = 1 := rfl;have h2 : (⟨#[39, 39]⟩ : ByteArray).size = 2 := rfl;rw [h1, Nat.mul_one] at hcnt;refine (Tryz.strings_ReplaceAll s ⟨#[39]⟩ ⟨#[39, 39]⟩ m w (by omega) hm (by decide) (by rw [h2]; omega)).mono ?_;rintro e w' ⟨rfl, hb⟩;refine ⟨?_, hb⟩;show Ending.returned (.string (bs (Lib.replaceAll s.data.toList [39] [39, 39]))) = _;rw [ci8]
def ftxt (n d : Int) : List UInt8 := bif bq8 n d then (bif d == 1 then Lib.itoa n else Lib.itoa n ++ [47] ++ Lib.itoa d) else []
theorem cj1 {n : Int} (h : inR .i64 n) : (Lib.itoa n).length ≤ 21 := Lib.itoa_length_le n h.1 h.2
theorem cj2 (n d : Int) : Ev E 197 [.agg [.int n, .int d]] (.d (.str (bs (ftxt n d)))) := Ev.fit fun hfit => by
 have hn := cj1 ((hfit _ (List.mem_cons_self)).aggs (.int n) (by simp)).int;have hd := cj1 ((hfit _ (List.mem_cons_self)).aggs (.int d) (by simp)).int;have hv := bw9 n d;unfold ftxt
 cases hf : bq8 n d with
 | false =>
  rw [hf] at hv;show Ev E _ _ (.d (.str ⟨#[]⟩));refine ye1 func197 ntmps197 fun _ _ _=>?_
  repeat' (first | refine yz ?_ | refine yp bv3 hv ?_ | refine yx ?_ | (refine yy ?_ ?_ <;> intro _) | exact zD | exact zL)
 | true =>
  rw [hf] at hv
  cases h1 : d == 1 with
  | true =>
   refine ye1 func197 ntmps197 fun _ _ _=>?_
   repeat' (first | refine yz ?_ | refine yp bv3 hv ?_ | refine yp bu7 (cb4 n) ?_ | refine yx ?_ | (refine yy ?_ ?_ <;> intro _) | exact zD | exact zL)
  | false =>
   have e : bs (Lib.itoa n ++ [47] ++ Lib.itoa d) = ⟨(Lib.itoa n).toArray⟩ ++ ⟨#[47]⟩ ++ ⟨(Lib.itoa d).toArray⟩ := by
    rw [← ci3, ← ci3];rfl
   simp only [cond_true, cond_false];rw [e];have z1 : (⟨(Lib.itoa n).toArray⟩ : ByteArray).size ≤ 21 := by show (bs (Lib.itoa n)).size ≤ 21; rw [ci4]; exact hn
   have z2 : (⟨(Lib.itoa d).toArray⟩ : ByteArray).size ≤ 21 := by show (bs (Lib.itoa d)).size ≤ 21; rw [ci4]; exact hd
   have z3 : (⟨#[47]⟩ : ByteArray).size = 1 := rfl;refine ye1 func197 ntmps197 fun _ _ _=>?_
   repeat' (first | refine yz ?_ | refine yp bv3 hv ?_ | refine qP (d := 16) rfl rfl rfl rfl rfl rfl bu7 (cb4 n) ?_ | refine yp bu7 (cb4 d) ?_ | refine yx ?_ | (refine yy ?_ ?_ <;> intro _) | exact zD | exact zL)
end Go.Proofs.YtaiiailapeffgaaGreatDoor
namespace Go.Proofs.YtaiiailapeffgaaGreatDoor
set_option maxRecDepth 4000
open Go Go.Abs Go.Val Go.RowKit Go.Proofs.Tryz
mutual
def txt : V → List UInt8
 | .mk k n d s l =>
  bif !(Val.okV (.mk k n d s l)) then [63] else
  bif k == 1 then (bif n == 1 then [116, 114, 117, 101] else [102, 97, 108, 115, 101]) else
  bif k == 2 then Lib.itoa n else
  bif k == 3 then Lib.itoa n ++ [47] ++ Lib.itoa d else
  bif k == 4 then [39] ++ dbl s.data.toList ++ [39] else
  bif k == 5 then [35] ++ Lib.itoa n else
  bif k == 6 then [64] ++ Lib.itoa n else
  bif k == 8 then [91] ++ Lib.join (cj3 l) [44, 32] ++ [93] else
  bif k == 7 then [60] ++ Lib.join (cj3 l) [32] ++ [62] else [110, 117, 108, 108]
def cj3 : List V → List (List UInt8)
 | [] => []
 | v :: r => txt v :: cj3 r
end
theorem cj4 (l : List V) : cj3 l = l.map txt := by
 induction l with
 | nil => simp [cj3]
 | cons v r ih => simp [cj3, ih]
theorem join_len (sep : List UInt8) : ∀ (xs : List (List UInt8)) (x : List UInt8), x ∈ xs → x.length ≤ (Lib.join xs sep).length
 | [], x, h => by simp at h
 | a :: r, x, h => by
  rw [Lib.join_cons, fl8];rcases fl1.1 h with e | e
  ·rw [e]; omega
  ·have : x.length ≤ (Lib.joinTail sep r).length := by
    clear h
    induction r with
    | nil => simp at e
    | cons b q ih =>
     have hc : Lib.joinTail sep (b :: q) = (sep ++ b) ++ Lib.joinTail sep q := rfl;rw [hc, fl8, fl8];rcases fl1.1 e with e' | e'
     ·rw [e']; omega
     ·have := ih e'; omega
   omega
theorem cj5 {v : V} (h : Val.okV v = true) : v.k = 0 ∨ v.k = 1 ∨ v.k = 2 ∨ v.k = 3 ∨ v.k = 4 ∨ v.k = 5 ∨ v.k = 6 ∨ v.k = 7 ∨ v.k = 8 := by
 unfold Val.okV at h;simp only [okN, br7, fm4, fk3, beq_iff_eq] at h;omega
theorem cj6 {n d : Int} {s : ByteArray} {l : List V} (h : Val.okV (.mk 3 n d s l) = true) : d ≥ 2 ∧ bq8 n d = true := by
 unfold Val.okV at h;rw [bz8 8 3 n d s l (by omega) (by omega)] at h;simp [br7, V.k, V.n, V.d, V.s, V.l] at h;exact ⟨h.2.1, h.2.2⟩
theorem cj7 {n d : Int} {s : ByteArray} {l : List V} (h : Val.okV (.mk 4 n d s l) = true) : s.size ≤ 100 := by
 unfold Val.okV at h;rw [bz8 8 4 n d s l (by omega) (by omega)] at h;simp [br7, V.k, V.n, V.d, V.s, V.l, br6] at h;exact of_decide_eq_true h.2.2.2
theorem okV_7 {n d : Int} {s : ByteArray} {l : List V} (h : Val.okV (.mk 7 n d s l) = true) : l.length ≤ 25 := by
 unfold Val.okV at h;rw [bz9] at h;simp only [bs0, fk3, decide_eq_true_eq] at h;omega
theorem okV_8 {n d : Int} {s : ByteArray} {l : List V} (h : Val.okV (.mk 8 n d s l) = true) : l.length ≤ 64 := by
 unfold Val.okV at h;rw [ca1 7] at h;simp only [fk3, decide_eq_true_eq] at h;omega
theorem join_ev (xs : List ByteArray) (sep : ByteArray) (hN : xs.length ≤ 140737488355328) (hlen : (Lib.join (xs.map (·.data.toList)) sep.data.toList).length ≤ 140737488355328) : Ev E 262 [.sl (xs.map .str), .str sep] (.d (.str (bs (Lib.join (xs.map (·.data.toList)) sep.data.toList)))) := by
 intro w F vs hF hG hl hr
 match vs, hl with
 | [v, u], _ =>
  have h0 := hr 0 _ v rfl rfl;obtain ⟨rfl, -⟩ := Rd.imm_inv (hr 1 _ u rfl rfl)
  have hok : Go.Abs.okV (.string (bs (Lib.join (xs.map (·.data.toList)) sep.data.toList))) = true := by
   simp only [Go.Abs.okV, decide_eq_true_eq, ci4, maxLen];omega
  have hnone : ∀ (a : Option Addr) (c : Nat), v = .slice a 0 c → xs = [] → Calls E.P 262 #[v, .string sep] w fun e w' => ∃ v F', e = .returned v ∧ Ext w F w' F' ∧ RdX w' F' [] (.d (.str (bs (Lib.join (xs.map (·.data.toList)) sep.data.toList)))) v := by
   rintro a c rfl rfl;refine (Tryz.strings_Join_none a c sep w).mono ?_;rintro e w' ⟨rfl, rfl⟩;exact ⟨_, F, rfl, Ext.refl hF, Rd.imm _ hok⟩
  rcases Rd.sl_inv h0 with ⟨hx, rfl⟩ | ⟨size, ad, cap, rfl, h1, h2, h3, h4, h5, h6⟩
  ·exact hnone none 0 rfl (by simpa using hx)
  ·by_cases hx : xs = []
   ·exact hnone _ _ (by rw [hx]; rfl) hx
   ·have hlen' : (xs.map D.str).length = xs.length := by simp
    have hcell : ∀ (j : Nat) x, xs[j]? = some x → w.cell? (ad.add j) = some (.string x) := by
     intro j x hj;have hj' : (xs.map D.str)[j]? = some (.str x) := by rw [fk7, hj]; rfl
     have hs1 : size = 1 := (h4 _ (fk4 hj')).symm;obtain ⟨q, e1, e2⟩ := h6 j _ 0 _ hj' rfl;obtain ⟨rfl, -⟩ := Rd.imm_inv e2;rw [hs1, Nat.mul_one, fn6] at e1;exact e1
    obtain ⟨bk, o, sp⟩ := ad
    have hsp : sp = none := by
     obtain ⟨x0, hx0⟩ : ∃ x, xs[0]? = some x := ⟨xs[0]'(List.length_pos_iff.2 hx), fk0 _⟩;have := hcell 0 x0 hx0
     cases sp with
     | none => rfl
     | some q =>
      have e : (⟨bk, o, some q⟩ : Addr).add 0 = ⟨bk, o, some q⟩ := by simp [Addr.add]
      rw [e] at this;unfold World.cell? at this;simp only [Option.isSome_some, if_true] at this;split at this <;> cases this
    subst hsp;rw [hlen'] at h1 ⊢;have hbk : bk < w.heap.size := hF _ (h3 (by simpa using hx));refine (Tryz.strings_Join bk o cap xs sep w (fun j x hj => by rw [← aa2]; exact hcell j x hj) hbk hN h1 hlen).mono ?_;rintro e w' ⟨rfl, hb⟩;exact ⟨_, F, rfl, Ext.of_below hb hF, Rd.imm _ hok⟩
end Go.Proofs.YtaiiailapeffgaaGreatDoor
namespace Go.Proofs.YtaiiailapeffgaaGreatDoor
open Go Go.Abs Go.Val Go.RowKit Go.Proofs.Tryz
attribute [local irreducible] go SGo an2 Ev aw0
set_option maxRecDepth 4000
def cj8 (xs : List (List UInt8)) : List D := xs.map fun t => .str (bs t)
structure STx (l : List V) where
 i : Nat
 hi : i ≤ l.length
theorem cj9 {l : List V} {i : Nat} {x : V} (h : l[i]? = some x) : cj8 ((l.take (i + 1)).map txt) = cj8 ((l.take i).map txt) ++ [.str (bs (txt x))] := by
 have hi := (fk2.1 h).1;rw [fs7 hi];rw [fk0 hi] at h
 cases h
 simp only [cj8, fo1, fl5, fm9]
theorem ck0 (l : List V) (sep : List UInt8) (hT : ∀ x ∈ l, Ev E 148 [enc x] (.d (.str (bs (txt x))))) (hn : l.length ≤ 1000000) (hlen : (Lib.join (l.map txt) sep).length ≤ 1099511627776) :
  Ev E 199 [.sl (bp7 l), .str (bs sep)] (.d (.str (bs (Lib.join (l.map txt) sep)))) := by
 have hle : (bp7 l).length = l.length := bq3 l;have e1 : (l.map fun x => bs (txt x)).map D.str = cj8 (l.map txt) := by simp [cj8]
 have e2 : (l.map fun x => bs (txt x)).map (·.data.toList) = l.map txt := by simp [ci5]
 have hj := join_ev (l.map fun x => bs (txt x)) (bs sep) (by simp; omega) (by rw [e2, ci5]; omega);rw [e1, e2, ci5] at hj;refine ye2 func199 ntmps199 fun _ _ _=>?_
 repeat' (refine yz ?_)
 refine ac7 (α := STx l) (fun p => ⟨[(1, .d (.str (bs sep))), (5, ay4 (cj8 ((l.take p.i).map txt))), (8, .d (.sl (bp7 l))), (9, .d (.int (bp7 l).length)), (10, .d (.int p.i))], ay5 9 1 (cj8 ((l.take p.i).map txt))⟩) (fun p => l.length - p.i) ⟨0, by omega⟩ (by rw [List.take_zero]; exact (zle 0)) ?_;rintro ⟨i, hi⟩;dsimp only;rcases fk1 i l.length with hlt | hge
 ·have g1 : decide ((i : Int) < ((bp7 l).length : Int)) = true := by rw [hle]; simpa using hlt
  have hx0 := fk0 hlt;generalize l[i] = x at hx0;have hx : (bp7 l)[(i : Int).toNat]? = some (enc x) := bq1 (by rw [fl0]; exact hx0);have ht := hT x (fk4 hx0);have hta := cj9 hx0;have hll : (cj8 ((l.take i).map txt)).length ≤ i := by simp [cj8]; omega
  generalize cj8 ((l.take i).map txt) = out at *
  match out, hll with
  | [], hll =>
   dsimp only [ay4, ay5]
   repeat' (first | refine yz ?_ | refine yi (enc x) hx ?_ | refine yp b148 ht ?_ | (refine qS rfl ⟨by simp, by simp [D.cells]; rfl, by (show (0 + 1) * 16 ≤ 140737488355328; omega), by (show 0 + 1 ≤ 9223372036854775807; omega)⟩ ?_))
   refine ac1 ?_;refine ⟨⟨i + 1, by omega⟩, by dsimp only; omega, ?_⟩;dsimp only;rw [hta];exact (bj9 [1])
  | a :: q, hll =>
   dsimp only [ay4, ay5]
   repeat' (first | refine yz ?_ | refine yi (enc x) hx ?_ | refine yp b148 ht ?_ | (refine qS rfl ⟨by simp, by simp [D.cells]; rfl, by (show ((a :: q).length + 1) * 16 ≤ 140737488355328; omega), by (show (a :: q).length + 1 ≤ 9223372036854775807; omega)⟩ ?_))
   refine ac1 ?_;refine ⟨⟨i + 1, by omega⟩, by dsimp only; omega, ?_⟩;dsimp only;rw [hta];exact (bj9 [2])
 ·have g1 : decide ((i : Int) < ((bp7 l).length : Int)) = false := by rw [hle]; simp; omega
  rw [fn4 hge];generalize cj8 (l.map txt) = out at *
  match out, hj with
  | [], hj =>
   dsimp only [ay4, ay5]
   repeat' (first | refine yz ?_ | refine yp b262 hj ?_ | exact zD)
  | a :: q, hj =>
   dsimp only [ay4, ay5];refine qA ?_;refine au6 0 rfl ?_
   repeat' (first | refine yz ?_ | refine yp b262 hj ?_ | exact zD)
theorem ck1 (v : V) : (txt v).length ≤ 1099511627776 → Ev E 148 [enc v] (.d (.str (bs (txt v)))) := by
 refine cc2 (P := fun v => (txt v).length ≤ 1099511627776 → Ev E 148 [enc v] (.d (.str (bs (txt v))))) (fun k n d s l ih hlen => Ev.fit fun hfit => ?_) v;obtain ⟨-, hn, hd, -, -, -⟩ := bq4 (hfit (enc (.mk k n d s l)) (by simp));have hv := ca6 cc1 (.mk k n d s l)
 cases hok : Val.okV (.mk k n d s l) with
 | false =>
  rw [hok] at hv;have e : txt (.mk k n d s l) = [63] := by simp only [txt, hok]; rfl
  rw [e];show Ev E _ _ (.d (.str ⟨#[63]⟩));refine ye1 func148 ntmps148 fun _ _ _=>?_
  repeat' (first | refine yz ?_ | refine yp bt7 hv ?_ | exact zD)
 | true =>
  rw [hok] at hv;have ln := cj1 hn;have ld := cj1 hd;have zn : (bs (Lib.itoa n)).size ≤ 21 := by rw [ci4]; exact ln
  have zn' : (⟨(Lib.itoa n).toArray⟩ : ByteArray).size ≤ 21 := zn;have o2 : (⟨#[39]⟩ : ByteArray).size = 1 := rfl;have o3 : (⟨#[35]⟩ : ByteArray).size = 1 := rfl;have o4 : (⟨#[64]⟩ : ByteArray).size = 1 := rfl;have o5 : (⟨#[91]⟩ : ByteArray).size = 1 := rfl;have o6 : (⟨#[93]⟩ : ByteArray).size = 1 := rfl;have o7 : (⟨#[60]⟩ : ByteArray).size = 1 := rfl;have o8 : (⟨#[62]⟩ : ByteArray).size = 1 := rfl;have hk := cj5 hok;simp only [V.k] at hk;have tn := cb4 n;have td := cb4 d;rcases hk with rfl | rfl | rfl | rfl | rfl | rfl | rfl | rfl | rfl
  ·have e : txt (.mk 0 n d s l) = [110, 117, 108, 108] := by simp only [txt, hok]; rfl
   rw [e];show Ev E _ _ (.d (.str ⟨#[110, 117, 108, 108]⟩));refine ye1 func148 ntmps148 fun _ _ _=>?_
   repeat' (first | refine yz ?_ | refine yp bt7 hv ?_ | exact zD)
  ·have e : bs (txt (.mk 1 n d s l)) = ⟨(Lib.formatBool (n == 1)).toArray⟩ := by
    have : txt (.mk 1 n d s l) = (bif n == 1 then [116, 114, 117, 101] else [102, 97, 108, 115, 101]) := by simp only [txt, hok]; rfl
    rw [this]
    cases n == 1 <;> decide
   rw [e];have hb := cb5 (n == 1);refine ye1 func148 ntmps148 fun _ _ _=>?_
   repeat' (first | refine yz ?_ | refine yp bt7 hv ?_ | refine yp b195 hb ?_ | exact zD)
  ·have e : txt (.mk 2 n d s l) = Lib.itoa n := by simp only [txt, hok]; rfl
   rw [e];refine ye1 func148 ntmps148 fun _ _ _=>?_
   repeat' (first | refine yz ?_ | refine yp bt7 hv ?_ | refine yp bu7 tn ?_ | exact zD)
  ·obtain ⟨h2, h3⟩ := cj6 hok
   have e : txt (.mk 3 n d s l) = ftxt n d := by
    have hd1 : (d == 1) = false := by simp; omega
    simp only [txt, hok, ftxt, h3, hd1];rfl
   rw [e];have hf := cj2 n d;refine ye1 func148 ntmps148 fun _ _ _=>?_
   repeat' (first | refine yz ?_ | refine yp bt7 hv ?_ | refine yp b197 hf ?_ | exact zD)
  ·have e : bs (txt (.mk 4 n d s l)) = ⟨#[39]⟩ ++ bs (dbl s.data.toList) ++ ⟨#[39]⟩ := by
    show _ = bs [39] ++ bs (dbl s.data.toList) ++ bs [39];rw [ci3, ci3];simp only [txt, hok];rfl
   rw [e];have h4 := cj7 hok;have hdb := cj0 s (by omega);have hl2 := ci6 s.data.toList;have hsl : s.data.toList.length = s.size := by simp
   have zs : (bs (dbl s.data.toList)).size ≤ 200 := by rw [ci4]; omega
   refine ye1 func148 ntmps148 fun _ _ _=>?_
   repeat' (first | refine yz ?_ | refine yp bt7 hv ?_ | refine yp b198 hdb ?_ | exact zD)
  ·have e : bs (txt (.mk 5 n d s l)) = ⟨#[35]⟩ ++ ⟨(Lib.itoa n).toArray⟩ := by
    show _ = bs [35] ++ bs (Lib.itoa n);rw [ci3];simp only [txt, hok];rfl
   rw [e];refine ye1 func148 ntmps148 fun _ _ _=>?_
   repeat' (first | refine yz ?_ | refine yp bt7 hv ?_ | refine yp bu7 tn ?_ | exact zD)
  ·have e : bs (txt (.mk 6 n d s l)) = ⟨#[64]⟩ ++ ⟨(Lib.itoa n).toArray⟩ := by
    show _ = bs [64] ++ bs (Lib.itoa n);rw [ci3];simp only [txt, hok];rfl
   rw [e];refine ye1 func148 ntmps148 fun _ _ _=>?_
   repeat' (first | refine yz ?_ | refine yp bt7 hv ?_ | refine yp bu7 tn ?_ | exact zD)
  ·have e0 : txt (.mk 7 n d s l) = [60] ++ Lib.join (l.map txt) [32] ++ [62] := by simp only [txt, hok, cj4]; rfl
   have e : bs (txt (.mk 7 n d s l)) = ⟨#[60]⟩ ++ bs (Lib.join (l.map txt) [32]) ++ ⟨#[62]⟩ := by
    show _ = bs [60] ++ bs (Lib.join (l.map txt) [32]) ++ bs [62];rw [ci3, ci3, e0]
   rw [e]
   have hjl : (Lib.join (l.map txt) [32]).length ≤ 1099511627776 := by
    rw [e0, fl8, fl8] at hlen;omega
   have hj := ck0 l [32] (fun x hx => ih x hx (fq8 (join_len [32] _ _ (fr8 hx)) hjl)) (by have := okV_7 hok; omega) hjl;have zj : (bs (Lib.join (l.map txt) [32])).size ≤ 1099511627776 := by rw [ci4]; exact hjl
   refine ye1 func148 ntmps148 fun _ _ _=>?_
   repeat' (first | refine yz ?_ | refine yp bt7 hv ?_ | refine yp b199 hj ?_ | exact zD)
  ·have e0 : txt (.mk 8 n d s l) = [91] ++ Lib.join (l.map txt) [44, 32] ++ [93] := by simp only [txt, hok, cj4]; rfl
   have e : bs (txt (.mk 8 n d s l)) = ⟨#[91]⟩ ++ bs (Lib.join (l.map txt) [44, 32]) ++ ⟨#[93]⟩ := by
    show _ = bs [91] ++ bs (Lib.join (l.map txt) [44, 32]) ++ bs [93];rw [ci3, ci3, e0]
   rw [e]
   have hjl : (Lib.join (l.map txt) [44, 32]).length ≤ 1099511627776 := by
    rw [e0, fl8, fl8] at hlen;omega
   have hj := ck0 l [44, 32] (fun x hx => ih x hx (fq8 (join_len [44, 32] _ _ (fr8 hx)) hjl)) (by have := okV_8 hok; omega) hjl;have zj : (bs (Lib.join (l.map txt) [44, 32])).size ≤ 1099511627776 := by rw [ci4]; exact hjl
   refine ye1 func148 ntmps148 fun _ _ _=>?_
   repeat' (first | refine yz ?_ | refine yp bt7 hv ?_ | refine yp b199 hj ?_ | exact zD)
attribute [local irreducible] EvO
mutual
def nar : V → Bool
 | .mk _ _ _ _ l => decide (l.length ≤ 2000000) && ck2 l
def ck2 : List V → Bool
 | [] => true
 | v :: r => nar v && ck2 r
end
theorem ck3 : ∀ {l : List V}, ck2 l = true → ∀ x ∈ l, nar x = true
 | [], _, x, h => by simp at h
 | v :: r, h, x, hx => by
  simp only [ck2, fk3] at h;rcases fl1.1 hx with e | e
  ·rw [e]; exact h.1
  ·exact ck3 h.2 x e
theorem ck4 {v : V} (h : nar v = true) : v.l.length ≤ 2000000 ∧ ck2 v.l = true := by
 cases v
 simpa [nar, V.l] using h
theorem ck5 : Ev E 264 [.sl []] (.d (.sl [])) := by
 refine ye1 func264 ntmps264 fun _ _ _=>?_
 repeat' (first | refine yz ?_ | (refine ay6 rfl (fun _ => ?_) ?_) | refine az3 rfl rfl rfl rfl rfl rfl rfl rfl ?_ | refine yx ?_ | (refine yy ?_ ?_ <;> intro _) | exact zD | exact zL)
theorem ck6 (l : List V) : ∀ d ∈ bp7 l, d.cells.length = 5 := fun d hd => by
 rw [bp8] at hd;obtain ⟨u, -, rfl⟩ := fo8.1 hd;rfl
theorem ck7 (l : List V) (h0 : l ≠ []) (hn : l.length ≤ 2000000) : EvO E 264 [.sl (bp7 l)] 24 5 (bp7 l) := by
 have hle : (bp7 l).length = l.length := bq3 _;have hne : bp7 l ≠ [] := by rw [bp8]; simpa using h0
 refine az4 func264 ntmps264 rfl rfl fun w0 F0 O => ?_
 repeat' (first | refine az0 rfl rfl rfl rfl rfl rfl rfl (by decide) (by decide) ?_ | refine yz ?_ | (refine ay6 rfl (fun h => absurd h hne) ?_) | refine yx ?_ | (refine yy ?_ ?_ <;> intro _) | exact zD | exact zL)
 refine qS rfl ⟨hne, ck6 l, by (show (0 + (bp7 l).length) * 64 ≤ 140737488355328; omega), by (show 0 + (bp7 l).length ≤ 9223372036854775807; omega)⟩ ?_
 repeat' (first | refine yz ?_ | refine yx ?_ | (refine yy ?_ ?_ <;> intro _) | exact zD | exact zL)
theorem ck8 (v : V) : nar v = true → Ev E 203 [.sl (kids v)] (.d (.sl (kids v))) := by
 refine cc2 (P := fun v => nar v = true → Ev E 203 [.sl (kids v)] (.d (.sl (kids v)))) (fun k n d s l ih hn => ?_) v;obtain ⟨hl, hm⟩ := ck4 hn;simp only [V.l] at hl hm;show Ev E 203 [.sl (bp7 l)] (.d (.sl (bp7 l)));have hle : (bp7 l).length = l.length := bq3 _
 by_cases h0 : l = []
 ·subst h0;show Ev E 203 [.sl []] (.d (.sl []));refine ye1 func203 ntmps203 fun _ _ _=>?_
  repeat' (first | refine yz ?_ | refine yp b264 ck5 ?_ | refine yx ?_ | (refine yy ?_ ?_ <;> intro _) | exact zD | exact zL)
  refine ac7 (α := Unit) (fun _ => ⟨[(3, .d (.sl [])), (8, .d (.int 0)), (9, .d (.int 0))], []⟩) (fun _ => 0) () (zle 0) ?_;rintro -;have g1 : decide ((0 : Int) < 0) = false := rfl
  repeat' (first | refine yz ?_ | refine yx ?_ | (refine yy ?_ ?_ <;> intro _) | exact zD | exact zL)
 ·have hc := ck7 l h0 hl;refine ye1 func203 ntmps203 fun _ _ _=>?_
  repeat' (first | refine yz ?_ | refine ay9 rfl rfl rfl rfl rfl rfl b264 (hc) ?_ | refine yx ?_ | (refine yy ?_ ?_ <;> intro _) | exact zD | exact zL)
  refine ac7 (α := Fin (l.length + 1)) (fun p => ⟨[(3, .own 0), (8, .d (.int (bp7 l).length)), (9, .d (.int p.val))], [.row 24 5 (bp7 l)]⟩) (fun p => l.length - p.val) ⟨0, by omega⟩ (zle 1) ?_;rintro ⟨i, hi⟩;dsimp only;rcases fk1 i l.length with hlt | hge
  ·have g1 : decide ((i : Int) < ((bp7 l).length : Int)) = true := by rw [hle]; simpa using hlt
   have hx0 := fk0 hlt;generalize l[i] = x at hx0;have hx : (bp7 l)[(i : Int).toNat]? = some (enc x) := bq1 (by rw [fl0]; exact hx0);have hmem := fk4 hx0;have hcx := ih x hmem (ck3 hm x hmem)
   have hset : (bp7 l).set (i : Int).toNat (ar1 (enc x) 4 (.sl (kids x))) = bp7 l := by
    have e : ar1 (enc x) 4 (.sl (kids x)) = enc x := rfl;rw [e, fl0];refine fq6 fun j => ?_
    rw [fo7];split
    ·rename_i hij
     subst hij;rw [if_pos (by rw [hle]; exact hlt)];exact (bq1 hx0).symm
    ·rfl
   repeat' (first | refine yz ?_ | refine qW (enc x) rfl rfl rfl rfl rfl rfl hx rfl ?_ | refine qZ (enc x) rfl rfl rfl rfl rfl rfl hx rfl rfl rfl ?_ | refine yp b203 hcx ?_ | refine yx ?_ | (refine yy ?_ ?_ <;> intro _) | exact zD | exact zL)
   refine ac1 ?_;refine ⟨⟨i + 1, by omega⟩, by dsimp only; omega, ?_⟩;show Le _ ⟨_, [.row 24 5 ((bp7 l).set (i : Int).toNat (ar1 (enc x) 4 (.sl (kids x))))]⟩ _;rw [hset];exact (zle 1)
  ·have g1 : decide ((i : Int) < ((bp7 l).length : Int)) = false := by rw [hle]; simp; omega
   repeat' (first | refine yz ?_ | refine yx ?_ | (refine yy ?_ ?_ <;> intro _) | exact zD | exact zL)
   refine au6 0 rfl ?_
   repeat' (first | refine yz ?_ | refine yx ?_ | (refine yy ?_ ?_ <;> intro _) | exact zD | exact zL)
theorem ck9 {l : List V} {i : Nat} {x : V} (h : l[i]? = some x) : bp7 (l.take (i + 1)) = bp7 (l.take i) ++ [enc x] := by
 have hi := (fk2.1 h).1;rw [fs7 hi];rw [fk0 hi] at h
 cases h
 simp only [bp8, fo1, fl5, fm9]
end Go.Proofs.YtaiiailapeffgaaGreatDoor
namespace Go.Proofs.YtaiiailapeffgaaGreatDoor
set_option maxRecDepth 4000
open Go Go.Abs Go.Val Go.RowKit Go.Proofs.Tryz
attribute [local irreducible] go SGo an2 Ev aw0 EvO
def ci (x y : Int) : Int := Lib.compareInt x y
theorem cl0 {x y : Int} (h : x < y) : ci x y = -1 := by unfold ci Lib.compareInt; rw [if_pos h]
theorem cl1 {x y : Int} (h : x > y) : ci x y = 1 := by unfold ci Lib.compareInt; rw [if_neg (by omega), if_pos h]
theorem cl2 (x : Int) : ci x x = 0 := by unfold ci Lib.compareInt; rw [if_neg (by omega), if_neg (by omega)]
def cs (a b : ByteArray) : Int := bif Op.bytesLess a.toList b.toList then -1 else bif (Op.bytesLess a.toList b.toList || a.toList == b.toList) then 0 else 1
def orI (x y : Int) : Int := bif x != 0 then x else y
theorem cl3 (x y : Int) : Ev E 41 [.int x, .int y] (.d (.int (ci x y))) := by
 rcases (show x < y ∨ x = y ∨ x > y by omega) with h | h | h
 ·rw [cl0 h];have g1 : decide (x < y) = true := by simpa using h
  refine ye2 func41 ntmps41 fun _ _ _=>?_
  repeat' (first | refine yz ?_ | refine yx ?_ | (refine yy ?_ ?_ <;> intro _) | exact zD | exact zL)
 ·subst h;rw [cl2];have g1 : decide (x < x) = false := by simp
  have g2 : decide (x > x) = false := by simp
  refine ye2 func41 ntmps41 fun _ _ _=>?_
  repeat' (first | refine yz ?_ | refine yx ?_ | (refine yy ?_ ?_ <;> intro _) | exact zD | exact zL)
 ·rw [cl1 h];have g1 : decide (x < y) = false := by simp; omega
  have g2 : decide (x > y) = true := by simpa using h
  refine ye2 func41 ntmps41 fun _ _ _=>?_
  repeat' (first | refine yz ?_ | refine yx ?_ | (refine yy ?_ ?_ <;> intro _) | exact zD | exact zL)
theorem cl4 (a b : ByteArray) : Ev E 79 [.str a, .str b] (.d (.int (cs a b))) := by
 unfold cs
 cases h1 : Op.bytesLess a.toList b.toList with
 | true =>
  refine ye2 func79 ntmps79 fun _ _ _=>?_
  repeat' (first | refine yz ?_ | refine yx ?_ | (refine yy ?_ ?_ <;> intro _) | exact zD | exact zL)
 | false =>
  cases h2 : a.toList == b.toList with
  | true =>
   have g2 : (!(Op.bytesLess a.toList b.toList || a.toList == b.toList)) = false := by rw [h1, h2]; rfl
   refine ye2 func79 ntmps79 fun _ _ _=>?_
   repeat' (first | refine yz ?_ | refine yx ?_ | (refine yy ?_ ?_ <;> intro _) | exact zD | exact zL)
  | false =>
   have g2 : (!(Op.bytesLess a.toList b.toList || a.toList == b.toList)) = true := by rw [h1, h2]; rfl
   refine ye2 func79 ntmps79 fun _ _ _=>?_
   repeat' (first | refine yz ?_ | refine yx ?_ | (refine yy ?_ ?_ <;> intro _) | exact zD | exact zL)
def cl5 (g : V → V → Int) : List V → List V → Int
 | [], [] => 0
 | [], _ :: _ => -1
 | _ :: _, [] => 1
 | x :: r, y :: q => orI (g x y) (cl5 g r q)
theorem cl6 (g : V → V → Int) (a b : List V) (h : a = [] ∨ b = []) : cl5 g a b = ci a.length b.length := by
 cases a with
 | nil =>
  cases b with
  | nil => exact (cl2 0).symm
  | cons y q => simp only [cl5]; rw [cl0 (by simp only [fm6, fk5]; omega)]
 | cons x r =>
  cases b with
  | nil => simp only [cl5]; rw [cl1 (by simp only [fm6, fk5]; omega)]
  | cons y q => rcases h with h | h <;> cases h
structure SCF (g : V → V → Int) (a b : List V) where
 i : Nat
 hi : i ≤ a.length
 hj : i ≤ b.length
 ok : cl5 g a b = cl5 g (a.drop i) (b.drop i)
def cl7 (k : Int) : Int := bif k == 0 then 0 else bif k == 1 then 1 else bif k == 2 || k == 3 then 2 else bif k == 4 then 3 else bif k == 5 then 4 else bif k == 6 then 5 else bif k == 8 then 6 else 7
def cl8 (a b : V) (t : Int) : Int := orI (ci a.k b.k) (orI (ci a.n b.n) (orI (ci a.d b.d) (orI (cs a.s b.s) t)))
def cl9 (a b : V) (t : Int) : Int :=
 bif Val.okV a != Val.okV b then 1 - tt (Val.okV a) else
 bif !Val.okV a then cl8 a b t else
 bif ci (cl7 a.k) (cl7 b.k) != 0 then ci (cl7 a.k) (cl7 b.k) else
 bif bs2 a then cf9 (bs3 a) (bs4 a) (bs3 b) (bs4 b) else cl8 a b t
mutual
def cm0 : V → V → Int
 | .mk k n d s l, b => cl9 (.mk k n d s l) b (cm1 l b.l)
def cm1 : List V → List V → Int
 | [], [] => 0
 | [], _ :: _ => -1
 | _ :: _, [] => 1
 | x :: r, y :: q => orI (cm0 x y) (cm1 r q)
end
theorem cm2 : ∀ a b : List V, cm1 a b = cl5 cm0 a b
 | [], [] => by simp [cm1, cl5]
 | [], _ :: _ => by simp [cm1, cl5]
 | _ :: _, [] => by simp [cm1, cl5]
 | x :: r, y :: q => by simp only [cm1, cl5, cm2 r q]
theorem cm3 (a b : V) : cm0 a b = cl9 a b (cl5 cm0 a.l b.l) := by
 cases a
 simp only [cm0, cm2, V.l]
theorem cm4 (k : Int) : Ev E 42 [.int k] (.d (.int (cl7 k))) := by
 unfold cl7
 cases h0 : k == 0 with
 | true =>
  refine ye1 func42 ntmps42 fun _ _ _=>?_
  repeat' (first | refine yz ?_ | refine yx ?_ | (refine yy ?_ ?_ <;> intro _) | exact zD | exact zL)
 | false =>
 cases h1 : k == 1 with
 | true =>
  refine ye1 func42 ntmps42 fun _ _ _=>?_
  repeat' (first | refine yz ?_ | refine yx ?_ | (refine yy ?_ ?_ <;> intro _) | exact zD | exact zL)
 | false =>
 cases h2 : k == 2 with
 | true =>
  refine ye1 func42 ntmps42 fun _ _ _=>?_
  repeat' (first | refine yz ?_ | refine yx ?_ | (refine yy ?_ ?_ <;> intro _) | exact zD | exact zL)
 | false =>
 cases h3 : k == 3 with
 | true =>
  refine ye1 func42 ntmps42 fun _ _ _=>?_
  repeat' (first | refine yz ?_ | refine yx ?_ | (refine yy ?_ ?_ <;> intro _) | exact zD | exact zL)
 | false =>
 cases h4 : k == 4 with
 | true =>
  refine ye1 func42 ntmps42 fun _ _ _=>?_
  repeat' (first | refine yz ?_ | refine yx ?_ | (refine yy ?_ ?_ <;> intro _) | exact zD | exact zL)
 | false =>
 cases h5 : k == 5 with
 | true =>
  refine ye1 func42 ntmps42 fun _ _ _=>?_
  repeat' (first | refine yz ?_ | refine yx ?_ | (refine yy ?_ ?_ <;> intro _) | exact zD | exact zL)
 | false =>
 cases h6 : k == 6 with
 | true =>
  refine ye1 func42 ntmps42 fun _ _ _=>?_
  repeat' (first | refine yz ?_ | refine yx ?_ | (refine yy ?_ ?_ <;> intro _) | exact zD | exact zL)
 | false =>
 cases h8 : k == 8 with
 | true =>
  refine ye1 func42 ntmps42 fun _ _ _=>?_
  repeat' (first | refine yz ?_ | refine yx ?_ | (refine yy ?_ ?_ <;> intro _) | exact zD | exact zL)
 | false =>
  refine ye1 func42 ntmps42 fun _ _ _=>?_
  repeat' (first | refine yz ?_ | refine yx ?_ | (refine yy ?_ ?_ <;> intro _) | exact zD | exact zL)
theorem cm5 (a b : List V) (hf : ∀ x ∈ a, ∀ y ∈ b, Ev E 23 [enc x, enc y] (.d (.int (cm0 x y)))) : Ev E 80 [.sl (bp7 a), .sl (bp7 b)] (.d (.int (cl5 cm0 a b))) := Ev.fit fun hfit => by
 obtain ⟨hma, -⟩ := bq5 (hfit (.sl (bp7 a)) (by simp));obtain ⟨hmb, -⟩ := bq5 (hfit (.sl (bp7 b)) (by simp));have hla : (bp7 a).length = a.length := bq3 a;have hlb : (bp7 b).length = b.length := bq3 b;refine ye2 func80 ntmps80 fun _ _ _=>?_
 repeat' (first | refine yz ?_ | refine yx ?_ | (refine yy ?_ ?_ <;> intro _) | exact zD | exact zL)
 refine ac7 (α := SCF cm0 a b) (fun p => ⟨[(0, .d (.sl (bp7 a))), (1, .d (.sl (bp7 b))), (5, .d (.int p.i))], []⟩) (fun p => a.length - p.i) ⟨0, by omega, by omega, rfl⟩ (zle 0) ?_;rintro ⟨i, hi, hj, ok⟩;dsimp only
 have hend : (i = a.length ∨ i = b.length) → cl5 cm0 a b = ci ((bp7 a).length : Int) ((bp7 b).length : Int) := by
  intro h;rw [ok, cl6]
  ·rw [hla, hlb];rcases (show (a.length : Int) < b.length ∨ (a.length : Int) = b.length ∨ (a.length : Int) > b.length by omega) with h' | h' | h'
   ·rw [cl0 h', cl0 (by simp only [fp9]; omega)]
   ·rw [h', cl2, show ((a.drop i).length : Int) = ((b.drop i).length : Int) by simp only [fp9]; omega, cl2]
   ·rw [cl1 h', cl1 (by simp only [fp9]; omega)]
  ·rcases h with h | h
   ·exact .inl (fl9 (by omega))
   ·exact .inr (fl9 (by omega))
 have hin := cl3 ((bp7 a).length : Int) ((bp7 b).length : Int);rcases fk1 i a.length with hlt | hge
 ·have g1 : decide ((i : Int) < ((bp7 a).length : Int)) = true := by rw [hla]; simpa using hlt
  rcases fk1 i b.length with hltb | hgeb
  ·have g2 : decide ((i : Int) < ((bp7 b).length : Int)) = true := by rw [hlb]; simpa using hltb
   have hx0 := fk0 hlt;generalize a[i] = x at hx0;have hx : (bp7 a)[(i : Int).toNat]? = some (enc x) := bq1 (by rw [fl0]; exact hx0);have hy0 := fk0 hltb;generalize b[i] = y at hy0;have hy : (bp7 b)[(i : Int).toNat]? = some (enc y) := bq1 (by rw [fl0]; exact hy0);have hxy := hf x (fk4 hx0) y (fk4 hy0);rw [ok, bz3 hx0, bz3 hy0];simp only [cl5, orI]
   cases h : cm0 x y != 0 with
   | true =>
    repeat' (first | refine yz ?_ | refine yi (enc x) hx ?_ | refine yi (enc y) hy ?_ | refine yp b23 hxy ?_ | refine yx ?_ | (refine yy ?_ ?_ <;> intro _) | exact zD | exact zL)
   | false =>
    repeat' (first | refine yz ?_ | refine yi (enc x) hx ?_ | refine yi (enc y) hy ?_ | refine yp b23 hxy ?_ | refine yx ?_ | (refine yy ?_ ?_ <;> intro _) | exact zD | exact zL)
    refine ac1 ?_;exact ⟨⟨i + 1, by omega, by omega, by rw [ok, bz3 hx0, bz3 hy0]; simp only [cl5, orI]; rw [h]; rfl⟩, by dsimp only; omega, (zle 0)⟩
  ·have g2 : decide ((i : Int) < ((bp7 b).length : Int)) = false := by rw [hlb]; simp; omega
   rw [hend (.inr (by omega))]
   repeat' (first | refine yz ?_ | refine yp b41 hin ?_ | refine yx ?_ | (refine yy ?_ ?_ <;> intro _) | exact zD | exact zL)
 ·have g1 : decide ((i : Int) < ((bp7 a).length : Int)) = false := by rw [hla]; simp; omega
  rw [hend (.inl (by omega))]
  repeat' (first | refine yz ?_ | refine yp b41 hin ?_ | refine yx ?_ | (refine yy ?_ ?_ <;> intro _) | exact zD | exact zL)
theorem cm6 (a b : V) (hf : ∀ x ∈ a.l, ∀ y ∈ b.l, Ev E 23 [enc x, enc y] (.d (.int (cm0 x y)))) : Ev E 40 [enc a, enc b] (.d (.int (cl8 a b (cl5 cm0 a.l b.l)))) := by
 have hl := cm5 a.l b.l hf;rw [bp8, bp8, ← bp9, ← bp9] at hl;unfold cl8 orI
 cases h1 : ci a.k b.k != 0 with
 | true =>
  refine ye2 func40 ntmps40 fun _ _ _=>?_
  repeat' (first | refine yz ?_ | refine yp b41 (cl3 _ _) ?_ | refine yx ?_ | (refine yy ?_ ?_ <;> intro _) | exact zD | exact zL)
 | false =>
 cases h2 : ci a.n b.n != 0 with
 | true =>
  refine ye2 func40 ntmps40 fun _ _ _=>?_
  repeat' (first | refine yz ?_ | refine yp b41 (cl3 _ _) ?_ | refine yx ?_ | (refine yy ?_ ?_ <;> intro _) | exact zD | exact zL)
 | false =>
 cases h3 : ci a.d b.d != 0 with
 | true =>
  refine ye2 func40 ntmps40 fun _ _ _=>?_
  repeat' (first | refine yz ?_ | refine yp b41 (cl3 _ _) ?_ | refine yx ?_ | (refine yy ?_ ?_ <;> intro _) | exact zD | exact zL)
 | false =>
 cases h4 : cs a.s b.s != 0 with
 | true =>
  refine ye2 func40 ntmps40 fun _ _ _=>?_
  repeat' (first | refine yz ?_ | refine yp b41 (cl3 _ _) ?_ | refine yp b79 (cl4 _ _) ?_ | refine yx ?_ | (refine yy ?_ ?_ <;> intro _) | exact zD | exact zL)
 | false =>
  refine ye2 func40 ntmps40 fun _ _ _=>?_
  repeat' (first | refine yz ?_ | refine yp b41 (cl3 _ _) ?_ | refine yp b79 (cl4 _ _) ?_ | refine yp b80 hl ?_ | refine yx ?_ | (refine yy ?_ ?_ <;> intro _) | exact zD | exact zL)
theorem cm7 (a : V) : ∀ b : V, Ev E 23 [enc a, enc b] (.d (.int (cm0 a b))) := by
 refine cc2 (P := fun a => ∀ b : V, Ev E 23 [enc a, enc b] (.d (.int (cm0 a b)))) (fun k n d s l ih b => ?_) a;have hfl := cm6 (.mk k n d s l) b (fun x hx y _ => ih x hx y);rw [cm3];generalize V.mk k n d s l = a at *;clear ih;have va := ca7 a;have vb := ca7 b;have na := ca9 a;have nb := ca9 b;have hc := cg5 (bs3 a) (bs4 a) (bs3 b) (bs4 b);have hcl := cl3 (cl7 a.k) (cl7 b.k);unfold cl9
 cases h1 : Val.okV a != Val.okV b with
 | true =>
  have hy := by2 (Val.okV a);have htt : 0 ≤ tt (Val.okV a) ∧ tt (Val.okV a) ≤ 2 := by cases Val.okV a <;> decide
  refine ye2 func23 ntmps23 fun _ _ _=>?_
  repeat' (first | refine yz ?_ | refine yp b38 va ?_ | refine yp b38 vb ?_ | refine yp b39 hy ?_ | refine yx ?_ | (refine yy ?_ ?_ <;> intro _) | exact zD | exact zL)
 | false =>
 cases h2 : Val.okV a with
 | false =>
  have g2 : (!Val.okV a) = true := by rw [h2]; rfl
  refine ye2 func23 ntmps23 fun _ _ _=>?_
  repeat' (first | refine yz ?_ | refine yp b38 va ?_ | refine yp b38 vb ?_ | refine yp b40 hfl ?_ | refine yx ?_ | (refine yy ?_ ?_ <;> intro _) | exact zD | exact zL)
 | true =>
 have g2 : (!Val.okV a) = false := by rw [h2]; rfl
 cases h3 : ci (cl7 a.k) (cl7 b.k) != 0 with
 | true =>
  refine ye2 func23 ntmps23 fun _ _ _=>?_
  repeat' (first | refine yz ?_ | refine yp b38 va ?_ | refine yp b38 vb ?_ | refine yp b42 (cm4 _) ?_ | refine yp b41 hcl ?_ | refine yx ?_ | (refine yy ?_ ?_ <;> intro _) | exact zD | exact zL)
 | false =>
 cases h4 : bs2 a with
 | true =>
  refine ye2 func23 ntmps23 fun _ _ _=>?_
  repeat' (first | refine yz ?_ | refine yp b38 va ?_ | refine yp b38 vb ?_ | refine yp b42 (cm4 _) ?_ | refine yp b41 hcl ?_ | refine qP (d := 39) rfl rfl rfl rfl rfl rfl b43 (na) ?_ | refine yp b43 nb ?_ | refine yp b44 hc ?_ | refine yx ?_ | (refine yy ?_ ?_ <;> intro _) | exact zD | exact zL)
 | false =>
  refine ye2 func23 ntmps23 fun _ _ _=>?_
  repeat' (first | refine yz ?_ | refine yp b38 va ?_ | refine yp b38 vb ?_ | refine yp b42 (cm4 _) ?_ | refine yp b41 hcl ?_ | refine qP (d := 39) rfl rfl rfl rfl rfl rfl b43 (na) ?_ | refine yp b43 nb ?_ | refine yp b40 hfl ?_ | refine yx ?_ | (refine yy ?_ ?_ <;> intro _) | exact zD | exact zL)
end Go.Proofs.YtaiiailapeffgaaGreatDoor
namespace Go.Proofs.YtaiiailapeffgaaGreatDoor
set_option maxRecDepth 4000
open Go Go.Abs Go.Val Go.RowKit Go.Proofs.Tryz
attribute [local irreducible] go SGo an2 Ev aw0 EvO
theorem cm8 {v : V} (h : br7 v = true) : v.l = [] := by
 simp only [br7, fm4, fk3, beq_iff_eq, List.length_eq_zero_iff] at h
 grind
theorem cm9 : ∀ (l : List V) (i : Nat), br9 i l = true → ∀ x ∈ l, br7 x = true
 | [], _, _, x, hx => by simp at hx
 | v :: r, i, h, x, hx => by
  simp only [br9, br8, fk3] at h;rcases fl1.1 hx with e | e
  ·rw [e]; exact h.1.2
  ·exact cm9 r (i + 1) h.2 x e
theorem cn0 {v : V} (m : Nat) (h : br7 v = true) : okN m v = true := by
 cases m <;> simp [okN, h]
theorem cn1 : ∀ (m : Nat) (v : V), okN m v = true → okN (m + 1) v = true
 | 0, v, h => by
  simp only [okN, fm4] at h ⊢;exact .inl h
 | m + 1, v, h => by
  have ih := cn1 m;simp only [okN, fm4, fk3, fm2, decide_eq_true_eq] at h ih ⊢;rcases h with h | h
  ·exact .inl h
  ·exact .inr ⟨h.1, h.2.1, fun x hx => by have := ih x (by have := h.2.2 x hx; simpa [okN] using this); simpa [okN] using this⟩
theorem cn2 {v : V} (h : Val.okV v = true) : ∀ x ∈ v.l, Val.okV x = true := by
 unfold Val.okV at h;rw [okN] at h;simp only [fm4, fk3, fm2] at h;intro x hx;rcases h with (h | h) | h
 ·rw [cm8 h] at hx; simp at hx
 ·have hp := h.2.2;simp only [bs0, fk3] at hp;exact cn0 8 (cm9 _ 0 hp.2 x hx)
 ·exact cn1 7 x (h.2.2 x hx)
theorem cn3 {v : V} (h : Val.okV v = true) : (v.k ≠ 3 → v.d = 0) ∧ (v.k ≠ 4 → v.s.toList = (⟨#[]⟩ : ByteArray).toList) ∧ (v.k = 4 → v.n = 0) ∧ (v.k = 7 ∨ v.k = 8 → v.n = 0) ∧ (v.k ≠ 7 → v.k ≠ 8 → v.l = []) := by
 unfold Val.okV at h;rw [okN] at h;simp only [br7, s0, fm4, fk3, beq_iff_eq, List.length_eq_zero_iff] at h
 grind
theorem cn4 {v : V} (h : Val.okV v = true) : bs2 v = (v.k == 2 || v.k == 3) := by unfold bs2; rw [h, fq7]
theorem cn5 {a b : Int} (ha : 0 ≤ a ∧ a ≤ 8) (hb : 0 ≤ b ∧ b ≤ 8) (h : ci (cl7 a) (cl7 b) = 0) (hn : (a == 2 || a == 3) = false) : a = b := by
 obtain ⟨x, rfl⟩ := Int.eq_ofNat_of_zero_le ha.1;obtain ⟨y, rfl⟩ := Int.eq_ofNat_of_zero_le hb.1;have hx : x < 9 := by omega
 have hy : y < 9 := by omega
 revert ha hb h hn;have key : ∀ (x y : Fin 9), ci (cl7 (x.val : Int)) (cl7 (y.val : Int)) = 0 → ((x.val : Int) == 2 || (x.val : Int) == 3) = false → (x.val : Int) = (y.val : Int) := by decide
 intros
 exact key ⟨x, hx⟩ ⟨y, hy⟩ (by assumption) (by assumption)
theorem cn6 {v : V} (h : Val.okV v = true) : 0 ≤ v.k ∧ v.k ≤ 8 := by have := cj5 h; omega
theorem cn7 {n d n' d' : Int} (h : bq8 n d = true) (h' : bq8 n' d' = true) (he : n * d' = n' * d) : n = n' ∧ d = d' := by
 simp only [bq8, fk3, decide_eq_true_eq, beq_iff_eq] at h h';have g : Int.gcd n d = 1 := by have := h.2.2.2; omega
 have g' : Int.gcd n' d' = 1 := by have := h'.2.2.2; omega
 have key : ∀ {n d n' d' : Int}, Int.gcd n d = 1 → n * d' = n' * d → d ∣ d' := by
  intro n d n' d' g he;have hdv : d ∣ n * d' := ⟨n', by rw [he, Int.mul_comm]⟩
  have h0 : d.natAbs ∣ d'.natAbs * n.natAbs := by
   have := Int.natAbs_dvd_natAbs.2 hdv;rwa [Int.natAbs_mul, fo9] at this
  have hc : Nat.Coprime d.natAbs n.natAbs := by
   unfold Nat.Coprime;rw [Nat.gcd_comm];exact g
  exact Int.natAbs_dvd_natAbs.1 (hc.dvd_of_dvd_mul_right h0)
 have h1 : d ∣ d' := key g he;have h2 : d' ∣ d := key g' he.symm;have hd : d = d' := Int.dvd_antisymm (by omega) (by omega) h1 h2;refine ⟨?_, hd⟩;rw [hd] at he;exact Int.eq_of_mul_eq_mul_right (by omega) he
theorem cn8 {v : V} (h : bs2 v = true) : bq8 (bs3 v) (bs4 v) = true := by
 have hok : Val.okV v = true := by unfold bs2 at h; simp only [fk3] at h; exact h.2
 have hk : v.k = 2 ∨ v.k = 3 := by unfold bs2 at h; simp only [fk3, fm4, beq_iff_eq] at h; exact h.1
 unfold bs3 bs4;rw [h];simp only [cond_true];obtain ⟨k, n, d, s, l⟩ := v;simp only [V.k] at hk;unfold Val.okV at hok;rw [bz8 8 k n d s l (by omega) (by omega)] at hok;rcases hk with rfl | rfl
 ·simp [br7, V.k, V.n, V.d, V.s, V.l] at hok;simp [V.k, V.n, bq8, hok.2]
 ·simp [br7, V.k, V.n, V.d, V.s, V.l] at hok;simpa [V.k, V.n, V.d] using hok.2.2
theorem cn9 {a b : V} (ha : bs2 a = true) (hb : bs2 b = true) : (cf9 (bs3 a) (bs4 a) (bs3 b) (bs4 b) == 0) = ((bs3 a == bs3 b) && (bs4 a == bs4 b)) := by
 have fa := cn8 ha;have fb := cn8 hb
 have e : cf9 (bs3 a) (bs4 a) (bs3 b) (bs4 b) = sgn (bs3 a * bs4 b - bs3 b * bs4 a) := by
  unfold cf9 fzn fzd;rw [fa, fb];rfl
 rw [e, fm5];simp only [beq_iff_eq, fk3];constructor
 ·intro h;refine cn7 fa fb ?_;unfold sgn at h;split at h
  ·cases h
  ·split at h
   ·cases h
   ·omega
 ·rintro ⟨h1, h2⟩;rw [h1, h2, Int.sub_self];rfl
def co0 (a b : V) (t : Int) : Int :=
 bif a.k == 0 || b.k == 0 || !Val.okV a || !Val.okV b then 1 else
 bif bs2 a && bs2 b then tt (cf9 (bs3 a) (bs4 a) (bs3 b) (bs4 b) == 0) else
 bif a.k != b.k then 0 else
 bif a.k == 4 then tt (a.s.toList == b.s.toList) else
 bif a.k != 8 && a.k != 7 then tt (a.n == b.n) else
 bif a.l.length != b.l.length then 0 else t
mutual
def eqF : V → V → Int
 | .mk k n d s l, b => co0 (.mk k n d s l) b (eqL l b.l 2)
def eqL : List V → List V → Int → Int
 | x :: r, y :: q, t => eqL r q (min (kn t) (kn (eqF x y)))
 | [], _, t => t
 | _ :: _, [], t => t
end
def eqM (g : V → V → Int) : List V → List V → Int → Int
 | x :: r, y :: q, t => eqM g r q (min (kn t) (kn (g x y)))
 | [], _, t => t
 | _ :: _, [], t => t
theorem co1 : ∀ (a b : List V) (t : Int), eqL a b t = eqM eqF a b t
 | [], b, t => by simp [eqL, eqM]
 | _ :: _, [], t => by simp [eqL, eqM]
 | x :: r, y :: q, t => by simp only [eqL, eqM]; rw [co1 r q]
theorem co2 (a b : V) : eqF a b = co0 a b (eqM eqF a.l b.l 2) := by
 cases a
 simp only [eqF, co1, V.l]
structure SE (a b : List V) where
 i : Nat
 t : Int
 hi : i ≤ a.length
 ok : eqM eqF a b 2 = eqM eqF (a.drop i) (b.drop i) t
end Go.Proofs.YtaiiailapeffgaaGreatDoor
