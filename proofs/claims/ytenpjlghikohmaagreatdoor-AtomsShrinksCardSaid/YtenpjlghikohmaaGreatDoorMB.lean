/- What the law's own same comes to; What the specification's weighing of values comes to; What the specification's test of smallness comes to; What the law's test of smallness comes to; The specification's wide numbers: their value, and what times, plus, minus, order and sum come to; The specification's product of wide numbers; The specification's sums of wide numbers; The specification's sum of signed wide numbers, and its comparison of fractions; The program's wide numbers and its comparison of fractions; Numbers and strings as text, by both texts; Values as text, by both texts; The program's . Conditions: each part's own, as it says. -/
import Derived.Test.YtenpjlghikohmaaGreatDoorGC
import Derived.Test.YtenpjlghikohmaaGreatDoorMA
import Derived.Test.YtenpjlghikohmaaGreatDoorGA
import Derived.Test.YtenpjlghikohmaaGreatDoorGB
import Derived.Shelf.Spec.BitsCarry
import Derived.Lib.ReplaceLaws
import Derived.Lib.Join
set_option linter.unusedVariables false
set_option linter.unusedSimpArgs false
namespace Go.Proofs.YtenpjlghikohmaaGreatDoor
set_option maxRecDepth 4000
open Go Go.Abs Go.Val Go.Proofs.Tryz
attribute [local irreducible] go SGo an2 Ev
theorem cc2 {P : V → Prop} (h : ∀ (k n d : Int) (s : ByteArray) (l : List V), (∀ x ∈ l, P x) → P (.mk k n d s l)) (v : V) : P v :=
 V.rec (motive_1 := P) (motive_2 := fun l => ∀ x ∈ l, P x) (fun k n d s l ih => h k n d s l ih) (fun x hx => by simp at hx)
  (fun a r ha hr x hx => by
   rcases fa6.1 hx with e | e
   ·rw [e]; exact ha
   ·exact hr x e) v
def cc3 (f : V → Int → Int) : List V → Int → Int
 | [], left => left
 | x :: r, left => bif decide (left ≥ 0) then cc3 f r (f x left) else left
def cc4 : Nat → V → Int → Int
 | 0, _, _ => -1
 | m + 1, v, left => cc3 (cc4 m) v.l (left - 1 - (v.s.size : Int).tdiv 50)
theorem cc5 (f : V → Int → Int) (h : ∀ x left, 0 ≤ left → f x left ≤ left) : ∀ (l : List V) (left : Int), cc3 f l left ≤ left
 | [], left => fg2 _
 | x :: r, left => by
  simp only [cc3]
  cases hd : decide (left ≥ 0) with
  | false => exact fg2 _
  | true =>
   have h0 : left ≥ 0 := of_decide_eq_true hd;exact Int.le_trans (cc5 f h r _) (h x left h0)
theorem cc6 : ∀ (m : Nat) (v : V) (left : Int), 0 ≤ left → cc4 m v left ≤ left
 | 0, v, left, h => by simp only [cc4]; omega
 | m + 1, v, left, h => by
  simp only [cc4];have h1 := cc5 (cc4 m) (fun x l h => cc6 m x l h) v.l (left - 1 - (v.s.size : Int).tdiv 50);have h2 := (av1 (a := (v.s.size : Int)) (b := 50) (by omega)).1 (by omega);omega
theorem cc7 (f : V → Int → Int) : ∀ (l : List V), (∀ x ∈ l, ∀ left, 0 ≤ left → -300000000000000000 ≤ f x left) → ∀ (left : Int), -300000000000000000 ≤ left → -300000000000000000 ≤ cc3 f l left
 | [], _, left, hl => hl
 | x :: r, h, left, hl => by
  simp only [cc3]
  cases hd : decide (left ≥ 0) with
  | false => exact hl
  | true =>
   have h0 : left ≥ 0 := of_decide_eq_true hd;exact cc7 f r (fun y hy => h y (by simp [hy])) _ (h x (by simp) left h0)
theorem cc8 {n : Nat} (h : n ≤ 9223372036854775807) : 0 ≤ (n : Int).tdiv 50 ∧ (n : Int).tdiv 50 ≤ 200000000000000000 := by
 rw [fg8 (by omega)];omega
theorem cc9 : ∀ (m : Nat) (v : V) (left : Int), Fit (enc v) → 0 ≤ left → -300000000000000000 ≤ cc4 m v left
 | 0, v, left, _, h => by simp only [cc4]; omega
 | m + 1, v, left, hf, h => by
  simp only [cc4];obtain ⟨-, -, -, hs, -, hk⟩ := bs2 hf;have h2 := cc8 hs;exact cc7 (cc4 m) v.l (fun x hx left h => cc9 m x left (hk x hx) h) _ (by omega)
structure SW (f : V → Int → Int) (l : List V) (left0 : Int) where
 i : Nat
 left : Int
 hi : i ≤ l.length
 hl : -300000000000000000 ≤ left
 hu : left ≤ 1099511627776
 ok : cc3 f l left0 = cc3 f (l.drop i) left
theorem cd0 (m : Nat) : ∀ (v : V) (left : Int), m ≤ 1000 → 0 ≤ left → left ≤ 1099511627776 → Ev E 144 [enc v, .int left, .int (m : Int)] (.d (.int (cc4 m v left))) := by
 induction m with
 | zero =>
  intro v left _ h0 hu;refine Ev.fit fun hfit => ?_
  obtain ⟨-, -, -, hs, -, hk⟩ := bs2 (hfit (enc v) (by simp));have hd := cc8 hs;refine ye3 func144 ntmps144 fun _ _ _=>?_
  repeat' (first | refine yz ?_ | refine yx ?_ | (refine yy ?_ ?_ <;> intro _) | exact zD | exact zL)
 | succ m ih =>
  intro v left hm h0 hu;refine Ev.fit fun hfit => ?_
  obtain ⟨-, -, -, hs, hmax, hk⟩ := bs2 (hfit (enc v) (by simp));have hd := cc8 hs;have hlen : (br4 v).length = v.l.length := bs0 v;have hm1 : decide (((m + 1 : Nat) : Int) < 1) = false := by simp; omega
  have hm2 : ((m + 1 : Nat) : Int) - 1 = (m : Int) := by omega
  simp only [cc4];refine ye3 func144 ntmps144 fun _ _ _=>?_
  repeat' (first | refine yz ?_ | refine yx ?_ | (refine yy ?_ ?_ <;> intro _) | exact zD | exact zL)
  refine ac7 (α := SW (cc4 m) v.l (left - 1 - (v.s.size : Int).tdiv 50)) (fun p => ⟨[(3, .ptr 0 0), (1, .d (.int p.left)), (2, .d (.int ((m + 1 : Nat) : Int))), (7, .d (.int p.i))], [.var 56 (.w (.d (enc v)))]⟩) (fun p => v.l.length - p.i) ⟨0, _, by omega, by omega, by omega, rfl⟩ (zle 1) ?_;rintro ⟨i, le, hi, hl, hu, ok⟩;dsimp only;rcases ez6 i v.l.length with hlt | hge
  ·have hd1 : decide ((i : Int) < ((br4 v).length : Int)) = true := by rw [hlen]; simpa using hlt
   have hx0 := ez5 hlt;generalize v.l[i] = x at hx0;have hx : (br4 v)[(i : Int).toNat]? = some (enc x) := br8 (by rw [fb4]; exact hx0);rw [ok, bz2 hx0];simp only [cc3]
   cases hge0 : decide (le ≥ 0) with
   | false =>
    repeat' (first | refine yz ?_ | refine yx ?_ | (refine yy ?_ ?_ <;> intro _) | exact zD | exact zL)
   | true =>
    have hle0 : 0 ≤ le := of_decide_eq_true hge0;have hw := ih x le (by omega) hle0 hu;have hg := cc9 m x le (hk x (ez9 hx0)) hle0;have hg2 := cc6 m x le hle0;rw [← hm2] at hw
    repeat' (first | refine yz ?_ | refine yi (enc x) hx ?_ | refine yp b144 hw ?_ | refine yx ?_ | (refine yy ?_ ?_ <;> intro _) | exact zD | exact zL)
    refine ac1 ?_;refine ⟨⟨i + 1, cc4 m x le, by omega, hg, by omega, by rw [ok, bz2 hx0]; simp only [cc3]; rw [hge0]; rfl⟩, by dsimp only; omega, (zle 1)⟩
  ·have hd1 : decide ((i : Int) < ((br4 v).length : Int)) = false := by rw [hlen]; simp; omega
   have : v.l.drop i = [] := fa1 hge;rw [ok, this]
   repeat' (first | refine yz ?_ | refine yx ?_ | (refine yy ?_ ?_ <;> intro _) | exact zD | exact zL)
def cd1 : List (List V) → Int → Int
 | [], most => most
 | r :: q, most => bif decide (most ≥ 0) then cd1 q (cc3 (cc4 12) r (most - 1)) else most
def cd2 (l : List (List V)) (most : Int) : Bool := decide (cd1 l most ≥ 0)
theorem cd3 {l : List (List V)} {i : Nat} {r : List V} (h : l[i]? = some r) : (Val.encR l)[i]? = some (.sl (br5 r)) := by
 unfold Val.encR;rw [ez8, h];rfl
theorem cd4 (l : List (List V)) : (Val.encR l).length = l.length := by simp [Val.encR]
structure SL (l : List (List V)) (most0 : Int) where
 i : Nat
 most : Int
 hi : i ≤ l.length
 hl : -300000000000000000 ≤ most
 hu : most ≤ 1099511627776
 ok : cd1 l most0 = cd1 (l.drop i) most
theorem cd5 (l : List (List V)) (most : Int) (h0 : 0 ≤ most) (hu0 : most ≤ 1099511627776) : Ev E 56 [.sl (Val.encR l), .int most] (.d (.bool (cd2 l most))) := by
 refine Ev.fit fun hfit => ?_
 have hf := (hfit (.sl (Val.encR l)) (by simp)).sls;have hlen : (Val.encR l).length = l.length := cd4 l;have hrow : ∀ r ∈ l, Fit (.sl (br5 r)) := fun r hr => hf.2 _ (by unfold Val.encR; exact fh0 hr)
 generalize hres : cd2 l most = res;unfold cd2 at hres;refine ye2 func56 ntmps56 fun _ _ _=>?_
 repeat' (first | refine yz ?_ | refine yx ?_ | (refine yy ?_ ?_ <;> intro _) | exact zD | exact zL)
 refine ac7 (α := SL l most) (fun p => ⟨[(0, .d (.sl (Val.encR l))), (1, .d (.int p.most)), (5, .d (.int p.i))], []⟩) (fun p => l.length - p.i) ⟨0, most, by omega, by omega, by omega, rfl⟩ (zle 0) ?_;rintro ⟨i, mo, hi, hl, hu, ok⟩;dsimp only;rcases ez6 i l.length with hlt | hge
 ·have hd1 : decide ((i : Int) < ((Val.encR l).length : Int)) = true := by rw [hlen]; simpa using hlt
  have hx0 := ez5 hlt;generalize l[i] = r at hx0;have hx : (Val.encR l)[(i : Int).toNat]? = some (.sl (br5 r)) := cd3 (by rw [fb4]; exact hx0);obtain ⟨hrl, hrk⟩ := bs3 (hrow r (ez9 hx0));have hlr : (br5 r).length = r.length := bs1 r
  cases hge0 : decide (mo ≥ 0) with
  | false =>
   repeat' (first | refine yz ?_ | refine yx ?_ | (refine yy ?_ ?_ <;> intro _) | exact zD | exact zL)
   all_goals (refine congrArg D.bool ?_; rw [← hres, ok, bz2 hx0]; simp only [cd1, hge0, cond_false])
  | true =>
   have hmo : 0 ≤ mo := of_decide_eq_true hge0
   repeat' (first | refine yz ?_ | refine qI (.sl (br5 r)) rfl (ap2 rfl) rfl rfl rfl rfl rfl rfl (by first | omega | decide) hx ?_ | refine yx ?_ | (refine yy ?_ ?_ <;> intro _) | exact zD | exact zL)
   refine ac7 (α := SW (cc4 12) r (mo - 1)) (fun p => ⟨[(0, .d (.sl (Val.encR l))), (1, .d (.int p.left)), (5, .d (.int i)), (6, .d (.int p.i))], []⟩) (fun p => r.length - p.i) ⟨0, mo - 1, by omega, by omega, by omega, rfl⟩ (zle 0) ?_;rintro ⟨k, le, hk, hl2, hu2, ok2⟩;dsimp only;rcases ez6 k r.length with hklt | hkge
   ·have hd2 : decide ((k : Int) < ((br5 r).length : Int)) = true := by rw [hlr]; simpa using hklt
    have hy0 := ez5 hklt;generalize r[k] = v at hy0;have hy : (br5 r)[(k : Int).toNat]? = some (enc v) := br9 (by rw [fb4]; exact hy0)
    cases hle0 : decide (le ≥ 0) with
    | false =>
     repeat' (first | refine yz ?_ | refine qI (.sl (br5 r)) rfl (ap2 rfl) rfl rfl rfl rfl rfl rfl (by first | omega | decide) hx ?_ | refine yx ?_ | (refine yy ?_ ?_ <;> intro _) | exact zD | exact zL)
     refine ac1 ?_;refine ⟨⟨i + 1, le, by omega, hl2, hu2, ?_⟩, by dsimp only; omega, (zle 0)⟩;rw [ok, bz2 hx0];simp only [cd1];rw [hge0, cond_true, ok2, bz2 hy0];simp only [cc3];rw [hle0, cond_false]
    | true =>
     have hle : 0 ≤ le := of_decide_eq_true hle0;have hw := cd0 12 v le (by omega) hle hu2;have hg := cc9 12 v le (hrk v (ez9 hy0)) hle;have hg2 := cc6 12 v le hle
     repeat' (first | refine yz ?_ | refine qI (.sl (br5 r)) rfl (ap2 rfl) rfl rfl rfl rfl rfl rfl (by first | omega | decide) hx ?_ | refine yi (enc v) hy ?_ | refine yp b144 hw ?_ | refine yx ?_ | (refine yy ?_ ?_ <;> intro _) | exact zD | exact zL)
     refine ac1 ?_;refine ⟨⟨k + 1, cc4 12 v le, by omega, hg, by omega, by rw [ok2, bz2 hy0]; simp only [cc3]; rw [hle0]; rfl⟩, by dsimp only; omega, (zle 0)⟩
   ·have hd2 : decide ((k : Int) < ((br5 r).length : Int)) = false := by rw [hlr]; simp; omega
    have hnil : r.drop k = [] := fa1 hkge
    repeat' (first | refine yz ?_ | refine qI (.sl (br5 r)) rfl (ap2 rfl) rfl rfl rfl rfl rfl rfl (by first | omega | decide) hx ?_ | refine yx ?_ | (refine yy ?_ ?_ <;> intro _) | exact zD | exact zL)
    refine ac1 ?_;refine ⟨⟨i + 1, le, by omega, hl2, hu2, ?_⟩, by dsimp only; omega, (zle 0)⟩;rw [ok, bz2 hx0];simp only [cd1];rw [hge0, cond_true, ok2, hnil];rfl
 ·have hd1 : decide ((i : Int) < ((Val.encR l).length : Int)) = false := by rw [hlen]; simp; omega
  have : l.drop i = [] := fa1 hge
  repeat' (first | refine yz ?_ | refine yx ?_ | (refine yy ?_ ?_ <;> intro _) | exact zD | exact zL)
  all_goals (refine congrArg D.bool ?_; rw [← hres, ok, this]; rfl)
def wv : List Int → Int
 | [] => 0
 | d :: r => d + 1000 * wv r
def wok (l : List Int) : Prop := ∀ d ∈ l, 0 ≤ d ∧ d ≤ 999
def cd6 (l : List Int) : List D := l.map fun n => .int n
theorem cd7 {l : List Int} {i : Nat} {x : Int} (h : l[i]? = some x) : (cd6 l)[i]? = some (.int x) := by
 unfold cd6;rw [ez8, h];rfl
theorem cd8 (l : List Int) : (cd6 l).length = l.length := by simp [cd6]
def pw : Nat → Int
 | 0 => 1
 | k + 1 => 1000 * pw k
theorem cd9 : ∀ k, 1 ≤ pw k
 | 0 => fg2 _
 | k + 1 => by have := cd9 k; simp only [pw]; omega
theorem ce0 (m : Nat) : ∀ k, pw (m + k) = pw m * pw k
 | 0 => by simp [pw]
 | k + 1 => by
  rw [← fh6];simp only [pw];rw [ce0 m k, Int.mul_left_comm]
theorem ce1 {k m : Nat} {c : Int} (hc : 1 ≤ c) (h : c * pw k ≤ pw m) : k ≤ m := by
 rcases ez6 m k with hlt | hge
 ·exfalso;obtain ⟨j, rfl⟩ : ∃ j, k = (m + 1) + j := ⟨k - (m + 1), by omega⟩;have h1 := cd9 m;have h2 := cd9 j
  have h3 : pw (m + 1) ≤ pw (m + 1) * pw j := by
   have := fm2 h2 (show 0 ≤ pw (m + 1) by have := cd9 (m + 1); omega);rwa [Int.mul_one] at this
  rw [ce0] at h
  have h4 : pw (m + 1) * pw j ≤ c * (pw (m + 1) * pw j) := by
   have := fm3 hc (show 0 ≤ pw (m + 1) * pw j by have := cd9 (m + 1); omega);rwa [Int.one_mul] at this
  simp only [pw] at h3 h4 h;omega
 ·exact hge
theorem ce2 : ∀ (l : List Int) (k : Nat) (x y : Int), l[k]? = some x → wv (l.set k y) = wv l + pw k * (y - x)
 | [], k, x, y, h => by simp at h
 | d :: r, 0, x, y, h => by simp at h; subst h; simp only [List.set_cons_zero, wv, pw]; omega
 | d :: r, k + 1, x, y, h => by
  have ih := ce2 r k x y (by simpa using h);simp only [List.set_cons_succ, wv, ih, pw];rw [Int.mul_add, ← fj7];omega
theorem ce3 : ∀ (l : List Int), wok l → 0 ≤ wv l
 | [], _ => fg2 _
 | d :: r, h => by
  have h1 := (h d (by simp)).1;have h2 := ce3 r fun x hx => h x (by simp [hx])
  simp only [wv];omega
theorem ce4 {l : List Int} (h : wok l) (k : Nat) (y : Int) (hy : 0 ≤ y ∧ y ≤ 999) : wok (l.set k y) := fun d hd => by
 rcases fk6 hd with h1 | h1
 ·exact h d h1
 ·rw [h1]; exact hy
def sgn (n : Int) : Int := if n < 0 then -1 else if n > 0 then 1 else 0
theorem ce5 (n : Int) : Ev E 273 [.int n] (.d (.int (sgn n))) := by
 refine ye1 func273 ntmps273 fun _ _ _=>?_
 repeat' (first | refine yz ?_ | (refine qV rfl ?_ ?_ <;> intro _))
 all_goals (refine congrArg D.int ?_; simp only [decide_eq_true_eq, decide_eq_false_iff_not] at *; unfold sgn; split <;> (try split) <;> omega)
structure TO (a0 b : Int) where
 i : Nat
 a : Int
 out : List Int
 ha : 0 ≤ a
 hb : a * pw i ≤ 1000000000000000
 ok : wok out
 hl : out.length = 14
 hv : wv out + pw i * (a * b) = a0 * b
structure TI (a0 b d a' : Int) (i : Nat) where
 k : Nat
 c : Int
 carry : Int
 out : List Int
 hk : k ≤ 11
 hc : 0 ≤ c
 hcb : ∃ j, k = i + j ∧ c * pw j ≤ 1000000000000000
 hca : 0 ≤ carry ∧ carry ≤ 999
 ok : wok out
 hl : out.length = 14
 hv : wv out + pw k * (d * c + carry) + pw (i + 1) * (a' * b) = a0 * b
theorem ce6 {out : List Int} (hl : out.length = 14) {k : Nat} (hk : k < 14) : ∃ x, out[k]? = some x := ⟨out[k], ez5 (by omega)⟩
theorem ce7 (l : List Int) (k : Nat) (y : Int) : (cd6 l).set k (.int y) = cd6 (l.set k y) := by simp [cd6, List.map_set]
theorem ce8 {out : List Int} {k i : Nat} {x d c carry a' b T : Int} (hx : out[k]? = some x) (h0 : 0 ≤ carry + x + d * (c % 1000)) (hc : 0 ≤ c)
  (hv : wv out + pw k * (d * c + carry) + pw (i + 1) * (a' * b) = T) :
  wv (out.set k ((carry + x + d * (c % 1000)) % 1000)) + pw (k + 1) * (d * (c / 1000) + (carry + x + d * (c % 1000)) / 1000) + pw (i + 1) * (a' * b) = T := by
 rw [ce2 out k x _ hx, ← hv];have e1 : c = c % 1000 + 1000 * (c / 1000) := by omega
 have e2 : carry + x + d * (c % 1000) = (carry + x + d * (c % 1000)) % 1000 + 1000 * ((carry + x + d * (c % 1000)) / 1000) := by omega
 generalize hq : (carry + x + d * (c % 1000)) / 1000 = q at *;generalize hr : (carry + x + d * (c % 1000)) % 1000 = r at *
 have e3 : d * c = d * (c % 1000) + 1000 * (d * (c / 1000)) := by
  rw [← Int.mul_left_comm, ← Int.mul_add, ← e1]
 have e4 : pw (k + 1) * (d * (c / 1000) + q) = pw k * (1000 * (d * (c / 1000)) + 1000 * q) := by
  simp only [pw];rw [Int.mul_comm 1000 (pw k), fj7, Int.mul_add 1000]
 have e5 : pw k * (r - x) + pw k * (1000 * (d * (c / 1000)) + 1000 * q) = pw k * (d * c + carry) := by
  rw [← Int.mul_add];congr 1;omega
 rw [e4];omega
theorem pw5 : pw 5 = 1000000000000000 := by decide
def ce9 : Nat → Int → List Int
 | 0, _ => []
 | k + 1, n => n % 1000 :: ce9 k (n / 1000)
theorem cf0 : ∀ (l : List Int), wok l → ce9 l.length (wv l) = l
 | [], _ => rfl
 | d :: r, h => by
  have hd := h d (by simp);simp only [fa8, ce9, wv];rw [show (d + 1000 * wv r) % 1000 = d from by omega, show (d + 1000 * wv r) / 1000 = wv r from by omega, cf0 r fun x hx => h x (by simp [hx])]
theorem cf1 {l : List Int} {n : Int} (h : wok l) (hl : l.length = 14) (hv : wv l = n) : l = ce9 14 n := by
 rw [← hv, ← hl, cf0 l h]
theorem cf2 : ∀ (k : Nat) (n : Int), (ce9 k n).length = k
 | 0, _ => rfl
 | k + 1, n => by simp [ce9, cf2 k]
theorem cf3 : ∀ (k : Nat) (n : Int), wok (ce9 k n)
 | 0, _ => by intro d hd; simp [ce9] at hd
 | k + 1, n => by
  intro d hd;simp only [ce9, fa6] at hd;rcases hd with h | h
  ·subst h; omega
  ·exact cf3 k _ d h
theorem cf4 : ∀ (k : Nat) (n : Int), 0 ≤ n → n < pw k → wv (ce9 k n) = n
 | 0, n, h0, h1 => by simp only [pw] at h1; simp only [ce9, wv]; omega
 | k + 1, n, h0, h1 => by
  simp only [pw] at h1;simp only [ce9, wv];rw [cf4 k (n / 1000) (by omega) (by omega)];omega
theorem cf5 {a0 b d c carry a' : Int} {k i : Nat} {out : List Int} (ha0 : 0 ≤ a0) (ha1 : a0 ≤ 1000000000000000) (hb0 : 0 ≤ b) (hb1 : b ≤ 1000000000000000) (ok : wok out) (hd : 0 ≤ d) (hc : 0 ≤ c) (hca : carry > 0) (ha' : 0 ≤ a')
  (hv : wv out + pw k * (d * c + carry) + pw (i + 1) * (a' * b) = a0 * b) : k ≤ 10 := by
 have h1 := ce3 out ok;have h2 : 0 ≤ pw (i + 1) * (a' * b) := fj4 (by have := cd9 (i + 1); omega) (fj4 ha' hb0);have h3 : a0 * b ≤ 1000000000000000 * 1000000000000000 := Int.mul_le_mul ha1 hb1 hb0 (by omega);have h4 : 1 ≤ d * c + carry := by have := fj4 hd hc; omega
 refine ce1 h4 ?_;rw [Int.mul_comm, show pw 10 = 1000000000000000 * 1000000000000000 from by decide];omega
theorem cf6 (l : List Int) (k : Nat) (x y : Int) : (cd6 l).set ((k : Int)).toNat (ar1 (.int x) 0 (.int y)) = cd6 (l.set k y) := by
 rw [fb4];exact ce7 l k y
theorem cf7 {a0 b d a' : Int} {i k j : Nat} {c carry x : Int} {out : List Int} (hk : k ≤ 10) (hj : k = i + j) (hcb : c * pw j ≤ 1000000000000000) (hc : 0 ≤ c) (hca : 0 ≤ carry ∧ carry ≤ 999) (ok : wok out) (hl : out.length = 14) (hx : out[k]? = some x) (hxr : 0 ≤ x ∧ x ≤ 999)
  (hp : 0 ≤ d * c.tmod 1000 ∧ d * c.tmod 1000 ≤ 998001) (hv : wv out + pw k * (d * c + carry) + pw (i + 1) * (a' * b) = a0 * b) :
  ∃ y : TI a0 b d a' i, y.k = k + 1 ∧ y.c = c.tdiv 1000 ∧ y.carry = (carry + x + d * c.tmod 1000).tdiv 1000 ∧ y.out = out.set k ((carry + x + d * c.tmod 1000).tmod 1000) := by
 have s1 : c.tmod 1000 = c % 1000 := ff9 hc;have s2 : c.tdiv 1000 = c / 1000 := fg8 hc;have t0 : 0 ≤ carry + x + d * c.tmod 1000 := by omega
 have s3 : (carry + x + d * c.tmod 1000).tmod 1000 = (carry + x + d * c.tmod 1000) % 1000 := ff9 t0;have s4 : (carry + x + d * c.tmod 1000).tdiv 1000 = (carry + x + d * c.tmod 1000) / 1000 := fg8 t0;refine ⟨⟨k + 1, c.tdiv 1000, (carry + x + d * c.tmod 1000).tdiv 1000, out.set k ((carry + x + d * c.tmod 1000).tmod 1000), by omega, by rw [s2]; omega, ⟨j + 1, by omega, ?_⟩, by rw [s4]; omega, ce4 ok k _ (by rw [s3]; omega), by simpa using hl, ?_⟩, rfl, rfl, rfl, rfl⟩
 ·rw [s2];simp only [pw];have h1 : c / 1000 * 1000 ≤ c := by omega
  have := fm3 h1 (show 0 ≤ pw j by have := cd9 j; omega);rw [fj7] at this;omega
 ·rw [s3, s4, s1, s2];rw [s1] at t0;exact ce8 hx t0 hc hv
theorem cf8 (a0 b : Int) (ha0 : 0 ≤ a0) (ha1 : a0 ≤ 1000000000000000) (hb0 : 0 ≤ b) (hb1 : b ≤ 1000000000000000) : Ev E 274 [.int a0, .int b] (.d (.sl (cd6 (ce9 14 (a0 * b))))) := by
 refine ye2 func274 ntmps274 fun _ _ _=>?_
 repeat' (refine yz ?_)
 refine ac7 (α := TO a0 b) (fun p => ⟨[(0, .d (.int p.a)), (1, .d (.int b)), (5, .own 0), (6, .d (.int p.i))], [.row 3 1 (cd6 p.out)]⟩) (fun p => p.a.toNat) ⟨0, a0, List.replicate 14 0, ha0, by simp only [pw]; omega, fun d hd => by rw [(fj3.1 hd).2]; omega, by simp, by simp [pw, wv, List.replicate]⟩ (zle 1) ?_;rintro ⟨i, a, out, ha, hb, ok, hl, hv⟩;dsimp only
 by_cases hpos : a > 0
 ·have hd : decide (a > 0) = true := by simpa using hpos
  have hi5 : i ≤ 5 := ce1 (show 1 ≤ a by omega) (by rw [pw5]; exact hb);have q1 : a.tmod 1000 = a % 1000 := ff9 ha;have q2 : a.tdiv 1000 = a / 1000 := fg8 ha
  have ha2 : a ≤ 1000000000000000 := by
   have := fm2 (cd9 i) ha;rw [Int.mul_one] at this;omega
  have r1 : inR .i64 (a.tmod 1000) := by rw [q1]; simp only [inR]; omega
  have hinit : wv out + pw i * (a.tmod 1000 * b + 0) + pw (i + 1) * (a.tdiv 1000 * b) = a0 * b := by
   rw [← hv, q1, q2, Int.add_zero]
   have e : a * b = a % 1000 * b + 1000 * (a / 1000 * b) := by
    rw [← fj7, ← Int.add_mul, show a % 1000 + 1000 * (a / 1000) = a from by omega]
   rw [e, Int.mul_add];simp only [pw];rw [Int.mul_comm 1000 (pw i), fj7];omega
  repeat' (refine yz ?_)
  refine ac7 (α := TI a0 b (a.tmod 1000) (a.tdiv 1000) i) (fun p => ⟨[(0, .d (.int (a.tdiv 1000))), (1, .d (.int b)), (5, .own 0), (6, .d (.int i)), (7, .d (.int (a.tmod 1000))), (8, .d (.int p.c)), (9, .d (.int p.carry)), (10, .d (.int p.k))], [.row 3 1 (cd6 p.out)]⟩) (fun p => 20 - p.k) ⟨i, b, 0, out, by omega, hb0, ⟨0, rfl, by simp only [pw]; omega⟩, by omega, ok, hl, hinit⟩ (zle 1) ?_;rintro ⟨k, c, carry, o2, hk, hc, ⟨j, hj, hcb⟩, hca, ok2, hl2, hv2⟩;dsimp only;have hd0 : 0 ≤ a.tmod 1000 ∧ a.tmod 1000 ≤ 999 := by rw [q1]; omega
  by_cases hcont : c > 0 ∨ carry > 0
  ·have hk10 : k ≤ 10 := by
    rcases hcont with h | h
    ·have : j ≤ 5 := ce1 (show 1 ≤ c by omega) (by rw [pw5]; exact hcb);omega
    ·exact cf5 ha0 ha1 hb0 hb1 ok2 hd0.1 hc h (by rw [q2]; omega) hv2
   obtain ⟨x, hx⟩ := ce6 hl2 (show k < 14 by omega);have hx' : (cd6 o2)[((k : Int)).toNat]? = some (.int x) := cd7 (by rw [fb4]; exact hx);have hxr := ok2 x (ez9 hx);have hle : (cd6 o2).length = 14 := by rw [cd8]; exact hl2
   have s1 : c.tmod 1000 = c % 1000 := ff9 hc;have s2 : c.tdiv 1000 = c / 1000 := fg8 hc
   have hp : 0 ≤ a.tmod 1000 * c.tmod 1000 ∧ a.tmod 1000 * c.tmod 1000 ≤ 998001 := by
    have h1 : 0 ≤ c.tmod 1000 ∧ c.tmod 1000 ≤ 999 := by rw [s1]; omega
    refine ⟨fj4 hd0.1 h1.1, ?_⟩;have := Int.mul_le_mul hd0.2 h1.2 h1.1 (by omega);omega
   have hc15 : c ≤ 1000000000000000 := by
    have := fm2 (cd9 j) hc;rw [Int.mul_one] at this;omega
   obtain ⟨y, e1, e2, e3, e4⟩ := cf7 hk10 hj hcb hc hca ok2 hl2 hx hxr hp hv2
   by_cases hc0 : c > 0
   ·have g1 : decide (c > 0) = true := by simpa using hc0
    repeat' (first | refine yz ?_ | refine qW (.int x) rfl rfl rfl rfl rfl rfl hx' rfl ?_ | refine qZ (.int x) rfl rfl rfl rfl rfl rfl hx' rfl rfl rfl ?_ | refine yx ?_)
    refine ac1 ?_;refine ⟨y, by omega, ?_⟩;rw [e1, e2, e3, e4, ← cf6 o2 k x];exact (zle 1)
   ·have g1 : decide (c > 0) = false := by simpa using hc0
    have g2 : decide (carry > 0) = true := by simp; omega
    repeat' (first | refine yz ?_ | refine qW (.int x) rfl rfl rfl rfl rfl rfl hx' rfl ?_ | refine qZ (.int x) rfl rfl rfl rfl rfl rfl hx' rfl rfl rfl ?_ | refine yx ?_)
    refine ac1 ?_;refine ⟨y, by omega, ?_⟩;rw [e1, e2, e3, e4, ← cf6 o2 k x];exact (zle 1)
  ·have g1 : decide (c > 0) = false := by simp; omega
   have g2 : decide (carry > 0) = false := by simp; omega
   have hc0 : c = 0 := by omega
   have hca0 : carry = 0 := by omega
   subst hc0 hca0
   repeat' (refine yz ?_)
   refine ac1 ?_;refine ⟨⟨i + 1, a.tdiv 1000, o2, by rw [q2]; omega, ?_, ok2, hl2, ?_⟩, by dsimp only; omega, (zle 1)⟩
   ·rw [q2];simp only [pw];have h1 : a / 1000 * 1000 ≤ a := by omega
    have := fm3 h1 (show 0 ≤ pw i by have := cd9 i; omega);rw [fj7] at this;omega
   ·rw [← hv2, Int.mul_zero, Int.add_zero, Int.mul_zero, Int.add_zero]
 ·have hd : decide (a > 0) = false := by simpa using hpos
  have ha' : a = 0 := by omega
  subst ha';rw [Int.zero_mul, Int.mul_zero, Int.add_zero] at hv;rw [← cf1 ok hl hv]
  repeat' (refine yz ?_)
  refine au8 0 rfl ?_
  repeat' (first | refine qL rfl rfl ?_ | exact zD)
structure SPM (x y : List Int) (s : Int) where
 k : Nat
 carry : Int
 out : List Int
 hk : k ≤ 14
 hca : carry = 0 ∨ carry = s
 ok : wok out
 hl : out.length = 14
 hz : ∀ j, k ≤ j → j < 14 → out[j]? = some 0
 hv : wv out + pw k * (carry + wv (x.drop k) + s * wv (y.drop k)) = wv x + s * wv y
theorem cf9 {x y : List Int} {s : Int} (p : SPM x y s) (hk : p.k < 14) {a b r q : Int} (ha : x[p.k]? = some a) (hb : y[p.k]? = some b) (he : p.carry + a + s * b = r + 1000 * q) (hr : 0 ≤ r ∧ r ≤ 999) (hq : q = 0 ∨ q = s) :
  ∃ p' : SPM x y s, p'.k = p.k + 1 ∧ p'.carry = q ∧ p'.out = p.out.set p.k r := by
 refine ⟨⟨p.k + 1, q, p.out.set p.k r, by omega, hq, ce4 p.ok _ _ hr, by simpa using p.hl, fun j h1 h2 => ?_, ?_⟩, rfl, rfl, rfl⟩
 ·rw [fk2 (by omega)];exact p.hz j (by omega) h2
 ·rw [ce2 p.out p.k 0 r (p.hz p.k (fa4 _) hk), ← p.hv, bz2 ha, bz2 hb];simp only [wv, pw];have e1 : s * (b + 1000 * wv (List.drop (p.k + 1) y)) = s * b + 1000 * (s * wv (List.drop (p.k + 1) y)) := by rw [Int.mul_add, Int.mul_left_comm]
  have e2 : p.carry + (a + 1000 * wv (List.drop (p.k + 1) x)) + s * (b + 1000 * wv (List.drop (p.k + 1) y)) = r + 1000 * (q + wv (List.drop (p.k + 1) x) + s * wv (List.drop (p.k + 1) y)) := by
   rw [e1];omega
  rw [e2, Int.mul_add (pw p.k) r, ← fj7 (pw p.k) 1000, Int.mul_comm (pw p.k) 1000, Int.sub_zero, Int.add_assoc]
theorem cg0 : ∀ (l : List Int), wok l → wv l < pw l.length
 | [], _ => by decide
 | d :: r, h => by
  have h1 := h d (by simp);have h2 := cg0 r fun x hx => h x (by simp [hx])
  simp only [wv, fa8, pw];omega
theorem cg1 {x y : List Int} {s : Int} (p : SPM x y s) (hx : x.length = 14) (hy : y.length = 14) (hk : p.k = 14) (hs : s = 1 ∨ s = -1) (h0 : 0 ≤ wv x + s * wv y) (h1 : wv x + s * wv y < pw 14) : p.out = ce9 14 (wv x + s * wv y) := by
 have hb := cg0 p.out p.ok;rw [p.hl] at hb;have hv := p.hv;rw [hk, fa1 (by omega), fa1 (by omega)] at hv;simp only [wv, Int.mul_zero, Int.add_zero] at hv;have hp : pw 14 = 1000000000000000000000000000000000000000000 := by decide
 rw [hp] at h1 hb hv;have hn := ce3 p.out p.ok;refine cf1 p.ok p.hl ?_;rcases p.hca with h | h <;> rcases hs with h' | h' <;> rw [h] at hv <;> (try rw [h'] at hv h0 h1 ⊢) <;> omega
def spm0 (x y : List Int) (s : Int) : SPM x y s := ⟨0, 0, List.replicate 14 0, by omega, .inl rfl, fun d hd => by rw [(fj3.1 hd).2]; omega, by simp, fun j _ h => by rw [List.getElem?_replicate, if_pos h], by
 have : wv (List.replicate 14 0) = 0 := by decide
 rw [this];simp [pw]⟩
theorem cg2 {x : List Int} (hx : wok x) (hl : x.length = 14) {k : Nat} (hk : k < 14) : ∃ a, x[k]? = some a ∧ (cd6 x)[((k : Int)).toNat]? = some (.int a) ∧ 0 ≤ a ∧ a ≤ 999 := by
 obtain ⟨a, ha⟩ := ce6 hl hk;exact ⟨a, ha, cd7 (by rw [fb4]; exact ha), hx a (ez9 ha)⟩
theorem cg3 (x y : List Int) (hx : wok x) (hy : wok y) (lx : x.length = 14) (ly : y.length = 14) (h1 : wv x + wv y < pw 14) : Ev E 344 [.sl (cd6 x), .sl (cd6 y)] (.d (.sl (cd6 (ce9 14 (wv x + wv y))))) := by
 have zx := ce3 x hx;have zy := ce3 y hy;have hlx : (cd6 x).length = 14 := by rw [cd8]; exact lx
 have hlxz : ((cd6 x).length : Int) = 14 := by rw [hlx]; rfl
 refine ye2 func344 ntmps344 fun _ _ _=>?_
 repeat' (first | refine yz ?_ | (refine qS rfl ⟨rfl, by (show 8 * (cd6 x).length ≤ 281474976710656; omega), by omega⟩ ?_))
 refine ac7 (α := SPM x y 1) (fun p => ⟨[(0, .d (.sl (cd6 x))), (1, .d (.sl (cd6 y))), (5, .own 0), (6, .d (.int p.carry)), (7, .d (.int p.k))], [.row 3 1 (cd6 p.out)]⟩) (fun p => 14 - p.k) (spm0 x y 1) (by rw [hlx]; exact (zle 1)) ?_;intro p;have hkk := p.hk;rcases ez6 p.k 14 with hlt | hge
 ·have hd : decide ((p.k : Int) < ((cd6 x).length : Int)) = true := by rw [hlx]; simp; omega
  obtain ⟨a, a1, a2, a3⟩ := cg2 hx lx hlt;obtain ⟨b, b1, b2, b3⟩ := cg2 hy ly hlt;have c2 : (cd6 p.out)[((p.k : Int)).toNat]? = some (.int 0) := cd7 (by rw [fb4]; exact p.hz p.k (fa4 _) hlt);have hle : (cd6 p.out).length = 14 := by rw [cd8]; exact p.hl
  have hca := p.hca;have t0 : 0 ≤ p.carry + a + b := by omega
  obtain ⟨p', e1, e2, e3⟩ := cf9 p hlt a1 b1 (r := (p.carry + a + b).tmod 1000) (q := (p.carry + a + b).tdiv 1000) (by rw [ff9 t0, fg8 t0]; omega) (by rw [ff9 t0]; omega) (by rw [fg8 t0]; omega)
  repeat' (first | refine yz ?_ | refine yi (.int a) a2 ?_ | refine yi (.int b) b2 ?_ | refine qZ (.int 0) rfl rfl rfl rfl rfl rfl c2 rfl rfl rfl ?_)
  refine ac1 ?_;refine ⟨p', by omega, ?_⟩;rw [e1, e2, e3, ← cf6 p.out p.k 0];exact (zle 1)
 ·have hd : decide ((p.k : Int) < ((cd6 x).length : Int)) = false := by rw [hlx]; simp; omega
  have hend := cg1 p lx ly (by omega) (.inl rfl) (by omega) (by omega);rw [Int.one_mul] at hend;rw [← hend]
  repeat' (refine yz ?_)
  refine au8 0 rfl ?_
  repeat' (first | refine qL rfl rfl ?_ | exact zD)
theorem cg4 (x y : List Int) (hx : wok x) (hy : wok y) (lx : x.length = 14) (ly : y.length = 14) (h1 : wv y ≤ wv x) : Ev E 346 [.sl (cd6 x), .sl (cd6 y)] (.d (.sl (cd6 (ce9 14 (wv x - wv y))))) := by
 have zx := cg0 x hx;rw [lx] at zx;have zy := ce3 y hy;have hlx : (cd6 x).length = 14 := by rw [cd8]; exact lx
 refine ye2 func346 ntmps346 fun _ _ _=>?_
 repeat' (first | refine yz ?_ | (refine qS rfl ⟨rfl, by (show 8 * (cd6 x).length ≤ 281474976710656; omega), by omega⟩ ?_))
 refine ac7 (α := SPM x y (-1)) (fun p => ⟨[(0, .d (.sl (cd6 x))), (1, .d (.sl (cd6 y))), (5, .own 0), (6, .d (.int p.carry)), (7, .d (.int p.k))], [.row 3 1 (cd6 p.out)]⟩) (fun p => 14 - p.k) (spm0 x y (-1)) (by rw [hlx]; exact (zle 1)) ?_;intro p;have hkk := p.hk;rcases ez6 p.k 14 with hlt | hge
 ·have hd : decide ((p.k : Int) < ((cd6 x).length : Int)) = true := by rw [hlx]; simp; omega
  obtain ⟨a, a1, a2, a3⟩ := cg2 hx lx hlt;obtain ⟨b, b1, b2, b3⟩ := cg2 hy ly hlt;have c2 : (cd6 p.out)[((p.k : Int)).toNat]? = some (.int 0) := cd7 (by rw [fb4]; exact p.hz p.k (fa4 _) hlt);have hle : (cd6 p.out).length = 14 := by rw [cd8]; exact p.hl
  have hca := p.hca
  by_cases hneg : p.carry + a - b < 0
  ·have g1 : decide (p.carry + a - b < 0) = true := by simpa using hneg
   obtain ⟨p', e1, e2, e3⟩ := cf9 p hlt a1 b1 (r := p.carry + a - b + 1000) (q := -1) (by omega) (by omega) (by omega)
   repeat' (first | refine yz ?_ | refine yi (.int a) a2 ?_ | refine yi (.int b) b2 ?_ | refine qZ (.int 0) rfl rfl rfl rfl rfl rfl c2 rfl rfl rfl ?_)
   refine ac1 ?_;refine ⟨p', by omega, ?_⟩;rw [e1, e2, e3, ← cf6 p.out p.k 0];exact (zle 1)
  ·have g1 : decide (p.carry + a - b < 0) = false := by simpa using hneg
   obtain ⟨p', e1, e2, e3⟩ := cf9 p hlt a1 b1 (r := p.carry + a - b) (q := 0) (by omega) (by omega) (by omega)
   repeat' (first | refine yz ?_ | refine yi (.int a) a2 ?_ | refine yi (.int b) b2 ?_ | refine qZ (.int 0) rfl rfl rfl rfl rfl rfl c2 rfl rfl rfl ?_)
   refine ac1 ?_;refine ⟨p', by omega, ?_⟩;rw [e1, e2, e3, ← cf6 p.out p.k 0];exact (zle 1)
 ·have hd : decide ((p.k : Int) < ((cd6 x).length : Int)) = false := by rw [hlx]; simp; omega
  have hend := cg1 p lx ly (by omega) (.inr rfl) (by omega) (by omega);rw [show wv x + -1 * wv y = wv x - wv y from by omega] at hend;rw [← hend]
  repeat' (refine yz ?_)
  refine au8 0 rfl ?_
  repeat' (first | refine qL rfl rfl ?_ | exact zD)
theorem cg5 : ∀ (l : List Int) (k : Nat), k ≤ l.length → wv l = wv (l.take k) + pw k * wv (l.drop k)
 | l, 0, _ => by simp [wv, pw]
 | [], k + 1, h => by simp at h
 | d :: r, k + 1, h => by
  simp only [List.take_succ_cons, List.drop_succ_cons, wv, pw];rw [cg5 r k (by simpa using h), Int.mul_add, fj7];omega
theorem cg6 {x y : List Int} (hx : wok x) (lx : x.length = 14) (ly : y.length = 14) (hy : wok y) {k : Nat} (hk : k < 14) {a b : Int} (ha : x[k]? = some a) (hb : y[k]? = some b) (he : x.drop (k + 1) = y.drop (k + 1)) (hab : a < b) : wv x < wv y := by
 rw [cg5 x k (by omega), cg5 y k (by omega), bz2 ha, bz2 hb, he];simp only [wv];have h1 := cg0 (x.take k) fun d hd => hx d (fg1 hd)
 have h2 := ce3 (y.take k) fun d hd => hy d (fg1 hd)
 rw [fb6, lx, Nat.min_eq_left (by omega)] at h1
 have h3 : pw k * (a + 1000 * wv (List.drop (k + 1) y)) + pw k ≤ pw k * (b + 1000 * wv (List.drop (k + 1) y)) := by
  have := fm2 (show a + 1000 * wv (List.drop (k + 1) y) + 1 ≤ b + 1000 * wv (List.drop (k + 1) y) by omega) (show 0 ≤ pw k by have := cd9 k; omega);rw [Int.mul_add _ _ 1, Int.mul_one] at this;exact this
 omega
structure SO (x y : List Int) where
 n : Nat
 hn : n ≤ 14
 he : x.drop n = y.drop n
theorem cg7 (x y : List Int) (hx : wok x) (hy : wok y) (lx : x.length = 14) (ly : y.length = 14) : Ev E 345 [.sl (cd6 x), .sl (cd6 y)] (.d (.int (sgn (wv x - wv y)))) := by
 have hlx : (cd6 x).length = 14 := by rw [cd8]; exact lx
 refine ye2 func345 ntmps345 fun _ _ _=>?_
 repeat' (refine yz ?_)
 refine ac7 (α := SO x y) (fun p => ⟨[(0, .d (.sl (cd6 x))), (1, .d (.sl (cd6 y))), (5, .d (.int ((p.n : Int) - 1)))], []⟩) (fun p => p.n) ⟨14, by omega, by rw [fa1 (by omega), fa1 (by omega)]⟩ (by rw [hlx]; exact (zle 0)) ?_;rintro ⟨n, hn, he⟩;dsimp only
 match n, hn, he with
 | 0, _, he =>
  have g1 : decide (((0 : Nat) : Int) - 1 ≥ 0) = false := by decide
  have : x = y := by simpa using he
  repeat' (refine yz ?_)
  rw [this, Int.sub_self];rfl
 | k + 1, hn, he =>
  have hk : (((k + 1 : Nat) : Int) - 1) = (k : Int) := by omega
  rw [hk];have g1 : decide ((k : Int) ≥ 0) = true := by simp
  obtain ⟨a, a1, a2, a3⟩ := cg2 hx lx (show k < 14 by omega);obtain ⟨b, b1, b2, b3⟩ := cg2 hy ly (show k < 14 by omega)
  by_cases h1 : a < b
  ·have g2 : decide (a < b) = true := by simpa using h1
   have := cg6 hx lx ly hy (by omega) a1 b1 he h1
   repeat' (first | refine yz ?_ | refine yi (.int a) a2 ?_ | refine yi (.int b) b2 ?_)
   unfold sgn;rw [if_pos (by omega)]
  ·have g2 : decide (a < b) = false := by simpa using h1
   by_cases h2 : a > b
   ·have g3 : decide (a > b) = true := by simpa using h2
    have := cg6 hy ly lx hx (by omega) b1 a1 he.symm h2
    repeat' (first | refine yz ?_ | refine yi (.int a) a2 ?_ | refine yi (.int b) b2 ?_)
    unfold sgn;rw [if_neg (by omega), if_pos (by omega)]
   ·have g3 : decide (a > b) = false := by simpa using h2
    repeat' (first | refine yz ?_ | refine yi (.int a) a2 ?_ | refine yi (.int b) b2 ?_)
    refine ac1 ?_;refine ⟨⟨k, by omega, ?_⟩, by dsimp only; omega, (zle 0)⟩;rw [bz2 a1, bz2 b1, he, show a = b from by omega]
theorem cg8 {n : Int} (h : n > 0) : sgn n = 1 := by unfold sgn; rw [if_neg (by omega), if_pos h]
theorem cg9 {n : Int} (h : n < 0) : sgn n = -1 := by unfold sgn; rw [if_pos h]
theorem ch0 : sgn 0 = 0 := rfl
theorem ch1 (A B : Int) (hA : (A.natAbs : Int) ≤ 1000000000000000000000000000000) (hB : (B.natAbs : Int) ≤ 1000000000000000000000000000000) :
  Ev E 272 [.int (sgn A), .sl (cd6 (ce9 14 A.natAbs)), .int (sgn B), .sl (cd6 (ce9 14 B.natAbs))] (.tup [.int (sgn (A + B)), .sl (cd6 (ce9 14 (A + B).natAbs))]) := by
 have hpw : pw 14 = 1000000000000000000000000000000000000000000 := by decide
 have va : wv (ce9 14 A.natAbs) = A.natAbs := cf4 14 _ (by omega) (by omega);have vb : wv (ce9 14 B.natAbs) = B.natAbs := cf4 14 _ (by omega) (by omega);have hp := cg3 (ce9 14 A.natAbs) (ce9 14 B.natAbs) (cf3 _ _) (cf3 _ _) (cf2 _ _) (cf2 _ _) (by rw [va, vb]; omega);have ho := cg7 (ce9 14 A.natAbs) (ce9 14 B.natAbs) (cf3 _ _) (cf3 _ _) (cf2 _ _) (cf2 _ _);have hm1 : (B.natAbs : Int) ≤ A.natAbs → _ := fun h => cg4 (ce9 14 A.natAbs) (ce9 14 B.natAbs) (cf3 _ _) (cf3 _ _) (cf2 _ _) (cf2 _ _) (by rw [va, vb]; exact h)
 have hm2 : (A.natAbs : Int) ≤ B.natAbs → _ := fun h => cg4 (ce9 14 B.natAbs) (ce9 14 A.natAbs) (cf3 _ _) (cf3 _ _) (cf2 _ _) (cf2 _ _) (by rw [va, vb]; exact h)
 have hp0 : Ev E 344 [.sl (List.replicate 14 (.int 0)), .sl (List.replicate 14 (.int 0))] (.d (.sl (cd6 (ce9 14 0)))) := cg3 (List.replicate 14 0) (List.replicate 14 0) (fun d hd => by rw [(fj3.1 hd).2]; omega) (fun d hd => by rw [(fj3.1 hd).2]; omega) rfl rfl (by decide);rw [va, vb] at hp ho;simp only [va, vb] at hm1 hm2
 have same : ∀ s : Int, sgn A = s → (sgn B = s ∨ sgn B = 0) → sgn (A + B) = s → ((A + B).natAbs : Int) = A.natAbs + B.natAbs → Ev E 272 [.int (sgn A), .sl (cd6 (ce9 14 A.natAbs)), .int (sgn B), .sl (cd6 (ce9 14 B.natAbs))] (.tup [.int (sgn (A + B)), .sl (cd6 (ce9 14 (A + B).natAbs))]) := by
  intro s h1 h2 h3 h4;rw [h3, h4, h1]
  cases h5 : s == sgn B with
  | true =>
   refine ap9 func272 ntmps272 rfl rfl fun w0 F0 O => ?_
   repeat' (first | refine yz ?_ | refine yp b344 hp ?_ | refine yx ?_ | exact zL)
  | false =>
   have h6 : (sgn B == 0) = true := by
    rcases h2 with h | h
    ·rw [h] at h5; simp at h5
    ·rw [h]; rfl
   refine ap9 func272 ntmps272 rfl rfl fun w0 F0 O => ?_
   repeat' (first | refine yz ?_ | refine yp b344 hp ?_ | refine yx ?_ | exact zL)
 rcases (show A > 0 ∨ A = 0 ∨ A < 0 by omega) with h1 | h1 | h1 <;> rcases (show B > 0 ∨ B = 0 ∨ B < 0 by omega) with h2 | h2 | h2
 ·exact same 1 (cg8 h1) (.inl (cg8 h2)) (cg8 (by omega)) (by omega)
 ·exact same 1 (cg8 h1) (.inr (by rw [h2]; rfl)) (cg8 (by omega)) (by omega)
 rotate_left
 ·subst h1;have e : ((0 + B).natAbs : Int) = B.natAbs := by omega
  rw [e, Int.zero_add, cg8 h2];refine ap9 func272 ntmps272 rfl rfl fun w0 F0 O => ?_
  repeat' (first | refine yz ?_ | exact zL)
 ·exact same 0 (by rw [h1]; rfl) (.inl (by rw [h2]; rfl)) (by rw [h1, h2]; rfl) (by omega)
 ·subst h1;have e : ((0 + B).natAbs : Int) = B.natAbs := by omega
  rw [e, Int.zero_add, cg9 h2];refine ap9 func272 ntmps272 rfl rfl fun w0 F0 O => ?_
  repeat' (first | refine yz ?_ | exact zL)
 rotate_left
 ·exact same (-1) (cg9 h1) (.inr (by rw [h2]; rfl)) (cg9 (by omega)) (by omega)
 ·exact same (-1) (cg9 h1) (.inl (cg9 h2)) (cg9 (by omega)) (by omega)
 all_goals
  first | rw [cg8 h1] | rw [cg9 h1]
  first | rw [cg8 h2] | rw [cg9 h2]
  rcases (show (A.natAbs : Int) - B.natAbs > 0 ∨ (A.natAbs : Int) - B.natAbs = 0 ∨ (A.natAbs : Int) - B.natAbs < 0 by omega) with h3 | h3 | h3
 ·rw [cg8 h3] at ho;have e : ((A + B).natAbs : Int) = A.natAbs - B.natAbs := by omega
  rw [e, cg8 (show A + B > 0 by omega)];refine ap9 func272 ntmps272 rfl rfl fun w0 F0 O => ?_
  repeat' (first | refine yz ?_ | refine yp bw5 ho ?_ | refine yp b346 (hm1 (by omega)) ?_ | exact zL)
 ·rw [h3, ch0] at ho;have e : A + B = 0 := by omega
  rw [e, ch0];refine ap9 func272 ntmps272 rfl rfl fun w0 F0 O => ?_
  repeat' (first | refine yz ?_ | refine yp bw5 ho ?_ | refine av5 14 rfl rfl rfl rfl rfl rfl rfl rfl rfl rfl (by decide) (by decide) ?_ | refine yp b344 hp0 ?_ | exact zL)
 ·rw [cg9 h3] at ho;have e : ((A + B).natAbs : Int) = B.natAbs - A.natAbs := by omega
  rw [e, cg9 (show A + B < 0 by omega)];refine ap9 func272 ntmps272 rfl rfl fun w0 F0 O => ?_
  repeat' (first | refine yz ?_ | refine yp bw5 ho ?_ | refine yp b346 (hm2 (by omega)) ?_ | exact zL)
 ·rw [cg8 h3] at ho;have e : ((A + B).natAbs : Int) = A.natAbs - B.natAbs := by omega
  rw [e, cg9 (show A + B < 0 by omega)];refine ap9 func272 ntmps272 rfl rfl fun w0 F0 O => ?_
  repeat' (first | refine yz ?_ | refine yp bw5 ho ?_ | refine yp b346 (hm1 (by omega)) ?_ | exact zL)
 ·rw [h3, ch0] at ho;have e : A + B = 0 := by omega
  rw [e, ch0];refine ap9 func272 ntmps272 rfl rfl fun w0 F0 O => ?_
  repeat' (first | refine yz ?_ | refine yp bw5 ho ?_ | refine av5 14 rfl rfl rfl rfl rfl rfl rfl rfl rfl rfl (by decide) (by decide) ?_ | refine yp b344 hp0 ?_ | exact zL)
 ·rw [cg9 h3] at ho;have e : ((A + B).natAbs : Int) = B.natAbs - A.natAbs := by omega
  rw [e, cg8 (show A + B > 0 by omega)];refine ap9 func272 ntmps272 rfl rfl fun w0 F0 O => ?_
  repeat' (first | refine yz ?_ | refine yp bw5 ho ?_ | refine yp b346 (hm2 (by omega)) ?_ | exact zL)
def fzn (n d : Int) : Int := bif bs6 n d then n else 0
def fzd (n d : Int) : Int := bif bs6 n d then d else 1
def ch2 (an ad bn bd : Int) : Int := sgn (fzn an ad * fzd bn bd - fzn bn bd * fzd an ad)
theorem ch3 (n d : Int) : -1000000000000000 ≤ fzn n d ∧ fzn n d ≤ 1000000000000000 ∧ 1 ≤ fzd n d ∧ fzd n d ≤ 1000000000000000 := by
 unfold fzn fzd
 cases h : bs6 n d with
 | false => simp
 | true =>
  simp only [bs6, fa3, decide_eq_true_eq] at h;have := (bs4 n).1 h.2.2.1;simp only [cond_true];omega
theorem ch4 {x y : Int} (hx : -1000000000000000 ≤ x ∧ x ≤ 1000000000000000) (hy : 1 ≤ y ∧ y ≤ 1000000000000000) : ((x * y).natAbs : Int) = x.natAbs * y ∧ ((x * y).natAbs : Int) ≤ 1000000000000000000000000000000 := by
 have e : ((x * y).natAbs : Int) = x.natAbs * y := by rw [Int.natAbs_mul, Int.natCast_mul, Int.natAbs_of_nonneg (show 0 ≤ y by omega)]
 refine ⟨e, ?_⟩;rw [e];have := Int.mul_le_mul (show (x.natAbs : Int) ≤ 1000000000000000 by omega) hy.2 (by omega) (by omega);omega
theorem ch5 {x y : Int} (hy : 1 ≤ y) : sgn (x * y) = sgn x := by
 rcases (show x > 0 ∨ x = 0 ∨ x < 0 by omega) with h | h | h
 ·rw [cg8 h, cg8 (Int.mul_pos h (by omega))]
 ·rw [h, Int.zero_mul]
 ·rw [cg9 h, cg9 (Int.mul_neg_of_neg_of_pos h (by omega))]
theorem ch6 (x : Int) : sgn (-x) = - sgn x := by
 rcases (show x > 0 ∨ x = 0 ∨ x < 0 by omega) with h | h | h
 ·rw [cg8 h, cg9 (by omega)]
 ·rw [h]; rfl
 ·rw [cg9 h, cg8 (by omega)]; rfl
theorem ch7 (x : Int) : -1 ≤ sgn x ∧ sgn x ≤ 1 := by unfold sgn; split <;> (try split) <;> omega
theorem ch8 (an ad bn bd : Int) : Ev E 202 [.agg [.int an, .int ad], .agg [.int bn, .int bd]] (.d (.int (ch2 an ad bn bd))) := by
 have h1 := ch3 an ad;have h2 := ch3 bn bd;have hva := bx6 an ad;have hvb := bx6 bn bd
 have key : ∀ n d n' d' : Int, (-1000000000000000 ≤ n ∧ n ≤ 1000000000000000) → (1 ≤ d ∧ d ≤ 1000000000000000) → (-1000000000000000 ≤ n' ∧ n' ≤ 1000000000000000) → (1 ≤ d' ∧ d' ≤ 1000000000000000) →
   Ev E 272 [.int (sgn n), .sl (cd6 (ce9 14 (n.natAbs * d'))), .int (0 - sgn n'), .sl (cd6 (ce9 14 (n'.natAbs * d)))] (.tup [.int (sgn (n * d' - n' * d)), .sl (cd6 (ce9 14 (n * d' - n' * d).natAbs))]) := by
  intro n d n' d' hn hd hn' hd';obtain ⟨m1, m2⟩ := ch4 hn hd';obtain ⟨m3, m4⟩ := ch4 hn' hd;have := ch1 (n * d') (-(n' * d)) m2 (by rw [Int.natAbs_neg]; exact m4);rw [Int.natAbs_neg, m1, m3, ch5 hd'.1, ch6, ch5 hd.1, ← Int.sub_eq_add_neg] at this;rw [show 0 - sgn n' = - sgn n' by omega];exact this
 have hs := key (fzn an ad) (fzd an ad) (fzn bn bd) (fzd bn bd) (by omega) (by omega) (by omega) (by omega);have ht1 := cf8 (fzn an ad).natAbs (fzd bn bd) (by omega) (by omega) (by omega) (by omega);have ht2 := cf8 (fzn bn bd).natAbs (fzd an ad) (by omega) (by omega) (by omega) (by omega);have hz1 := bx0 (fzn an ad) (by omega);have hz2 := bx0 (fzn bn bd) (by omega);have hg1 := ce5 (fzn an ad);have hg2 := ce5 (fzn bn bd);have hgr := ch7 (fzn bn bd);unfold ch2;generalize hres : (fzn an ad * fzd bn bd - fzn bn bd * fzd an ad) = res at *;clear hres key
 cases ha : bs6 an ad <;> cases hb : bs6 bn bd
 all_goals
  rw [ha] at hva;rw [hb] at hvb;simp only [fzn, fzd, ha, hb, cond_true, cond_false] at hs ht1 ht2 hz1 hz2 hg1 hg2 hgr h1 h2;refine ye2 func202 ntmps202 fun _ _ _=>?_
  repeat' (first | refine yz ?_ | refine yp b271 hva ?_ | refine yp b271 hvb ?_ | refine yp b273 hg1 ?_ | refine yp b273 hg2 ?_ | refine yp b275 hz1 ?_ | refine yp b275 hz2 ?_ | refine yp b274 ht1 ?_ | refine yp b274 ht2 ?_ | refine yp b272 hs ?_ | exact zD)
attribute [local irreducible] aw2
theorem ch9 (n : Int) : Ev E 394 [.int n] (.d (.imm (.int .u64 (n.natAbs : Int)))) := Ev.fit fun hfit => by
 have hn := (hfit (.int n) (by simp)).int;simp only [inR] at hn
 by_cases h : n < 0
 ·have g1 : decide (n < 0) = true := by simpa using h
  have w1 : IntKind.u64.wrap n = n + 18446744073709551616 := by simp [IntKind.wrap, IntKind.signed, IntKind.bits]; omega
  have w2 : IntKind.u64.wrap (0 - (n + 18446744073709551616)) = n.natAbs := by simp [IntKind.wrap, IntKind.signed, IntKind.bits]; omega
  refine ye1 func394 ntmps394 fun _ _ _=>?_
  repeat' (first | refine yz ?_ | (refine aw4 _ rfl rfl rfl rfl rfl rfl rfl w1 ?_) | (refine aw5 _ rfl rfl rfl rfl rfl w2 ?_) | exact zD)
 ·have g1 : decide (n < 0) = false := by simpa using h
  have e : (n.natAbs : Int) = n := by omega
  rw [e];refine ye1 func394 ntmps394 fun _ _ _=>?_
  repeat' (first | refine yz ?_ | exact zD)
def ci0 (neg : Bool) (m : Nat) : D := .agg [.imm (.bool neg), .imm (.int .u64 ((m / 18446744073709551616 : Nat) : Int)), .imm (.int .u64 ((m % 18446744073709551616 : Nat) : Int))]
def sv (neg : Bool) (m : Nat) : Int := bif neg then -(m : Int) else m
theorem ci1 (x y : Nat) (hx : x < 18446744073709551616) (hy : y < 18446744073709551616) : Ev E 393 [.imm (.int .u64 (x : Int)), .imm (.int .u64 (y : Int))] (.tup [.imm (.int .u64 ((x * y / 18446744073709551616 : Nat) : Int)), .imm (.int .u64 ((x * y % 18446744073709551616 : Nat) : Int))]) := by
 refine Ev.mk fun w F vs hF hG hl hr => ?_
 match vs, hl with
 | [v, u], _ =>
  obtain ⟨rfl, -⟩ := Rd.imm_inv (hr 0 _ v rfl rfl);obtain ⟨rfl, -⟩ := Rd.imm_inv (hr 1 _ u rfl rfl);refine (Tryz.bits_Mul64 x y hx hy w).mono ?_;rintro e w' ⟨rfl, rfl⟩;refine ⟨_, F, rfl, Ext.refl hF, [_, _], rfl, rfl, fun i d v hd hv => ?_⟩
  have hq : x * y / 18446744073709551616 < 18446744073709551616 := by
   have : x * y < 18446744073709551616 * 18446744073709551616 := Nat.mul_lt_mul_of_lt_of_le hx (Nat.le_of_lt hy) (by omega);exact Nat.div_lt_of_lt_mul this
  have hm : x * y % 18446744073709551616 < 18446744073709551616 := Nat.mod_lt _ (by omega)
  match i with
  | 0 => simp at hd hv; subst hd hv; exact Rd.imm _ (af2 (k := .u64) (by simp only [inR]; omega))
  | 1 => simp at hd hv; subst hd hv; exact Rd.imm _ (af2 (k := .u64) (by simp only [inR]; omega))
  | i + 2 => simp at hd
theorem ci2 (a b : Int) : Ev E 371 [.int a, .int b] (.d (ci0 (!(decide (a < 0) == decide (b < 0))) (a.natAbs * b.natAbs))) := Ev.fit fun hfit => by
 have ha := (hfit (.int a) (by simp)).int;have hb := (hfit (.int b) (by simp)).int;simp only [inR] at ha hb;have h1 := ch9 a;have h2 := ch9 b;have h3 := ci1 a.natAbs b.natAbs (by omega) (by omega);refine ye2 func371 ntmps371 fun _ _ _=>?_
 repeat' (first | refine yz ?_ | refine yp b394 h1 ?_ | refine yp b394 h2 ?_ | refine yp b393 h3 ?_ | exact zD)
theorem ci3 (p q : Bool) (m n : Nat) : Ev E 396 [ci0 p m, ci0 q n] (.d (.bool (decide (m < n)))) := by
 have e1 : decide (((m / 18446744073709551616 : Nat) : Int) < ((n / 18446744073709551616 : Nat) : Int)) = decide (m / 18446744073709551616 < n / 18446744073709551616) := by simp only [decide_eq_decide]; omega
 rcases Nat.lt_trichotomy (m / 18446744073709551616) (n / 18446744073709551616) with h | h | h
 ·have g1 : decide (((m / 18446744073709551616 : Nat) : Int) < ((n / 18446744073709551616 : Nat) : Int)) = true := by simp only [decide_eq_true_eq]; omega
  have g3 : decide (m < n) = true := by simp only [decide_eq_true_eq]; omega
  rw [g3];refine ye2 func396 ntmps396 fun _ _ _=>?_
  repeat' (first | refine yz ?_ | refine yx ?_ | exact zD)
 ·have g1 : decide (((m / 18446744073709551616 : Nat) : Int) < ((n / 18446744073709551616 : Nat) : Int)) = false := by simp only [decide_eq_false_iff_not]; omega
  have g2 : (((m / 18446744073709551616 : Nat) : Int) == ((n / 18446744073709551616 : Nat) : Int)) = true := by simp only [beq_iff_eq]; omega
  have g3 : decide (m < n) = decide (((m % 18446744073709551616 : Nat) : Int) < ((n % 18446744073709551616 : Nat) : Int)) := by simp only [decide_eq_decide]; omega
  rw [g3];refine ye2 func396 ntmps396 fun _ _ _=>?_
  repeat' (first | refine yz ?_ | refine yx ?_ | exact zD)
 ·have g1 : decide (((m / 18446744073709551616 : Nat) : Int) < ((n / 18446744073709551616 : Nat) : Int)) = false := by simp only [decide_eq_false_iff_not]; omega
  have g2 : (((m / 18446744073709551616 : Nat) : Int) == ((n / 18446744073709551616 : Nat) : Int)) = false := by simp only [beq_eq_false_iff_ne]; omega
  have g3 : decide (m < n) = false := by simp only [decide_eq_false_iff_not]; omega
  rw [g3];refine ye2 func396 ntmps396 fun _ _ _=>?_
  repeat' (first | refine yz ?_ | refine yx ?_ | exact zD)
theorem ci4 (x y c : Nat) (hc : c ≤ 1) (w : World) : (callFunc 395 [Value.int .u64 (x : Int), .int .u64 (y : Int), .int .u64 (c : Int)].toArray).run E.P w =
  .ok (.value (.tuple #[.int .u64 (((x + y + c) % 18446744073709551616 : Nat) : Int), .int .u64 (((x + y + c) / 18446744073709551616 : Nat) : Int)])) w := by
 have := run_callFunc_extern func395 (by kernel_rfl) (by kernel_rfl) (by kernel_rfl) (e := add64Entry) (by kernel_rfl) #[.int .u64 (x : Int), .int .u64 (y : Int), .int .u64 (c : Int)] w;refine this.trans ?_;rw [run_add64 x y c (by omega) (by omega) (by omega) (by omega)];simp only [Result.andThen];congr 5 <;> omega
theorem ci5 (x y b : Nat) (hb : b ≤ 1) (w : World) : (callFunc 397 [Value.int .u64 (x : Int), .int .u64 (y : Int), .int .u64 (b : Int)].toArray).run E.P w =
  .ok (.value (.tuple #[.int .u64 (((x + 18446744073709551616 - y - b) % 18446744073709551616 : Nat) : Int), .int .u64 ((if x < y + b then 1 else 0 : Nat) : Int)])) w := by
 have := run_callFunc_extern func397 (by kernel_rfl) (by kernel_rfl) (by kernel_rfl) (e := sub64Entry) (by kernel_rfl) #[.int .u64 (x : Int), .int .u64 (y : Int), .int .u64 (b : Int)] w;refine this.trans ?_;rw [run_sub64 x y b hb];rfl
theorem ci6 {a b : Nat} (ha : a < 18446744073709551616) (hb : b < 18446744073709551616) (w : World) (F : Nat → Prop) : RdX w F [] (.tup [.imm (.int .u64 (a : Int)), .imm (.int .u64 (b : Int))]) (.tuple #[.int .u64 (a : Int), .int .u64 (b : Int)]) := by
 refine ⟨[_, _], rfl, rfl, fun i d v hd hv => ?_⟩
 match i with
 | 0 => simp at hd hv; subst hd hv; exact Rd.imm _ (af2 (k := .u64) (by simp only [inR]; omega))
 | 1 => simp at hd hv; subst hd hv; exact Rd.imm _ (af2 (k := .u64) (by simp only [inR]; omega))
 | i + 2 => simp at hd
def ci7 (p q : Bool) (m n : Nat) : Bool × Nat := bif p == q then (p, m + n) else (bif decide (m < n) then (q, n - m) else (p, m - n))
theorem ci8 (p q : Bool) (m n : Nat) : sv (ci7 p q m n).1 (ci7 p q m n).2 = sv p m + sv q n := by
 cases p <;> cases q <;> (simp only [ci7, sv]; cases h : decide (m < n) <;> simp at h <;> simp <;> omega)
theorem ci9 (p q : Bool) (m n : Nat) : (ci7 p q m n).2 ≤ m + n := by
 unfold ci7
 cases p == q <;> cases decide (m < n) <;> simp <;> omega
theorem cj0 (p q : Bool) (m n : Nat) (hm : m ≤ 1000000000000000000000000000000) (hn : n ≤ 1000000000000000000000000000000) : Ev E 372 [ci0 p m, ci0 q n] (.d (ci0 (ci7 p q m n).1 (ci7 p q m n).2)) := by
 cases hpq : p == q with
 | true =>
  have e : ci7 p q m n = (p, m + n) := by unfold ci7; rw [hpq]; rfl
  rw [e];have a1 := ci4 (m % 18446744073709551616) (n % 18446744073709551616) 0 (by omega);have a2 := ci4 (m / 18446744073709551616) (n / 18446744073709551616) ((m % 18446744073709551616 + n % 18446744073709551616 + 0) / 18446744073709551616) (by omega);have r1 := ci6 (a := (m % 18446744073709551616 + n % 18446744073709551616 + 0) % 18446744073709551616) (b := (m % 18446744073709551616 + n % 18446744073709551616 + 0) / 18446744073709551616) (by omega) (by omega);have r2 := ci6 (a := (m / 18446744073709551616 + n / 18446744073709551616 + (m % 18446744073709551616 + n % 18446744073709551616 + 0) / 18446744073709551616) % 18446744073709551616) (b := (m / 18446744073709551616 + n / 18446744073709551616 + (m % 18446744073709551616 + n % 18446744073709551616 + 0) / 18446744073709551616) / 18446744073709551616) (by omega) (by omega);have d1 : (m / 18446744073709551616 + n / 18446744073709551616 + (m % 18446744073709551616 + n % 18446744073709551616 + 0) / 18446744073709551616) % 18446744073709551616 = (m + n) / 18446744073709551616 := by omega
  have d2 : (m % 18446744073709551616 + n % 18446744073709551616 + 0) % 18446744073709551616 = (m + n) % 18446744073709551616 := by omega
  unfold ci0;rw [← d1, ← d2];clear d1 d2 e;replace a1 := aw2.mk a1 r1;replace a2 := aw2.mk a2 r2;clear r1 r2;generalize m / 18446744073709551616 = mh at *;generalize m % 18446744073709551616 = ml at *;generalize n / 18446744073709551616 = nh at *;generalize n % 18446744073709551616 = nl at *;generalize (ml + nl + 0) % 18446744073709551616 = lo at *;generalize (ml + nl + 0) / 18446744073709551616 = c1 at *;generalize (mh + nh + c1) % 18446744073709551616 = hi at *;generalize (mh + nh + c1) / 18446744073709551616 = c2 at *;refine ye2 func372 ntmps372 fun _ _ _=>?_
  repeat' (first | refine yz ?_ | refine aw8 rfl rfl rfl rfl rfl a1 rfl ?_ | refine aw8 rfl rfl rfl rfl rfl a2 rfl ?_ | exact zD)
 | false =>
  have hl := ci3 p q m n;have key : ∀ (p' q' : Bool) (m' n' : Nat), n' ≤ m' → m' ≤ 1000000000000000000000000000000 → True := fun _ _ _ _ _ _ => trivial
  cases hlt : decide (m < n) with
  | true =>
   have e : ci7 p q m n = (q, n - m) := by unfold ci7; rw [hpq, hlt]; rfl
   rw [e];rw [hlt] at hl;have hmn : m < n := of_decide_eq_true hlt;have a1 := ci5 (n % 18446744073709551616) (m % 18446744073709551616) 0 (by omega);have a2 := ci5 (n / 18446744073709551616) (m / 18446744073709551616) (if n % 18446744073709551616 < m % 18446744073709551616 + 0 then 1 else 0) (by split <;> omega);have r1 := ci6 (a := (n % 18446744073709551616 + 18446744073709551616 - m % 18446744073709551616 - 0) % 18446744073709551616) (b := if n % 18446744073709551616 < m % 18446744073709551616 + 0 then 1 else 0) (by omega) (by split <;> omega);have r2 := ci6 (a := (n / 18446744073709551616 + 18446744073709551616 - m / 18446744073709551616 - (if n % 18446744073709551616 < m % 18446744073709551616 + 0 then 1 else 0)) % 18446744073709551616) (b := if n / 18446744073709551616 < m / 18446744073709551616 + (if n % 18446744073709551616 < m % 18446744073709551616 + 0 then 1 else 0) then 1 else 0) (by omega) (by split <;> split <;> omega);have d1 : (n / 18446744073709551616 + 18446744073709551616 - m / 18446744073709551616 - (if n % 18446744073709551616 < m % 18446744073709551616 + 0 then 1 else 0)) % 18446744073709551616 = (n - m) / 18446744073709551616 := by split <;> omega
   have d2 : (n % 18446744073709551616 + 18446744073709551616 - m % 18446744073709551616 - 0) % 18446744073709551616 = (n - m) % 18446744073709551616 := by omega
   unfold ci0 at *;rw [← d1, ← d2];clear d1 d2 e;replace a1 := aw2.mk a1 r1;replace a2 := aw2.mk a2 r2;clear r1 r2;generalize m / 18446744073709551616 = mh at *;generalize m % 18446744073709551616 = ml at *;generalize n / 18446744073709551616 = nh at *;generalize n % 18446744073709551616 = nl at *;generalize (if nl < ml + 0 then 1 else 0 : Nat) = bo at *;generalize (nl + 18446744073709551616 - ml - 0) % 18446744073709551616 = lo at *;generalize (nh + 18446744073709551616 - mh - bo) % 18446744073709551616 = hi at *;generalize (if nh < mh + bo then 1 else 0 : Nat) = c2 at *;refine ye2 func372 ntmps372 fun _ _ _=>?_
   repeat' (first | refine yz ?_ | refine yp b396 hl ?_ | refine aw8 rfl rfl rfl rfl rfl a1 rfl ?_ | refine aw8 rfl rfl rfl rfl rfl a2 rfl ?_ | exact zD)
  | false =>
   have e : ci7 p q m n = (p, m - n) := by unfold ci7; rw [hpq, hlt]; rfl
   rw [e];rw [hlt] at hl;have hmn : ¬ m < n := of_decide_eq_false hlt;have a1 := ci5 (m % 18446744073709551616) (n % 18446744073709551616) 0 (by omega);have a2 := ci5 (m / 18446744073709551616) (n / 18446744073709551616) (if m % 18446744073709551616 < n % 18446744073709551616 + 0 then 1 else 0) (by split <;> omega);have r1 := ci6 (a := (m % 18446744073709551616 + 18446744073709551616 - n % 18446744073709551616 - 0) % 18446744073709551616) (b := if m % 18446744073709551616 < n % 18446744073709551616 + 0 then 1 else 0) (by omega) (by split <;> omega);have r2 := ci6 (a := (m / 18446744073709551616 + 18446744073709551616 - n / 18446744073709551616 - (if m % 18446744073709551616 < n % 18446744073709551616 + 0 then 1 else 0)) % 18446744073709551616) (b := if m / 18446744073709551616 < n / 18446744073709551616 + (if m % 18446744073709551616 < n % 18446744073709551616 + 0 then 1 else 0) then 1 else 0) (by omega) (by split <;> split <;> omega);have d1 : (m / 18446744073709551616 + 18446744073709551616 - n / 18446744073709551616 - (if m % 18446744073709551616 < n % 18446744073709551616 + 0 then 1 else 0)) % 18446744073709551616 = (m - n) / 18446744073709551616 := by split <;> omega
   have d2 : (m % 18446744073709551616 + 18446744073709551616 - n % 18446744073709551616 - 0) % 18446744073709551616 = (m - n) % 18446744073709551616 := by omega
   unfold ci0 at *;rw [← d1, ← d2];clear d1 d2 e;replace a1 := aw2.mk a1 r1;replace a2 := aw2.mk a2 r2;clear r1 r2;generalize m / 18446744073709551616 = mh at *;generalize m % 18446744073709551616 = ml at *;generalize n / 18446744073709551616 = nh at *;generalize n % 18446744073709551616 = nl at *;generalize (if ml < nl + 0 then 1 else 0 : Nat) = bo at *;generalize (ml + 18446744073709551616 - nl - 0) % 18446744073709551616 = lo at *;generalize (mh + 18446744073709551616 - nh - bo) % 18446744073709551616 = hi at *;generalize (if mh < nh + bo then 1 else 0 : Nat) = c2 at *;refine ye2 func372 ntmps372 fun _ _ _=>?_
   repeat' (first | refine yz ?_ | refine yp b396 hl ?_ | refine aw8 rfl rfl rfl rfl rfl a1 rfl ?_ | refine aw8 rfl rfl rfl rfl rfl a2 rfl ?_ | exact zD)
theorem cj3 (t : TypeId) (a b : Nat) (ha : a < 18446744073709551616) (hb : b < 18446744073709551616) (w : World) : (binOp .or t (.int .u64 (a : Int)) (.int .u64 (b : Int))).run E.P w = .ok (.int .u64 ((a ||| b : Nat) : Int)) w := by
 have h1 : BitVec.ofInt 64 (a : Int) = BitVec.ofNat 64 a := by simp
 have h2 : BitVec.ofInt 64 (b : Int) = BitVec.ofNat 64 b := by simp
 have hor : a ||| b < 18446744073709551616 := Nat.or_lt_two_pow (n := 64) ha hb
 have h3 : (BitVec.ofNat 64 a ||| BitVec.ofNat 64 b).toNat = a ||| b := by
  rw [BitVec.toNat_or, BitVec.toNat_ofNat, BitVec.toNat_ofNat, Nat.mod_eq_of_lt ha, Nat.mod_eq_of_lt hb]
 have hw : IntKind.u64.wrap ((a ||| b : Nat) : Int) = ((a ||| b : Nat) : Int) := af4 (k := .u64) (by simp only [inR]; omega);show (Op.intBits .or .u64 (a : Int) (b : Int)).run E.P w = _;simp only [Op.intBits];show (pure (Value.int .u64 (IntKind.u64.wrap (BitVec.ofInt 64 (a : Int) ||| BitVec.ofInt 64 (b : Int)).toNat)) : Sem Value).run E.P w = _;rw [h1, h2, h3, hw];rfl
theorem cj4 (p : Bool) (m : Nat) (hm : m < 18446744073709551616 * 18446744073709551616) : Ev E 373 [ci0 p m] (.d (.int (sgn (sv p m)))) := by
 have hr := cj3 277 (m / 18446744073709551616) (m % 18446744073709551616) (Nat.div_lt_of_lt_mul hm) (Nat.mod_lt _ (by omega));have hor : m / 18446744073709551616 ||| m % 18446744073709551616 < 18446744073709551616 := Nat.or_lt_two_pow (n := 64) (Nat.div_lt_of_lt_mul hm) (Nat.mod_lt _ (by omega));have hok : Go.Abs.okV (.int .u64 ((m / 18446744073709551616 ||| m % 18446744073709551616 : Nat) : Int)) = true := af2 (k := .u64) (by simp only [inR]; omega)
 by_cases h0 : m = 0
 ·subst h0;have e : sgn (sv p 0) = 0 := by cases p <;> rfl
  rw [e];refine ye1 func373 ntmps373 fun _ _ _=>?_
  repeat' (first | refine yz ?_ | (refine aw6 _ rfl rfl rfl rfl rfl rfl hr hok ?_) | exact zD)
 ·have g1 : (((m / 18446744073709551616 ||| m % 18446744073709551616 : Nat) : Int) == 0) = false := by
   rw [beq_eq_false_iff_ne];intro h;have h' : m / 18446744073709551616 ||| m % 18446744073709551616 = 0 := by omega
   rw [Nat.or_eq_zero_iff] at h';omega
  cases p with
  | true =>
   rw [cg9 (show sv true m < 0 by simp only [sv, cond_true]; omega)];refine ye1 func373 ntmps373 fun _ _ _=>?_
   repeat' (first | refine yz ?_ | (refine aw6 _ rfl rfl rfl rfl rfl rfl hr hok ?_) | exact zD)
  | false =>
   rw [cg8 (show sv false m > 0 by simp only [sv, cond_false]; omega)];refine ye1 func373 ntmps373 fun _ _ _=>?_
   repeat' (first | refine yz ?_ | (refine aw6 _ rfl rfl rfl rfl rfl rfl hr hok ?_) | exact zD)
theorem cj5 (a b : Int) : sv (!(decide (a < 0) == decide (b < 0))) (a.natAbs * b.natAbs) = a * b := by
 have e : ((a.natAbs * b.natAbs : Nat) : Int) = (a.natAbs : Int) * b.natAbs := Int.natCast_mul _ _
 by_cases ha : a < 0 <;> by_cases hb : b < 0
 ·rw [show decide (a < 0) = true by simpa using ha, show decide (b < 0) = true by simpa using hb];show ((a.natAbs * b.natAbs : Nat) : Int) = _;rw [e, show (a.natAbs : Int) = -a by omega, show (b.natAbs : Int) = -b by omega, Int.neg_mul_neg]
 ·rw [show decide (a < 0) = true by simpa using ha, show decide (b < 0) = false by simpa using hb];show -((a.natAbs * b.natAbs : Nat) : Int) = _;rw [e, show (a.natAbs : Int) = -a by omega, show (b.natAbs : Int) = b by omega, Int.neg_mul, Int.neg_neg]
 ·rw [show decide (a < 0) = false by simpa using ha, show decide (b < 0) = true by simpa using hb];show -((a.natAbs * b.natAbs : Nat) : Int) = _;rw [e, show (a.natAbs : Int) = a by omega, show (b.natAbs : Int) = -b by omega, Int.mul_neg, Int.neg_neg]
 ·rw [show decide (a < 0) = false by simpa using ha, show decide (b < 0) = false by simpa using hb];show ((a.natAbs * b.natAbs : Nat) : Int) = _;rw [e, show (a.natAbs : Int) = a by omega, show (b.natAbs : Int) = b by omega]
theorem cj6 {a b : Int} (ha : -1000000000000000 ≤ a ∧ a ≤ 1000000000000000) (hb : -1000000000000000 ≤ b ∧ b ≤ 1000000000000000) : a.natAbs * b.natAbs ≤ 1000000000000000000000000000000 := by
 have := Nat.mul_le_mul (show a.natAbs ≤ 1000000000000000 by omega) (show b.natAbs ≤ 1000000000000000 by omega);omega
theorem cj7 (an ad bn bd : Int) : Ev E 310 [.agg [.int an, .int ad], .agg [.int bn, .int bd]] (.d (.int (ch2 an ad bn bd))) := by
 have h1 := ch3 an ad;have h2 := ch3 bn bd;have hva := bx5 an ad;have hvb := bx5 bn bd
 have key : ∀ n d n' d' : Int, (-1000000000000000 ≤ n ∧ n ≤ 1000000000000000) → (1 ≤ d ∧ d ≤ 1000000000000000) → (-1000000000000000 ≤ n' ∧ n' ≤ 1000000000000000) → (1 ≤ d' ∧ d' ≤ 1000000000000000) →
   ∃ (p q r : Bool) (m m' m'' : Nat), Ev E 371 [.int n, .int d'] (.d (ci0 p m)) ∧ Ev E 371 [.int (0 - n'), .int d] (.d (ci0 q m')) ∧ Ev E 372 [ci0 p m, ci0 q m'] (.d (ci0 r m'')) ∧ Ev E 373 [ci0 r m''] (.d (.int (sgn (n * d' - n' * d)))) := by
  intro n d n' d' hn hd hn' hd';have b1 := cj6 (a := n) (b := d') hn (by omega);have b2 := cj6 (a := 0 - n') (b := d) (by omega) (by omega);refine ⟨_, _, _, _, _, _, ci2 n d', ci2 (0 - n') d, cj0 _ _ _ _ b1 b2, ?_⟩;have hle := ci9 (!(decide (n < 0) == decide (d' < 0))) (!(decide (0 - n' < 0) == decide (d < 0))) (n.natAbs * d'.natAbs) ((0 - n').natAbs * d.natAbs);have hs := cj4 (ci7 (!(decide (n < 0) == decide (d' < 0))) (!(decide (0 - n' < 0) == decide (d < 0))) (n.natAbs * d'.natAbs) ((0 - n').natAbs * d.natAbs)).1 _ (Nat.lt_of_le_of_lt hle (by omega));rw [ci8, cj5, cj5, Int.zero_sub, Int.neg_mul, ← Int.sub_eq_add_neg, ← Int.zero_sub n'] at hs;exact hs
 obtain ⟨p, q, r, m, m', m'', e1, e2, e3, e4⟩ := key (fzn an ad) (fzd an ad) (fzn bn bd) (fzd bn bd) (by omega) (by omega) (by omega) (by omega);unfold ch2;generalize hres : (fzn an ad * fzd bn bd - fzn bn bd * fzd an ad) = res at *;clear hres key
 cases ha : bs6 an ad <;> cases hb : bs6 bn bd
 all_goals
  rw [ha] at hva;rw [hb] at hvb;simp only [fzn, fzd, ha, hb, cond_true, cond_false] at e1 e2 h1 h2;refine ye2 func310 ntmps310 fun _ _ _=>?_
  repeat' (first | refine yz ?_ | refine yp b367 hva ?_ | refine yp b367 hvb ?_ | refine qP (d := 17) rfl rfl rfl rfl rfl rfl b371 (e1) ?_ | refine yp b371 e2 ?_ | refine yp b372 e3 ?_ | refine yp b373 e4 ?_ | exact zD)
end Go.Proofs.YtenpjlghikohmaaGreatDoor
namespace Go.Proofs.YtenpjlghikohmaaGreatDoor
set_option maxRecDepth 4000
open Go Go.Abs Go.Val Go.RowKit Go.Proofs.Tryz
def bs (l : List UInt8) : ByteArray := ⟨l.toArray⟩
end Go.Proofs.YtenpjlghikohmaaGreatDoor
namespace Go.Proofs.YtenpjlghikohmaaGreatDoor
open Go Go.Abs Go.Val Go.RowKit Go.Proofs.Tryz
attribute [local irreducible] go SGo an2 Ev aw2
theorem cj8 {n : Int} (h : inR .i64 n) : (Lib.itoa n).length ≤ 21 := Lib.itoa_length_le n h.1 h.2
end Go.Proofs.YtenpjlghikohmaaGreatDoor
namespace Go.Proofs.YtenpjlghikohmaaGreatDoor
set_option maxRecDepth 4000
open Go Go.Abs Go.Val Go.RowKit Go.Proofs.Tryz
theorem cj9 {v : V} (h : Val.okV v = true) : v.k = 0 ∨ v.k = 1 ∨ v.k = 2 ∨ v.k = 3 ∨ v.k = 4 ∨ v.k = 5 ∨ v.k = 6 ∨ v.k = 7 ∨ v.k = 8 := by
 unfold Val.okV at h;simp only [okN, bt0, fc7, fa3, beq_iff_eq] at h;omega
end Go.Proofs.YtenpjlghikohmaaGreatDoor
namespace Go.Proofs.YtenpjlghikohmaaGreatDoor
open Go Go.Abs Go.Val Go.RowKit Go.Proofs.Tryz
attribute [local irreducible] go SGo an2 Ev aw2
set_option maxRecDepth 4000
end Go.Proofs.YtenpjlghikohmaaGreatDoor
namespace Go.Proofs.YtenpjlghikohmaaGreatDoor
set_option maxRecDepth 4000
open Go Go.Abs Go.Val Go.Proofs.Tryz
open Go.RowKit
attribute [local irreducible] Ev EvO aw2 an2 SGo go
mutual
def nar : V → Bool
 | .mk _ _ _ _ l => decide (l.length ≤ 2000000) && ck0 l
def ck0 : List V → Bool
 | [] => true
 | v :: r => nar v && ck0 r
end
theorem ck1 : ∀ {l : List V}, ck0 l = true → ∀ x ∈ l, nar x = true
 | [], _, x, h => by simp at h
 | v :: r, h, x, hx => by
  simp only [ck0, fa3] at h;rcases fa6.1 hx with e | e
  ·rw [e]; exact h.1
  ·exact ck1 h.2 x e
theorem nar_l {v : V} (h : nar v = true) : v.l.length ≤ 2000000 ∧ ck0 v.l = true := by
 cases v
 simpa [nar, V.l] using h
theorem ck2 : Ev E 314 [.sl []] (.d (.sl [])) := by
 refine ye1 func314 ntmps314 fun _ _ _=>?_
 repeat' (first | refine yz ?_ | (refine ay7 rfl (fun _ => ?_) ?_) | refine az4 rfl rfl rfl rfl rfl rfl rfl rfl ?_ | refine yx ?_ | (refine yy ?_ ?_ <;> intro _) | exact zD | exact zL)
theorem ck3 (l : List V) : ∀ d ∈ br5 l, d.cells.length = 5 := fun d hd => by
 rw [br6] at hd;obtain ⟨u, -, rfl⟩ := fc4.1 hd;rfl
theorem ck4 (l : List V) (h0 : l ≠ []) (hn : l.length ≤ 2000000) : EvO E 314 [.sl (br5 l)] 56 5 (br5 l) := by
 have hle : (br5 l).length = l.length := bs1 _;have hne : br5 l ≠ [] := by rw [br6]; simpa using h0
 refine az5 func314 ntmps314 rfl rfl fun w0 F0 O => ?_
 repeat' (first | refine az1 rfl rfl rfl rfl rfl rfl rfl (by decide) (by decide) ?_ | refine yz ?_ | (refine ay7 rfl (fun h => absurd h hne) ?_) | refine yx ?_ | (refine yy ?_ ?_ <;> intro _) | exact zD | exact zL)
 refine qS rfl ⟨hne, ck3 l, by (show (0 + (br5 l).length) * 64 ≤ 140737488355328; omega), by (show 0 + (br5 l).length ≤ 9223372036854775807; omega)⟩ ?_
 repeat' (first | refine yz ?_ | refine yx ?_ | (refine yy ?_ ?_ <;> intro _) | exact zD | exact zL)
mutual
def ck5 : V → Nat
 | .mk _ _ _ s l => 1 + s.size / 50 + ck6 l
def ck6 : List V → Nat
 | [] => 0
 | v :: r => ck5 v + ck6 r
end
theorem ck7 (v : V) : ck5 v = 1 + v.s.size / 50 + ck6 v.l := by cases v; simp [ck5, V.s, V.l]
theorem ck8 (f : V → Int → Int) : ∀ (l : List V), (∀ x ∈ l, ∀ left, 0 ≤ f x left → (ck5 x : Int) + f x left ≤ left) → ∀ left, 0 ≤ cc3 f l left → (ck6 l : Int) + cc3 f l left ≤ left
 | [], _, left, h => by simp [cc3, ck6]
 | x :: r, hf, left, h => by
  simp only [cc3] at h ⊢
  cases hd : decide (left ≥ 0) with
  | false =>
   rw [hd] at h;simp only [cond_false] at h;have := of_decide_eq_false hd;omega
  | true =>
   rw [hd] at h;simp only [cond_true] at h ⊢;have ih := ck8 f r (fun y hy => hf y (by simp [hy])) (f x left) h;have hx := hf x (by simp) left (by omega);simp only [ck6];omega
theorem ck9 : ∀ (m : Nat) (v : V) (left : Int), 0 ≤ cc4 m v left → (ck5 v : Int) + cc4 m v left ≤ left
 | 0, v, left, h => by simp only [cc4] at h; omega
 | m + 1, v, left, h => by
  simp only [cc4] at h ⊢;have := ck8 (cc4 m) v.l (fun x _ l hl => ck9 m x l hl) _ h;rw [ck7];have e : (v.s.size : Int).tdiv 50 = ((v.s.size / 50 : Nat) : Int) := by rw [fg8 (by omega)]; rfl
  rw [e] at this ⊢;omega
theorem cl0 : ∀ l : List V, l.length ≤ ck6 l
 | [] => fa4 _
 | v :: r => by
  have := cl0 r;have := ck7 v;simp only [ck6, fa8];omega
theorem cl1 (v : V) : ck5 v ≤ 1000000 → nar v = true := by
 refine cc2 (P := fun v => ck5 v ≤ 1000000 → nar v = true) (fun k n d s l ih h => ?_) v
 have hl : ∀ l : List V, (∀ x ∈ l, ck5 x ≤ 1000000 → nar x = true) → ck6 l ≤ 1000000 → ck0 l = true := by
  intro l
  induction l with
  | nil => intro _ _; simp [ck0]
  | cons a r ihr =>
   intro hx hc;simp only [ck6] at hc;simp only [ck0, fa3];exact ⟨hx a (by simp) (by omega), ihr (fun x hm => hx x (by simp [hm])) (by omega)⟩
 simp only [ck5] at h;have := cl0 l;simp only [nar, fa3, decide_eq_true_eq];exact ⟨by omega, hl l ih (by omega)⟩
end Go.Proofs.YtenpjlghikohmaaGreatDoor
namespace Go.Proofs.YtenpjlghikohmaaGreatDoor
set_option maxRecDepth 4000
open Go Go.Abs Go.Val Go.RowKit Go.Proofs.Tryz
attribute [local irreducible] go SGo an2 Ev aw2 EvO
def ci (x y : Int) : Int := Lib.compareInt x y
theorem cl2 {x y : Int} (h : x < y) : ci x y = -1 := by unfold ci Lib.compareInt; rw [if_pos h]
theorem cl3 {x y : Int} (h : x > y) : ci x y = 1 := by unfold ci Lib.compareInt; rw [if_neg (by omega), if_pos h]
theorem cl4 (x : Int) : ci x x = 0 := by unfold ci Lib.compareInt; rw [if_neg (by omega), if_neg (by omega)]
def cs (a b : ByteArray) : Int := bif Op.bytesLess a.toList b.toList then -1 else bif (Op.bytesLess a.toList b.toList || a.toList == b.toList) then 0 else 1
def orI (x y : Int) : Int := bif x != 0 then x else y
theorem cl5 (x y : Int) : Ev E 199 [.int x, .int y] (.d (.int (ci x y))) := by
 rcases (show x < y ∨ x = y ∨ x > y by omega) with h | h | h
 ·rw [cl2 h];have g1 : decide (x < y) = true := by simpa using h
  refine ye2 func199 ntmps199 fun _ _ _=>?_
  repeat' (first | refine yz ?_ | refine yx ?_ | (refine yy ?_ ?_ <;> intro _) | exact zD | exact zL)
 ·subst h;rw [cl4];have g1 : decide (x < x) = false := by simp
  have g2 : decide (x > x) = false := by simp
  refine ye2 func199 ntmps199 fun _ _ _=>?_
  repeat' (first | refine yz ?_ | refine yx ?_ | (refine yy ?_ ?_ <;> intro _) | exact zD | exact zL)
 ·rw [cl3 h];have g1 : decide (x < y) = false := by simp; omega
  have g2 : decide (x > y) = true := by simpa using h
  refine ye2 func199 ntmps199 fun _ _ _=>?_
  repeat' (first | refine yz ?_ | refine yx ?_ | (refine yy ?_ ?_ <;> intro _) | exact zD | exact zL)
theorem cl6 (a b : ByteArray) : Ev E 269 [.str a, .str b] (.d (.int (cs a b))) := by
 unfold cs
 cases h1 : Op.bytesLess a.toList b.toList with
 | true =>
  refine ye2 func269 ntmps269 fun _ _ _=>?_
  repeat' (first | refine yz ?_ | refine yx ?_ | (refine yy ?_ ?_ <;> intro _) | exact zD | exact zL)
 | false =>
  cases h2 : a.toList == b.toList with
  | true =>
   have g2 : (!(Op.bytesLess a.toList b.toList || a.toList == b.toList)) = false := by rw [h1, h2]; rfl
   refine ye2 func269 ntmps269 fun _ _ _=>?_
   repeat' (first | refine yz ?_ | refine yx ?_ | (refine yy ?_ ?_ <;> intro _) | exact zD | exact zL)
  | false =>
   have g2 : (!(Op.bytesLess a.toList b.toList || a.toList == b.toList)) = true := by rw [h1, h2]; rfl
   refine ye2 func269 ntmps269 fun _ _ _=>?_
   repeat' (first | refine yz ?_ | refine yx ?_ | (refine yy ?_ ?_ <;> intro _) | exact zD | exact zL)
theorem cl7 (a : ByteArray) : Ev E 311 [.str a] (.d (.bool false)) := by
 have h : (!(a.toList == a.toList)) = false := by simp
 rw [← h];refine ye1 func311 ntmps311 fun _ _ _=>?_
 repeat' (first | refine yz ?_ | refine yx ?_ | (refine yy ?_ ?_ <;> intro _) | exact zD | exact zL)
theorem cl8 (a b : ByteArray) : Ev E 234 [.str a, .str b] (.d (.int (cs a b))) := by
 unfold cs
 cases h1 : Op.bytesLess a.toList b.toList with
 | true =>
  refine ye2 func234 ntmps234 fun _ _ _=>?_
  repeat' (first | refine yz ?_ | refine yp b311 (cl7 _) ?_ | refine yx ?_ | (refine yy ?_ ?_ <;> intro _) | exact zD | exact zL)
 | false =>
  cases h2 : a.toList == b.toList with
  | true =>
   have g2 : (!(Op.bytesLess a.toList b.toList || a.toList == b.toList)) = false := by rw [h1, h2]; rfl
   refine ye2 func234 ntmps234 fun _ _ _=>?_
   repeat' (first | refine yz ?_ | refine yp b311 (cl7 _) ?_ | refine yx ?_ | (refine yy ?_ ?_ <;> intro _) | exact zD | exact zL)
  | false =>
   have g2 : (!(Op.bytesLess a.toList b.toList || a.toList == b.toList)) = true := by rw [h1, h2]; rfl
   refine ye2 func234 ntmps234 fun _ _ _=>?_
   repeat' (first | refine yz ?_ | refine yp b311 (cl7 _) ?_ | refine yx ?_ | (refine yy ?_ ?_ <;> intro _) | exact zD | exact zL)
def orL : List Int → Int
 | [] => 0
 | x :: r => orI x (orL r)
structure SOr (l : List Int) where
 i : Nat
 hi : i ≤ l.length
 ok : orL l = orL (l.drop i)
theorem cl9 (l : List Int) : Ev E 233 [.sl (cd6 l)] (.d (.int (orL l))) := Ev.fit fun hfit => by
 have hmax := ((hfit (.sl (cd6 l)) (by simp)).sls).1;rw [cd8] at hmax;have hle : (cd6 l).length = l.length := cd8 l;refine ye1 func233 ntmps233 fun _ _ _=>?_
 repeat' (first | refine yz ?_ | refine yx ?_ | (refine yy ?_ ?_ <;> intro _) | exact zD | exact zL)
 refine ac7 (α := SOr l) (fun p => ⟨[(3, .d (.int 0)), (6, .d (.sl (cd6 l))), (7, .d (.int (cd6 l).length)), (8, .d (.int p.i))], []⟩) (fun p => l.length - p.i) ⟨0, by omega, rfl⟩ (zle 0) ?_;rintro ⟨i, hi, ok⟩;dsimp only;rcases ez6 i l.length with hlt | hge
 ·have g1 : decide ((i : Int) < ((cd6 l).length : Int)) = true := by rw [hle]; simpa using hlt
  have hx0 := ez5 hlt;generalize l[i] = x at hx0;have hx : (cd6 l)[(i : Int).toNat]? = some (.int x) := cd7 (by rw [fb4]; exact hx0);rw [ok, bz2 hx0];simp only [orL, orI]
  cases h : x != 0 with
  | true =>
   repeat' (first | refine yz ?_ | refine yi (.int x) hx ?_ | refine yx ?_ | (refine yy ?_ ?_ <;> intro _) | exact zD | exact zL)
  | false =>
   repeat' (first | refine yz ?_ | refine yi (.int x) hx ?_ | refine yx ?_ | (refine yy ?_ ?_ <;> intro _) | exact zD | exact zL)
   refine ac1 ?_;exact ⟨⟨i + 1, by omega, by rw [ok, bz2 hx0]; simp only [orL, orI]; rw [h]; rfl⟩, by dsimp only; omega, (zle 0)⟩
 ·have g1 : decide ((i : Int) < ((cd6 l).length : Int)) = false := by rw [hle]; simp; omega
  have : l.drop i = [] := fa1 hge;rw [ok, this]
  repeat' (first | refine yz ?_ | refine yx ?_ | (refine yy ?_ ?_ <;> intro _) | exact zD | exact zL)
def cm0 (g : V → V → Int) : List V → List V → Int
 | [], [] => 0
 | [], _ :: _ => -1
 | _ :: _, [] => 1
 | x :: r, y :: q => orI (g x y) (cm0 g r q)
theorem cm1 (g : V → V → Int) (a b : List V) (h : a = [] ∨ b = []) : cm0 g a b = ci a.length b.length := by
 cases a with
 | nil =>
  cases b with
  | nil => exact (cl4 0).symm
  | cons y q => simp only [cm0]; rw [cl2 (by simp only [fd1, fa8]; omega)]
 | cons x r =>
  cases b with
  | nil => simp only [cm0]; rw [cl3 (by simp only [fd1, fa8]; omega)]
  | cons y q => rcases h with h | h <;> cases h
structure SCF (g : V → V → Int) (a b : List V) where
 i : Nat
 hi : i ≤ a.length
 hj : i ≤ b.length
 ok : cm0 g a b = cm0 g (a.drop i) (b.drop i)
theorem cm2 (f : FuncId) (hb : an2 E f) (g : V → V → Int) (a b : List V) (hf : ∀ x ∈ a, ∀ y ∈ b, Ev E f [enc x, enc y] (.d (.int (g x y)))) :
  Ev E 235 [.sl (br5 a), .sl (br5 b), .imm (.func (.func f) #[] #[])] (.d (.int (cm0 g a b))) := Ev.fit fun hfit => by
 obtain ⟨hma, -⟩ := bs3 (hfit (.sl (br5 a)) (by simp));have hla : (br5 a).length = a.length := bs1 a;have hlb : (br5 b).length = b.length := bs1 b;refine ye3 func235 ntmps235 fun _ _ _=>?_
 repeat' (first | refine yz ?_ | refine yx ?_ | (refine yy ?_ ?_ <;> intro _) | exact zD | exact zL)
 refine ac7 (α := SCF g a b) (fun p => ⟨[(0, .d (.sl (br5 a))), (1, .d (.sl (br5 b))), (2, .d (.imm (.func (.func f) #[] #[]))), (11, .d (.sl (br5 a))), (12, .d (.int (br5 a).length)), (13, .d (.int p.i))], []⟩) (fun p => a.length - p.i) ⟨0, by omega, by omega, rfl⟩ (zle 0) ?_;rintro ⟨i, hi, hj, ok⟩;dsimp only;rcases ez6 i a.length with hlt | hge
 ·have g1 : decide ((i : Int) < ((br5 a).length : Int)) = true := by rw [hla]; simpa using hlt
  have hx0 := ez5 hlt;generalize a[i] = x at hx0;have hx : (br5 a)[(i : Int).toNat]? = some (enc x) := br9 (by rw [fb4]; exact hx0);rcases ez6 i b.length with hltb | hgeb
  ·have g2 : decide ((i : Int) ≥ ((br5 b).length : Int)) = false := by rw [hlb]; simpa using hltb
   have hy0 := ez5 hltb;generalize b[i] = y at hy0;have hy : (br5 b)[(i : Int).toNat]? = some (enc y) := br9 (by rw [fb4]; exact hy0);have hxy := hf x (ez9 hx0) y (ez9 hy0);rw [ok, bz2 hx0, bz2 hy0];simp only [cm0, orI]
   cases h : g x y != 0 with
   | true =>
    repeat' (first | refine yz ?_ | refine yi (enc x) hx ?_ | refine yi (enc y) hy ?_ | refine yp hb hxy ?_ | refine yx ?_ | (refine yy ?_ ?_ <;> intro _) | exact zD | exact zL)
   | false =>
    repeat' (first | refine yz ?_ | refine yi (enc x) hx ?_ | refine yi (enc y) hy ?_ | refine yp hb hxy ?_ | refine yx ?_ | (refine yy ?_ ?_ <;> intro _) | exact zD | exact zL)
    refine ac1 ?_;exact ⟨⟨i + 1, by omega, by omega, by rw [ok, bz2 hx0, bz2 hy0]; simp only [cm0, orI]; rw [h]; rfl⟩, by dsimp only; omega, (zle 0)⟩
  ·have g2 : decide ((i : Int) ≥ ((br5 b).length : Int)) = true := by rw [hlb]; simp; omega
   rw [ok, bz2 hx0, fa1 hgeb]
   repeat' (first | refine yz ?_ | refine yi (enc x) hx ?_ | refine yx ?_ | (refine yy ?_ ?_ <;> intro _) | exact zD | exact zL)
 ·have g1 : decide ((i : Int) < ((br5 a).length : Int)) = false := by rw [hla]; simp; omega
  have hia : i = a.length := by omega
  rcases ez6 i b.length with hltb | hgeb
  ·have g2 : decide (((br5 a).length : Int) < ((br5 b).length : Int)) = true := by rw [hla, hlb, decide_eq_true_eq]; omega
   rw [ok, fa1 hge, fk7 hltb]
   repeat' (first | refine yz ?_ | refine yx ?_ | (refine yy ?_ ?_ <;> intro _) | exact zD | exact zL)
  ·have g2 : decide (((br5 a).length : Int) < ((br5 b).length : Int)) = false := by rw [hla, hlb, decide_eq_false_iff_not]; omega
   rw [ok, fa1 hge, fa1 hgeb]
   repeat' (first | refine yz ?_ | refine yx ?_ | (refine yy ?_ ?_ <;> intro _) | exact zD | exact zL)
def cm3 (k : Int) : Int := bif k == 0 then 0 else bif k == 1 then 1 else bif k == 2 || k == 3 then 2 else bif k == 4 then 3 else bif k == 5 then 4 else bif k == 6 then 5 else bif k == 8 then 6 else 7
def cm4 (a b : V) (t : Int) : Int := orI (ci a.k b.k) (orI (ci a.n b.n) (orI (ci a.d b.d) (orI (cs a.s b.s) t)))
def cm5 (a b : V) (t : Int) : Int :=
 bif Val.okV a != Val.okV b then 1 - tt (Val.okV a) else
 bif !Val.okV a then cm4 a b t else
 bif ci (cm3 a.k) (cm3 b.k) != 0 then ci (cm3 a.k) (cm3 b.k) else
 bif bt5 a then ch2 (bt6 a) (bt7 a) (bt6 b) (bt7 b) else cm4 a b t
mutual
def cm6 : V → V → Int
 | .mk k n d s l, b => cm5 (.mk k n d s l) b (cm7 l b.l)
def cm7 : List V → List V → Int
 | [], [] => 0
 | [], _ :: _ => -1
 | _ :: _, [] => 1
 | x :: r, y :: q => orI (cm6 x y) (cm7 r q)
end
theorem cm8 : ∀ a b : List V, cm7 a b = cm0 cm6 a b
 | [], [] => by simp [cm7, cm0]
 | [], _ :: _ => by simp [cm7, cm0]
 | _ :: _, [] => by simp [cm7, cm0]
 | x :: r, y :: q => by simp only [cm7, cm0, cm8 r q]
theorem cm9 (a b : V) : cm6 a b = cm5 a b (cm0 cm6 a.l b.l) := by
 cases a
 simp only [cm6, cm8, V.l]
theorem cn0 (k : Int) : Ev E 200 [.int k] (.d (.int (cm3 k))) := by
 unfold cm3
 cases h0 : k == 0 with
 | true =>
  refine ye1 func200 ntmps200 fun _ _ _=>?_
  repeat' (first | refine yz ?_ | refine yx ?_ | (refine yy ?_ ?_ <;> intro _) | exact zD | exact zL)
 | false =>
 cases h1 : k == 1 with
 | true =>
  refine ye1 func200 ntmps200 fun _ _ _=>?_
  repeat' (first | refine yz ?_ | refine yx ?_ | (refine yy ?_ ?_ <;> intro _) | exact zD | exact zL)
 | false =>
 cases h2 : k == 2 with
 | true =>
  refine ye1 func200 ntmps200 fun _ _ _=>?_
  repeat' (first | refine yz ?_ | refine yx ?_ | (refine yy ?_ ?_ <;> intro _) | exact zD | exact zL)
 | false =>
 cases h3 : k == 3 with
 | true =>
  refine ye1 func200 ntmps200 fun _ _ _=>?_
  repeat' (first | refine yz ?_ | refine yx ?_ | (refine yy ?_ ?_ <;> intro _) | exact zD | exact zL)
 | false =>
 cases h4 : k == 4 with
 | true =>
  refine ye1 func200 ntmps200 fun _ _ _=>?_
  repeat' (first | refine yz ?_ | refine yx ?_ | (refine yy ?_ ?_ <;> intro _) | exact zD | exact zL)
 | false =>
 cases h5 : k == 5 with
 | true =>
  refine ye1 func200 ntmps200 fun _ _ _=>?_
  repeat' (first | refine yz ?_ | refine yx ?_ | (refine yy ?_ ?_ <;> intro _) | exact zD | exact zL)
 | false =>
 cases h6 : k == 6 with
 | true =>
  refine ye1 func200 ntmps200 fun _ _ _=>?_
  repeat' (first | refine yz ?_ | refine yx ?_ | (refine yy ?_ ?_ <;> intro _) | exact zD | exact zL)
 | false =>
 cases h8 : k == 8 with
 | true =>
  refine ye1 func200 ntmps200 fun _ _ _=>?_
  repeat' (first | refine yz ?_ | refine yx ?_ | (refine yy ?_ ?_ <;> intro _) | exact zD | exact zL)
 | false =>
  refine ye1 func200 ntmps200 fun _ _ _=>?_
  repeat' (first | refine yz ?_ | refine yx ?_ | (refine yy ?_ ?_ <;> intro _) | exact zD | exact zL)
theorem cn2 (a b : List V) (hf : ∀ x ∈ a, ∀ y ∈ b, Ev E 116 [enc x, enc y] (.d (.int (cm6 x y)))) : Ev E 270 [.sl (br5 a), .sl (br5 b)] (.d (.int (cm0 cm6 a b))) := Ev.fit fun hfit => by
 obtain ⟨hma, -⟩ := bs3 (hfit (.sl (br5 a)) (by simp));obtain ⟨hmb, -⟩ := bs3 (hfit (.sl (br5 b)) (by simp));have hla : (br5 a).length = a.length := bs1 a;have hlb : (br5 b).length = b.length := bs1 b;refine ye2 func270 ntmps270 fun _ _ _=>?_
 repeat' (first | refine yz ?_ | refine yx ?_ | (refine yy ?_ ?_ <;> intro _) | exact zD | exact zL)
 refine ac7 (α := SCF cm6 a b) (fun p => ⟨[(0, .d (.sl (br5 a))), (1, .d (.sl (br5 b))), (5, .d (.int p.i))], []⟩) (fun p => a.length - p.i) ⟨0, by omega, by omega, rfl⟩ (zle 0) ?_;rintro ⟨i, hi, hj, ok⟩;dsimp only
 have hend : (i = a.length ∨ i = b.length) → cm0 cm6 a b = ci ((br5 a).length : Int) ((br5 b).length : Int) := by
  intro h;rw [ok, cm1]
  ·rw [hla, hlb];rcases (show (a.length : Int) < b.length ∨ (a.length : Int) = b.length ∨ (a.length : Int) > b.length by omega) with h' | h' | h'
   ·rw [cl2 h', cl2 (by simp only [ff2]; omega)]
   ·rw [h', cl4, show ((a.drop i).length : Int) = ((b.drop i).length : Int) by simp only [ff2]; omega, cl4]
   ·rw [cl3 h', cl3 (by simp only [ff2]; omega)]
  ·rcases h with h | h
   ·exact .inl (fa1 (by omega))
   ·exact .inr (fa1 (by omega))
 have hin := cl5 ((br5 a).length : Int) ((br5 b).length : Int);rcases ez6 i a.length with hlt | hge
 ·have g1 : decide ((i : Int) < ((br5 a).length : Int)) = true := by rw [hla]; simpa using hlt
  rcases ez6 i b.length with hltb | hgeb
  ·have g2 : decide ((i : Int) < ((br5 b).length : Int)) = true := by rw [hlb]; simpa using hltb
   have hx0 := ez5 hlt;generalize a[i] = x at hx0;have hx : (br5 a)[(i : Int).toNat]? = some (enc x) := br9 (by rw [fb4]; exact hx0);have hy0 := ez5 hltb;generalize b[i] = y at hy0;have hy : (br5 b)[(i : Int).toNat]? = some (enc y) := br9 (by rw [fb4]; exact hy0);have hxy := hf x (ez9 hx0) y (ez9 hy0);rw [ok, bz2 hx0, bz2 hy0];simp only [cm0, orI]
   cases h : cm6 x y != 0 with
   | true =>
    repeat' (first | refine yz ?_ | refine yi (enc x) hx ?_ | refine yi (enc y) hy ?_ | refine yp b116 hxy ?_ | refine yx ?_ | (refine yy ?_ ?_ <;> intro _) | exact zD | exact zL)
   | false =>
    repeat' (first | refine yz ?_ | refine yi (enc x) hx ?_ | refine yi (enc y) hy ?_ | refine yp b116 hxy ?_ | refine yx ?_ | (refine yy ?_ ?_ <;> intro _) | exact zD | exact zL)
    refine ac1 ?_;exact ⟨⟨i + 1, by omega, by omega, by rw [ok, bz2 hx0, bz2 hy0]; simp only [cm0, orI]; rw [h]; rfl⟩, by dsimp only; omega, (zle 0)⟩
  ·have g2 : decide ((i : Int) < ((br5 b).length : Int)) = false := by rw [hlb]; simp; omega
   rw [hend (.inr (by omega))]
   repeat' (first | refine yz ?_ | refine yp bv5 hin ?_ | refine yx ?_ | (refine yy ?_ ?_ <;> intro _) | exact zD | exact zL)
 ·have g1 : decide ((i : Int) < ((br5 a).length : Int)) = false := by rw [hla]; simp; omega
  rw [hend (.inl (by omega))]
  repeat' (first | refine yz ?_ | refine yp bv5 hin ?_ | refine yx ?_ | (refine yy ?_ ?_ <;> intro _) | exact zD | exact zL)
theorem cn3 (a b : V) (hf : ∀ x ∈ a.l, ∀ y ∈ b.l, Ev E 116 [enc x, enc y] (.d (.int (cm6 x y)))) : Ev E 198 [enc a, enc b] (.d (.int (cm4 a b (cm0 cm6 a.l b.l)))) := by
 have hl := cn2 a.l b.l hf;rw [br6, br6, ← br7, ← br7] at hl;unfold cm4 orI
 cases h1 : ci a.k b.k != 0 with
 | true =>
  refine ye2 func198 ntmps198 fun _ _ _=>?_
  repeat' (first | refine yz ?_ | refine yp bv5 (cl5 _ _) ?_ | refine yx ?_ | (refine yy ?_ ?_ <;> intro _) | exact zD | exact zL)
 | false =>
 cases h2 : ci a.n b.n != 0 with
 | true =>
  refine ye2 func198 ntmps198 fun _ _ _=>?_
  repeat' (first | refine yz ?_ | refine yp bv5 (cl5 _ _) ?_ | refine yx ?_ | (refine yy ?_ ?_ <;> intro _) | exact zD | exact zL)
 | false =>
 cases h3 : ci a.d b.d != 0 with
 | true =>
  refine ye2 func198 ntmps198 fun _ _ _=>?_
  repeat' (first | refine yz ?_ | refine yp bv5 (cl5 _ _) ?_ | refine yx ?_ | (refine yy ?_ ?_ <;> intro _) | exact zD | exact zL)
 | false =>
 cases h4 : cs a.s b.s != 0 with
 | true =>
  refine ye2 func198 ntmps198 fun _ _ _=>?_
  repeat' (first | refine yz ?_ | refine yp bv5 (cl5 _ _) ?_ | refine yp b269 (cl6 _ _) ?_ | refine yx ?_ | (refine yy ?_ ?_ <;> intro _) | exact zD | exact zL)
 | false =>
  refine ye2 func198 ntmps198 fun _ _ _=>?_
  repeat' (first | refine yz ?_ | refine yp bv5 (cl5 _ _) ?_ | refine yp b269 (cl6 _ _) ?_ | refine yp b270 hl ?_ | refine yx ?_ | (refine yy ?_ ?_ <;> intro _) | exact zD | exact zL)
theorem cn4 (a : V) : ∀ b : V, Ev E 116 [enc a, enc b] (.d (.int (cm6 a b))) := by
 refine cc2 (P := fun a => ∀ b : V, Ev E 116 [enc a, enc b] (.d (.int (cm6 a b)))) (fun k n d s l ih b => ?_) a;have hfl := cn3 (.mk k n d s l) b (fun x hx y _ => ih x hx y);rw [cm9];generalize V.mk k n d s l = a at *;clear ih;have va := ca6 a;have vb := ca6 b;have na := cb0 a;have nb := cb0 b;have hc := ch8 (bt6 a) (bt7 a) (bt6 b) (bt7 b);have hcl := cl5 (cm3 a.k) (cm3 b.k);unfold cm5
 cases h1 : Val.okV a != Val.okV b with
 | true =>
  have hy := by2 (Val.okV a);have htt : 0 ≤ tt (Val.okV a) ∧ tt (Val.okV a) ≤ 2 := by cases Val.okV a <;> decide
  refine ye2 func116 ntmps116 fun _ _ _=>?_
  repeat' (first | refine yz ?_ | refine yp bv4 va ?_ | refine yp bv4 vb ?_ | refine yp b197 hy ?_ | refine yx ?_ | (refine yy ?_ ?_ <;> intro _) | exact zD | exact zL)
 | false =>
 cases h2 : Val.okV a with
 | false =>
  have g2 : (!Val.okV a) = true := by rw [h2]; rfl
  refine ye2 func116 ntmps116 fun _ _ _=>?_
  repeat' (first | refine yz ?_ | refine yp bv4 va ?_ | refine yp bv4 vb ?_ | refine yp b198 hfl ?_ | refine yx ?_ | (refine yy ?_ ?_ <;> intro _) | exact zD | exact zL)
 | true =>
 have g2 : (!Val.okV a) = false := by rw [h2]; rfl
 cases h3 : ci (cm3 a.k) (cm3 b.k) != 0 with
 | true =>
  refine ye2 func116 ntmps116 fun _ _ _=>?_
  repeat' (first | refine yz ?_ | refine yp bv4 va ?_ | refine yp bv4 vb ?_ | refine yp b200 (cn0 _) ?_ | refine yp bv5 hcl ?_ | refine yx ?_ | (refine yy ?_ ?_ <;> intro _) | exact zD | exact zL)
 | false =>
 cases h4 : bt5 a with
 | true =>
  refine ye2 func116 ntmps116 fun _ _ _=>?_
  repeat' (first | refine yz ?_ | refine yp bv4 va ?_ | refine yp bv4 vb ?_ | refine yp b200 (cn0 _) ?_ | refine yp bv5 hcl ?_ | refine qP (d := 39) rfl rfl rfl rfl rfl rfl b201 (na) ?_ | refine yp b201 nb ?_ | refine yp b202 hc ?_ | refine yx ?_ | (refine yy ?_ ?_ <;> intro _) | exact zD | exact zL)
 | false =>
  refine ye2 func116 ntmps116 fun _ _ _=>?_
  repeat' (first | refine yz ?_ | refine yp bv4 va ?_ | refine yp bv4 vb ?_ | refine yp b200 (cn0 _) ?_ | refine yp bv5 hcl ?_ | refine qP (d := 39) rfl rfl rfl rfl rfl rfl b201 (na) ?_ | refine yp b201 nb ?_ | refine yp b198 hfl ?_ | refine yx ?_ | (refine yy ?_ ?_ <;> intro _) | exact zD | exact zL)
end Go.Proofs.YtenpjlghikohmaaGreatDoor
namespace Go.Proofs.YtenpjlghikohmaaGreatDoor
set_option maxRecDepth 4000
open Go Go.Abs Go.Val Go.RowKit Go.Proofs.Tryz
attribute [local irreducible] go SGo an2 Ev aw2 EvO
def cn5 (k : Int) : Int := bif k == 3 then 2 else bif k == 7 then 9 else k
theorem cn6 (v : V) : Ev E 308 [enc v] (.d (.int (cn5 v.k))) := by
 unfold cn5
 cases h1 : v.k == 3 with
 | true =>
  refine ye1 func308 ntmps308 fun _ _ _=>?_
  repeat' (first | refine yz ?_ | refine yx ?_ | (refine yy ?_ ?_ <;> intro _) | exact zD | exact zL)
 | false =>
 cases h2 : v.k == 7 with
 | true =>
  refine ye1 func308 ntmps308 fun _ _ _=>?_
  repeat' (first | refine yz ?_ | refine yx ?_ | (refine yy ?_ ?_ <;> intro _) | exact zD | exact zL)
 | false =>
  refine ye1 func308 ntmps308 fun _ _ _=>?_
  repeat' (first | refine yz ?_ | refine yx ?_ | (refine yy ?_ ?_ <;> intro _) | exact zD | exact zL)
theorem cn7 {v : V} (h : bt0 v = true) : v.l = [] := by
 simp only [bt0, fc7, fa3, beq_iff_eq, List.length_eq_zero_iff] at h
 grind
theorem cn8 : ∀ (l : List V) (i : Nat), bt2 i l = true → ∀ x ∈ l, bt0 x = true
 | [], _, _, x, hx => by simp at hx
 | v :: r, i, h, x, hx => by
  simp only [bt2, bt1, fa3] at h;rcases fa6.1 hx with e | e
  ·rw [e]; exact h.1.2
  ·exact cn8 r (i + 1) h.2 x e
theorem cn9 {v : V} (m : Nat) (h : bt0 v = true) : okN m v = true := by
 cases m <;> simp [okN, h]
theorem co0 : ∀ (m : Nat) (v : V), okN m v = true → okN (m + 1) v = true
 | 0, v, h => by
  simp only [okN, fc7] at h ⊢;exact .inl h
 | m + 1, v, h => by
  have ih := co0 m;simp only [okN, fc7, fa3, fb2, decide_eq_true_eq] at h ih ⊢;rcases h with h | h
  ·exact .inl h
  ·exact .inr ⟨h.1, h.2.1, fun x hx => by have := ih x (by have := h.2.2 x hx; simpa [okN] using this); simpa [okN] using this⟩
theorem co1 {v : V} (h : Val.okV v = true) : ∀ x ∈ v.l, Val.okV x = true := by
 unfold Val.okV at h;rw [okN] at h;simp only [fc7, fa3, fb2] at h;intro x hx;rcases h with (h | h) | h
 ·rw [cn7 h] at hx; simp at hx
 ·have hp := h.2.2;simp only [bt3, fa3] at hp;exact cn9 8 (cn8 _ 0 hp.2 x hx)
 ·exact co0 7 x (h.2.2 x hx)
theorem co2 {v : V} (h : Val.okV v = true) : (v.k ≠ 3 → v.d = 0) ∧ (v.k ≠ 4 → v.s.toList = (⟨#[]⟩ : ByteArray).toList) ∧ (v.k = 4 → v.n = 0) ∧ (v.k = 7 ∨ v.k = 8 → v.n = 0) ∧ (v.k ≠ 7 → v.k ≠ 8 → v.l = []) := by
 unfold Val.okV at h;rw [okN] at h;simp only [bt0, s0, fc7, fa3, beq_iff_eq, List.length_eq_zero_iff] at h
 grind
theorem co3 {v : V} (h : Val.okV v = true) : bt5 v = (v.k == 2 || v.k == 3) := by unfold bt5; rw [h, fj6]
theorem co4 {a b : Int} (ha : 0 ≤ a ∧ a ≤ 8) (hb : 0 ≤ b ∧ b ≤ 8) : ci (cn5 a) (cn5 b) = ci (cm3 a) (cm3 b) := by
 obtain ⟨x, rfl⟩ := fi3 ha.1;obtain ⟨y, rfl⟩ := fi3 hb.1;have hx : x < 9 := by omega
 have hy : y < 9 := by omega
 revert ha hb;have key : ∀ (x y : Fin 9), ci (cn5 (x.val : Int)) (cn5 (y.val : Int)) = ci (cm3 (x.val : Int)) (cm3 (y.val : Int)) := by decide
 intro _ _;exact key ⟨x, hx⟩ ⟨y, hy⟩
theorem co5 {a b : Int} (ha : 0 ≤ a ∧ a ≤ 8) (hb : 0 ≤ b ∧ b ≤ 8) (h : ci (cm3 a) (cm3 b) = 0) (hn : (a == 2 || a == 3) = false) : a = b := by
 obtain ⟨x, rfl⟩ := fi3 ha.1;obtain ⟨y, rfl⟩ := fi3 hb.1;have hx : x < 9 := by omega
 have hy : y < 9 := by omega
 revert ha hb h hn;have key : ∀ (x y : Fin 9), ci (cm3 (x.val : Int)) (cm3 (y.val : Int)) = 0 → ((x.val : Int) == 2 || (x.val : Int) == 3) = false → (x.val : Int) = (y.val : Int) := by decide
 intros
 exact key ⟨x, hx⟩ ⟨y, hy⟩ (by assumption) (by assumption)
theorem co6 {v : V} (h : Val.okV v = true) : 0 ≤ v.k ∧ v.k ≤ 8 := by have := cj9 h; omega
theorem co7 {a b : ByteArray} (h : a.toList = b.toList) : cs a b = 0 := by
 unfold cs;rw [h]
 have hl : ∀ l : List UInt8, Op.bytesLess l l = false := by
  intro l
  induction l with
  | nil => rfl
  | cons x r ih => simp [Op.bytesLess, ih]
 rw [hl];simp
theorem co8 {v : V} (h : Val.okV v = true) : (cn5 v.k == 2) = bt5 v := by
 rw [co3 h];have := cj9 h;unfold cn5;rcases this with e | e | e | e | e | e | e | e | e <;> rw [e] <;> rfl
theorem co9 {a b : V} (ha : Val.okV a = true) (hb : Val.okV b = true) : cm6 a b = bif ci (cn5 a.k) (cn5 b.k) != 0 then ci (cn5 a.k) (cn5 b.k) else bif cn5 a.k == 2 then ch2 (bt6 a) (bt7 a) (bt6 b) (bt7 b) else orL [cs a.s b.s, ci a.n b.n, cm0 cm6 a.l b.l] := by
 rw [cm9, cm5, ha, hb];have hra := co6 ha;have hrb := co6 hb;rw [co4 hra hrb, co8 ha];simp only [bne_self_eq_false, ff7, cond_false]
 cases h1 : ci (cm3 a.k) (cm3 b.k) != 0 with
 | true => rfl
 | false =>
  simp only [cond_false]
  cases h2 : bt5 a with
  | true => rfl
  | false =>
   simp only [cond_false];have hk : a.k = b.k := co5 hra hrb (by simpa using h1) (by rw [← co3 ha]; exact h2)
   have hn3 : a.k ≠ 3 := by
    intro h;rw [co3 ha, h] at h2
    cases h2
   obtain ⟨a1, a2, a3, a4, a5⟩ := co2 ha;obtain ⟨b1, b2, b3, b4, b5⟩ := co2 hb;have e1 : ci a.k b.k = 0 := by rw [hk]; exact cl4 _
   have e2 : ci a.d b.d = 0 := by rw [a1 hn3, b1 (by rw [← hk]; exact hn3)]; exact cl4 _
   unfold cm4;rw [e1, e2];simp only [orL, orI];simp only [bne_self_eq_false, cond_false]
   by_cases h4 : a.k = 4
   ·have e3 : ci a.n b.n = 0 := by rw [a3 h4, b3 (by rw [← hk]; exact h4)]; exact cl4 _
    rw [e3];simp only [bne_self_eq_false, cond_false];rw [a5 (by omega) (by omega), b5 (by omega) (by omega)];simp only [cm0, bne_self_eq_false, cond_false]
   ·have e3 : cs a.s b.s = 0 := co7 (by rw [a2 h4, b2 (by rw [← hk]; exact h4)]);rw [e3];simp only [bne_self_eq_false, cond_false]
    cases ci a.n b.n != 0 with
    | true => rfl
    | false =>
     simp only [cond_false]
     cases hq : cm0 cm6 a.l b.l != 0 with
     | true => rfl
     | false => simp only [cond_false]; simpa using hq
theorem cp0 (a : V) : ∀ b : V, Val.okV a = true → Val.okV b = true → Ev E 232 [enc a, enc b] (.d (.int (cm6 a b))) := by
 refine cc2 (P := fun a => ∀ b : V, Val.okV a = true → Val.okV b = true → Ev E 232 [enc a, enc b] (.d (.int (cm6 a b)))) (fun k n d s l ih b ha hb => ?_) a;have hka := co1 ha;have hkb := co1 hb;have hcf := cm2 232 b232 cm6 l b.l (fun x hx y hy => ih x hx y (hka x hx) (hkb y hy));rw [br6, br6, ← br7 b] at hcf;have hkk : l.map enc = br4 (.mk k n d s l) := (br7 (.mk k n d s l)).symm;rw [hkk] at hcf;rw [co9 ha hb];have hll : cm0 cm6 l b.l = cm0 cm6 (V.mk k n d s l).l b.l := rfl;rw [hll] at hcf;generalize V.mk k n d s l = a at *;clear ih hkk hll;have ca := cn6 a;have cb := cn6 b;have hcc := cb5 (cn5 a.k) (cn5 b.k);have na := ca9 cc1 a;have nb := ca9 cc1 b;have hc := cj7 (bt6 a) (bt7 a) (bt6 b) (bt7 b);have hcn := cb5 a.n b.n;have hcs := cl8 a.s b.s;have hor := cl9 [cs a.s b.s, ci a.n b.n, cm0 cm6 a.l b.l]
 cases h1 : ci (cn5 a.k) (cn5 b.k) != 0 with
 | true =>
  have h1' : (Lib.compareInt (cn5 a.k) (cn5 b.k) != 0) = true := h1;refine ye2 func232 ntmps232 fun _ _ _=>?_
  repeat' (first | refine yz ?_ | refine qP (d := 11) rfl rfl rfl rfl rfl rfl bw2 (ca) ?_ | refine yp bw2 cb ?_ | refine yp b52 hcc ?_ | refine yx ?_ | (refine yy ?_ ?_ <;> intro _) | exact zD | exact zL)
 | false =>
 have h1' : (Lib.compareInt (cn5 a.k) (cn5 b.k) != 0) = false := h1
 cases h2 : cn5 a.k == 2 with
 | true =>
  refine ye2 func232 ntmps232 fun _ _ _=>?_
  repeat' (first | refine yz ?_ | refine qP (d := 11) rfl rfl rfl rfl rfl rfl bw2 (ca) ?_ | refine qP (d := 19) rfl rfl rfl rfl rfl rfl bw2 (ca) ?_ | refine yp bw2 cb ?_ | refine yp b52 hcc ?_ | refine qP (d := 23) rfl rfl rfl rfl rfl rfl bw3 (na) ?_ | refine yp bw3 nb ?_ | refine yp b310 hc ?_ | refine yx ?_ | (refine yy ?_ ?_ <;> intro _) | exact zD | exact zL)
 | false =>
  refine ye2 func232 ntmps232 fun _ _ _=>?_
  repeat' (first | refine yz ?_ | refine qP (d := 11) rfl rfl rfl rfl rfl rfl bw2 (ca) ?_ | refine qP (d := 19) rfl rfl rfl rfl rfl rfl bw2 (ca) ?_ | refine yp bw2 cb ?_ | refine qP (d := 14) rfl rfl rfl rfl rfl rfl b52 (hcc) ?_ | refine yp b52 hcn ?_ | refine yp b234 hcs ?_ | refine yp b235 hcf ?_ | refine yp b233 hor ?_ | refine yx ?_ | (refine yy ?_ ?_ <;> intro _) | exact zD | exact zL)
theorem cp2 (a : V) : ∀ b : V, Ev E 148 [enc a, enc b] (.d (.int (cm6 a b))) := by
 refine cc2 (P := fun a => ∀ b : V, Ev E 148 [enc a, enc b] (.d (.int (cm6 a b)))) (fun k n d s l ih b => ?_) a;have hcf := cm2 148 b148 cm6 l b.l (fun x hx y hy => ih x hx y);rw [br6, br6, ← br7 b] at hcf;have hkk : l.map enc = br4 (.mk k n d s l) := (br7 (.mk k n d s l)).symm;rw [hkk] at hcf;have hll : cm0 cm6 l b.l = cm0 cm6 (V.mk k n d s l).l b.l := rfl;rw [hll] at hcf;generalize V.mk k n d s l = a at *;clear ih hkk hll;have va := ca5 cc1 a;have vb := ca5 cc1 b;have hck := cb5 a.k b.k;have hcn := cb5 a.n b.n;have hcd := cb5 a.d b.d;have hcs := cl8 a.s b.s;have hor := cl9 [ci a.k b.k, ci a.n b.n, ci a.d b.d, cs a.s b.s, cm0 cm6 a.l b.l]
 cases h1 : Val.okV a with
 | true =>
  cases h2 : Val.okV b with
  | true =>
   have ho := cp0 a b h1 h2;refine ye2 func148 ntmps148 fun _ _ _=>?_
   repeat' (first | refine yz ?_ | refine qP (d := 8) rfl rfl rfl rfl rfl rfl bv8 (va) ?_ | refine yp bv8 vb ?_ | refine yp b232 ho ?_ | refine yx ?_ | (refine yy ?_ ?_ <;> intro _) | exact zD | exact zL)
  | false =>
   have e : cm6 a b = -1 := by rw [cm9, cm5, h1, h2]; rfl
   rw [e];refine ye2 func148 ntmps148 fun _ _ _=>?_
   repeat' (first | refine yz ?_ | refine qP (d := 8) rfl rfl rfl rfl rfl rfl bv8 (va) ?_ | refine yp bv8 vb ?_ | refine yx ?_ | (refine yy ?_ ?_ <;> intro _) | exact zD | exact zL)
 | false =>
  cases h2 : Val.okV b with
  | true =>
   have e : cm6 a b = 1 := by rw [cm9, cm5, h1, h2]; rfl
   rw [e];refine ye2 func148 ntmps148 fun _ _ _=>?_
   repeat' (first | refine yz ?_ | refine qP (d := 8) rfl rfl rfl rfl rfl rfl bv8 (va) ?_ | refine yp bv8 vb ?_ | refine yx ?_ | (refine yy ?_ ?_ <;> intro _) | exact zD | exact zL)
  | false =>
   have e : cm6 a b = orL [ci a.k b.k, ci a.n b.n, ci a.d b.d, cs a.s b.s, cm0 cm6 a.l b.l] := by
    rw [cm9, cm5, h1, h2];simp only [bne_self_eq_false, fh8, cond_false, cond_true, cm4, orL]
    have : orI (cm0 cm6 a.l b.l) 0 = cm0 cm6 a.l b.l := by
     unfold orI
     cases hq : cm0 cm6 a.l b.l != 0 with
     | true => rfl
     | false => simp only [cond_false]; exact (by simpa using hq : cm0 cm6 a.l b.l = 0).symm
    rw [this]
   rw [e];refine ye2 func148 ntmps148 fun _ _ _=>?_
   repeat' (first | refine yz ?_ | refine qP (d := 8) rfl rfl rfl rfl rfl rfl bv8 (va) ?_ | refine yp bv8 vb ?_ | refine qP (d := 27) rfl rfl rfl rfl rfl rfl b52 (hck) ?_ | refine qP (d := 32) rfl rfl rfl rfl rfl rfl b52 (hcn) ?_ | refine qP (d := 37) rfl rfl rfl rfl rfl rfl b52 (hcd) ?_ | refine yp b234 hcs ?_ | refine yp b235 hcf ?_ | refine yp b233 hor ?_ | refine yx ?_ | (refine yy ?_ ?_ <;> intro _) | exact zD | exact zL)
theorem cp3 {n d n' d' : Int} (h : bs6 n d = true) (h' : bs6 n' d' = true) (he : n * d' = n' * d) : n = n' ∧ d = d' := by
 simp only [bs6, fa3, decide_eq_true_eq, beq_iff_eq] at h h';have g : Int.gcd n d = 1 := by have := h.2.2.2; omega
 have g' : Int.gcd n' d' = 1 := by have := h'.2.2.2; omega
 have key : ∀ {n d n' d' : Int}, Int.gcd n d = 1 → n * d' = n' * d → d ∣ d' := by
  intro n d n' d' g he;have hdv : d ∣ n * d' := ⟨n', by rw [he, Int.mul_comm]⟩
  have h0 : d.natAbs ∣ d'.natAbs * n.natAbs := by
   have := Int.natAbs_dvd_natAbs.2 hdv;rwa [Int.natAbs_mul, Nat.mul_comm] at this
  have hc : Nat.Coprime d.natAbs n.natAbs := by
   unfold Nat.Coprime;rw [Nat.gcd_comm];exact g
  exact Int.natAbs_dvd_natAbs.1 (hc.dvd_of_dvd_mul_right h0)
 have h1 : d ∣ d' := key g he;have h2 : d' ∣ d := key g' he.symm;have hd : d = d' := Int.dvd_antisymm (by omega) (by omega) h1 h2;refine ⟨?_, hd⟩;rw [hd] at he;exact Int.eq_of_mul_eq_mul_right (by omega) he
theorem cp4 {v : V} (h : bt5 v = true) : bs6 (bt6 v) (bt7 v) = true := by
 have hok : Val.okV v = true := by unfold bt5 at h; simp only [fa3] at h; exact h.2
 have hk : v.k = 2 ∨ v.k = 3 := by unfold bt5 at h; simp only [fa3, fc7, beq_iff_eq] at h; exact h.1
 unfold bt6 bt7;rw [h];simp only [cond_true];obtain ⟨k, n, d, s, l⟩ := v;simp only [V.k] at hk;unfold Val.okV at hok;rw [bz7 8 k n d s l (by omega) (by omega)] at hok;rcases hk with rfl | rfl
 ·simp [bt0, V.k, V.n, V.d, V.s, V.l] at hok;simp [V.k, V.n, bs6, hok.2]
 ·simp [bt0, V.k, V.n, V.d, V.s, V.l] at hok;simpa [V.k, V.n, V.d] using hok.2.2
theorem cp5 {a b : V} (ha : bt5 a = true) (hb : bt5 b = true) : (ch2 (bt6 a) (bt7 a) (bt6 b) (bt7 b) == 0) = ((bt6 a == bt6 b) && (bt7 a == bt7 b)) := by
 have fa := cp4 ha;have fb := cp4 hb
 have e : ch2 (bt6 a) (bt7 a) (bt6 b) (bt7 b) = sgn (bt6 a * bt7 b - bt6 b * bt7 a) := by
  unfold ch2 fzn fzd;rw [fa, fb];rfl
 rw [e, ff6];simp only [beq_iff_eq, fa3];constructor
 ·intro h;refine cp3 fa fb ?_;unfold sgn at h;split at h
  ·cases h
  ·split at h
   ·cases h
   ·omega
 ·rintro ⟨h1, h2⟩;rw [h1, h2, Int.sub_self];rfl
def cp6 (a b : V) (t : Int) : Int :=
 bif a.k == 0 || b.k == 0 || !Val.okV a || !Val.okV b then 1 else
 bif bt5 a && bt5 b then tt (ch2 (bt6 a) (bt7 a) (bt6 b) (bt7 b) == 0) else
 bif a.k != b.k then 0 else
 bif a.k == 4 then tt (a.s.toList == b.s.toList) else
 bif a.k != 8 && a.k != 7 then tt (a.n == b.n) else
 bif a.l.length != b.l.length then 0 else t
mutual
def eqF : V → V → Int
 | .mk k n d s l, b => cp6 (.mk k n d s l) b (eqL l b.l 2)
def eqL : List V → List V → Int → Int
 | x :: r, y :: q, t => eqL r q (min (kn t) (kn (eqF x y)))
 | [], _, t => t
 | _ :: _, [], t => t
end
def eqM (g : V → V → Int) : List V → List V → Int → Int
 | x :: r, y :: q, t => eqM g r q (min (kn t) (kn (g x y)))
 | [], _, t => t
 | _ :: _, [], t => t
theorem cp7 : ∀ (a b : List V) (t : Int), eqL a b t = eqM eqF a b t
 | [], b, t => by simp [eqL, eqM]
 | _ :: _, [], t => by simp [eqL, eqM]
 | x :: r, y :: q, t => by simp only [eqL, eqM]; rw [cp7 r q]
theorem cp8 (a b : V) : eqF a b = cp6 a b (eqM eqF a.l b.l 2) := by
 cases a
 simp only [eqF, cp7, V.l]
structure SE (a b : List V) where
 i : Nat
 t : Int
 hi : i ≤ a.length
 ok : eqM eqF a b 2 = eqM eqF (a.drop i) (b.drop i) t
end Go.Proofs.YtenpjlghikohmaaGreatDoor
namespace Go.Proofs.YtenpjlghikohmaaGreatDoor
set_option maxRecDepth 4000
open Go Go.Abs Go.Val Go.RowKit Go.Proofs.Tryz
attribute [local irreducible] go SGo an2 Ev aw2 EvO
set_option maxHeartbeats 2000000 in
theorem cp9 (a : V) : ∀ b : V, Val.okV a = true → Val.okV b = true → Ev E 237 [enc a, enc b] (.d (.int (eqF a b))) := by
 refine cc2 (P := fun a => ∀ b : V, Val.okV a = true → Val.okV b = true → Ev E 237 [enc a, enc b] (.d (.int (eqF a b)))) (fun k n d s l ih b h3 h4 => ?_) a;refine Ev.fit fun hfit => ?_
 obtain ⟨-, -, -, -, hma, -⟩ := bs2 (hfit (enc (.mk k n d s l)) (by simp));rw [cp8];have ih' : ∀ x ∈ (V.mk k n d s l).l, ∀ y : V, Val.okV x = true → Val.okV y = true → Ev E 237 [enc x, enc y] (.d (.int (eqF x y))) := ih;generalize V.mk k n d s l = a at *;clear ih;have na := ca9 cc1 a;have nb := ca9 cc1 b;have hla : (br4 a).length = a.l.length := bs0 a;have hlb : (br4 b).length = b.l.length := bs0 b;have hka := co1 h3;have hkb := co1 h4;unfold cp6;rw [h3, h4];simp only [fc2, ff7]
 cases h1 : a.k == 0 with
 | true =>
  simp only [Bool.true_or, cond_true];refine ye2 func237 ntmps237 fun _ _ _=>?_
  repeat' (first | refine yz ?_ | refine yx ?_ | (refine yy ?_ ?_ <;> intro _) | exact zD | exact zL)
 | false =>
 cases h2 : b.k == 0 with
 | true =>
  simp only [fe5, cond_true];refine ye2 func237 ntmps237 fun _ _ _=>?_
  repeat' (first | refine yz ?_ | refine yx ?_ | (refine yy ?_ ?_ <;> intro _) | exact zD | exact zL)
 | false =>
 simp only [fc2, cond_false]
 cases h5 : bt5 a with
 | true =>
  rw [h5] at na
  cases h6 : bt5 b with
  | true =>
   rw [h6] at nb;rw [cp5 h5 h6];have hy := by1 ((bt6 a == bt6 b) && ((bt7 a == bt7 b) && true));have e2 : tt ((bt6 a == bt6 b) && (bt7 a == bt7 b)) = tt ((bt6 a == bt6 b) && ((bt7 a == bt7 b) && true)) := by rw [fj6]
   simp only [fj6, cond_true];rw [e2];refine ye2 func237 ntmps237 fun _ _ _=>?_
   repeat' (first | refine yz ?_ | refine qP (d := 21) rfl rfl rfl rfl rfl rfl bw3 (na) ?_ | refine yp bw3 nb ?_ | refine yp b312 hy ?_ | (refine aw7 (by kernel_rfl) (by kernel_rfl) rfl rfl rfl rfl rfl rfl rfl rfl (.inl ⟨rfl, rfl⟩) ?_) | refine yx ?_ | (refine yy ?_ ?_ <;> intro _) | exact zD | exact zL)
  | false =>
   rw [h6] at nb;simp only [fh1, cond_false]
   have hk : (a.k != b.k) = true := by
    rw [co3 h3] at h5;rw [co3 h4] at h6;simp only [fc7, fh2, beq_iff_eq, beq_eq_false_iff_ne, bne_iff_ne] at *;omega
   rw [hk];refine ye2 func237 ntmps237 fun _ _ _=>?_
   repeat' (first | refine yz ?_ | refine qP (d := 21) rfl rfl rfl rfl rfl rfl bw3 (na) ?_ | refine yp bw3 nb ?_ | refine yx ?_ | (refine yy ?_ ?_ <;> intro _) | exact zD | exact zL)
 | false =>
  rw [h5] at na;simp only [fe1, cond_false]
  cases h7 : a.k != b.k with
  | true =>
   refine ye2 func237 ntmps237 fun _ _ _=>?_
   repeat' (first | refine yz ?_ | refine qP (d := 21) rfl rfl rfl rfl rfl rfl bw3 (na) ?_ | refine yp bw3 nb ?_ | refine yx ?_ | (refine yy ?_ ?_ <;> intro _) | exact zD | exact zL)
  | false =>
  have hkk : a.k = b.k := by simpa using h7
  cases h9 : a.k != 8 && a.k != 7 with
  | true =>
   have e : (bif a.k == 4 then tt (a.s.toList == b.s.toList) else bif true then tt (a.n == b.n) else bif a.l.length != b.l.length then 0 else eqM eqF a.l b.l 2) = tt ((a.n == b.n) && (a.s.toList == b.s.toList)) := by
    obtain ⟨-, a2, a3, -, -⟩ := co2 h3;obtain ⟨-, b2, b3, -, -⟩ := co2 h4
    cases h8 : a.k == 4 with
    | true =>
     have h8' : a.k = 4 := by simpa using h8
     rw [a3 h8', b3 (by rw [← hkk]; exact h8')];rfl
    | false =>
     have h8' : a.k ≠ 4 := by simpa using h8
     rw [a2 h8', b2 (by rw [← hkk]; exact h8')];simp
   rw [e];simp only [fa3] at h9;obtain ⟨g1, g2⟩ := h9;have hy := by1 ((a.n == b.n) && (a.s.toList == b.s.toList))
   cases g3 : a.n == b.n
   all_goals
    rw [g3] at hy;simp only [fc3, fe1] at hy ⊢;refine ye2 func237 ntmps237 fun _ _ _=>?_
    repeat' (first | refine yz ?_ | refine qP (d := 21) rfl rfl rfl rfl rfl rfl bw3 (na) ?_ | refine yp bw3 nb ?_ | refine yp b312 hy ?_ | refine yx ?_ | (refine yy ?_ ?_ <;> intro _) | exact zD | exact zL)
  | false =>
  have h8 : (a.k == 4) = false := by
   rw [beq_eq_false_iff_ne];intro h;rw [h] at h9
   cases h9
  rw [h8];simp only [cond_false];have key : (a.l.length != b.l.length) = ((br4 a).length != (br4 b).length) := by rw [hla, hlb]
  have hkk : (((br4 a).length : Int) != ((br4 b).length : Int)) = (a.l.length != b.l.length) := by
   rw [key]
   cases hq : (br4 a).length != (br4 b).length with
   | true => simp only [bne_iff_ne] at hq ⊢; omega
   | false => simp only [bne_eq_false_iff_eq] at hq ⊢; omega
  cases h10 : a.l.length != b.l.length with
  | true =>
   rw [h10] at hkk
   cases g1 : a.k != 8
   all_goals
    try rw [g1, fc3] at h9
    refine ye2 func237 ntmps237 fun _ _ _=>?_
    repeat' (first | refine yz ?_ | refine qP (d := 21) rfl rfl rfl rfl rfl rfl bw3 (na) ?_ | refine yp bw3 nb ?_ | refine yx ?_ | (refine yy ?_ ?_ <;> intro _) | exact zD | exact zL)
  | false =>
   rw [h10] at hkk;have hlen : a.l.length = b.l.length := by simpa using h10
   cases g1 : a.k != 8
   all_goals
    try rw [g1, fc3] at h9
    refine ye2 func237 ntmps237 fun _ _ _=>?_
    repeat' (first | refine yz ?_ | refine qP (d := 21) rfl rfl rfl rfl rfl rfl bw3 (na) ?_ | refine yp bw3 nb ?_ | refine yx ?_ | (refine yy ?_ ?_ <;> intro _) | exact zD | exact zL)
    refine ac7 (α := SE a.l b.l) (fun p => ⟨[(2, .ptr 0 0), (3, .ptr 1 0), (9, .d (.int p.t)), (76, .d (.int (br4 a).length)), (77, .d (.int p.i))], [.var 56 (.w (.d (enc a))), .var 56 (.w (.d (enc b)))]⟩) (fun p => a.l.length - p.i) ⟨0, 2, by omega, rfl⟩ (zle 2) ?_;rintro ⟨i, t, hi, ok⟩;dsimp only;rcases ez6 i a.l.length with hlt | hge
    ·have g3 : decide ((i : Int) < ((br4 a).length : Int)) = true := by rw [hla]; simpa using hlt
     have hx0 := ez5 hlt;have hy0 := ez5 (show i < b.l.length by omega);generalize a.l[i] = x at hx0;generalize b.l[i] = y at hy0;have hx : (br4 a)[(i : Int).toNat]? = some (enc x) := br8 (by rw [fb4]; exact hx0);have hy : (br4 b)[(i : Int).toNat]? = some (enc y) := br8 (by rw [fb4]; exact hy0);have he := ih' x (ez9 hx0) y (hka x (ez9 hx0)) (hkb y (ez9 hy0));have hand := bx8 t (eqF x y)
     repeat' (first | refine yz ?_ | refine yi (enc x) hx ?_ | refine yi (enc y) hy ?_ | refine yp b237 he ?_ | refine yp b313 hand ?_ | refine yx ?_ | (refine yy ?_ ?_ <;> intro _) | exact zD | exact zL)
     refine ac1 ?_;exact ⟨⟨i + 1, min (kn t) (kn (eqF x y)), by omega, by rw [ok, bz2 hx0, bz2 hy0]; rfl⟩, by dsimp only; omega, (zle 2)⟩
    ·have g3 : decide ((i : Int) < ((br4 a).length : Int)) = false := by rw [hla, decide_eq_false_iff_not]; omega
     rw [ok, fa1 hge];simp only [eqM]
     repeat' (first | refine yz ?_ | refine yx ?_ | (refine yy ?_ ?_ <;> intro _) | exact zD | exact zL)
theorem cq0 (a b : V) : Ev E 152 [enc a, enc b] (.d (.int (eqF a b))) := by
 have va := ca5 cc1 a;have vb := ca5 cc1 b;have he := cp9 a b;have hq := cp8 a b;unfold cp6 at hq
 cases h1 : a.k == 0 with
 | true =>
  rw [h1] at hq;simp only [Bool.true_or, cond_true] at hq;rw [hq];refine ye2 func152 ntmps152 fun _ _ _=>?_
  repeat' (first | refine yz ?_ | refine yx ?_ | (refine yy ?_ ?_ <;> intro _) | exact zD | exact zL)
 | false =>
 cases h2 : b.k == 0 with
 | true =>
  rw [h2] at hq;simp only [fe5, Bool.true_or, cond_true] at hq;rw [hq];refine ye2 func152 ntmps152 fun _ _ _=>?_
  repeat' (first | refine yz ?_ | refine yx ?_ | (refine yy ?_ ?_ <;> intro _) | exact zD | exact zL)
 | false =>
 cases h3 : Val.okV a with
 | false =>
  rw [h3] at va hq;simp only [fh8, fe5, Bool.true_or, cond_true] at hq;rw [hq];refine ye2 func152 ntmps152 fun _ _ _=>?_
  repeat' (first | refine yz ?_ | refine yp bv8 va ?_ | refine yx ?_ | (refine yy ?_ ?_ <;> intro _) | exact zD | exact zL)
 | true =>
 rw [h3] at va
 cases h4 : Val.okV b with
 | false =>
  rw [h4] at vb hq;simp only [fh8, fe5, cond_true] at hq;rw [hq];refine ye2 func152 ntmps152 fun _ _ _=>?_
  repeat' (first | refine yz ?_ | refine qP (d := 15) rfl rfl rfl rfl rfl rfl bv8 (va) ?_ | refine yp bv8 vb ?_ | refine yx ?_ | (refine yy ?_ ?_ <;> intro _) | exact zD | exact zL)
 | true =>
  rw [h4] at vb;have he' := he h3 h4;refine ye2 func152 ntmps152 fun _ _ _=>?_
  repeat' (first | refine yz ?_ | refine qP (d := 15) rfl rfl rfl rfl rfl rfl bv8 (va) ?_ | refine yp bv8 vb ?_ | refine yp b237 he' ?_ | refine yx ?_ | (refine yy ?_ ?_ <;> intro _) | exact zD | exact zL)
end Go.Proofs.YtenpjlghikohmaaGreatDoor
