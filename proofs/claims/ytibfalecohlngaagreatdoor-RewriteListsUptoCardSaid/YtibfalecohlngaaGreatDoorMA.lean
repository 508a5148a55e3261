/- What the functions of layers 1 and 3 return: In, Gcd, Valid of both texts; The small functions of layer 4, of the program and of the specification: logic, constructors, classes; Which values are valid: the flat kinds, of the program and of the specification; Which flat values are valid, by both texts; Paths and lists: which values are valid, by both texts; Lists within lists: which values are valid, by both texts; Valid, Plain, Number and Truth, by both texts; The library's functions, by the kit's contracts, in the engine's form; and the program's test of a string's characters; The program's t. Conditions: each part's own, as it says. -/
import Derived.Test.YtibfalecohlngaaGreatDoorGC
import Derived.Test.YtibfalecohlngaaGreatDoorGS
import Derived.Lib.ItoaLen
import Derived.Lib.AppendIntMem
set_option linter.unusedVariables false
set_option linter.unusedSimpArgs false
namespace Go.Proofs.YtibfalecohlngaaGreatDoor
set_option maxRecDepth 4000
open Go Go.Abs Go.Val Go.Proofs.Tryz
attribute [local irreducible] go SGo an2 Ev
theorem bz2 (n : Int) : Ev E 242 [.int n] (.d (.bool (inM n))) := by
 refine ye1 func242 ntmps242 fun _ _ _=>?_
 repeat' (first | refine yz ?_ | (refine yy ?_ ?_ <;> intro _))
 all_goals (simp_all [inM]; try omega)
theorem bz3 (n : Int) : Ev E 134 [.int n] (.d (.bool (inM n))) := by
 refine ye1 func134 ntmps134 fun _ _ _=>?_
 repeat' (first | refine yz ?_ | (refine yy ?_ ?_ <;> intro _))
 all_goals (simp_all [inM]; try omega)
theorem bz4 (n : Int) (h : inM n = true) : Ev E 322 [.int n] (.d (.int (n.natAbs : Int))) := by
 have hb := (bp0 n).1 h;refine ye1 func322 ntmps322 fun _ _ _=>?_
 repeat' (refine yz ?_)
 all_goals (simp only [cond_true]; congr 3; omega)
theorem bz5 (n : Int) (h : -9223372036854775807 ≤ n) : Ev E 79 [.int n] (.d (.int (n.natAbs : Int))) := by
 by_cases hn : n < 0
 ·have hd : decide (n < 0) = true := by simpa using hn
  refine ye1 func79 ntmps79 fun _ _ _=>?_
  repeat' (refine yz ?_)
  all_goals (congr 3; omega)
 ·have hd : decide (n < 0) = false := by simpa using hn
  refine ye1 func79 ntmps79 fun _ _ _=>?_
  repeat' (refine yz ?_)
  all_goals (congr 3; omega)
theorem bz6 {x y : Int} (hx : 0 ≤ x) (hy : 0 < y) : x.tmod y = x % y ∧ 0 ≤ x % y ∧ x % y < y := ⟨fl3 hx, Int.emod_nonneg x (by omega), Int.emod_lt_of_pos x hy⟩
theorem bz7 {x y : Int} (hx : 0 ≤ x) (hy : 0 ≤ y) : Int.gcd y (x % y) = Int.gcd x y := by
 obtain ⟨a, rfl⟩ := Int.eq_ofNat_of_zero_le hx;obtain ⟨b, rfl⟩ := Int.eq_ofNat_of_zero_le hy;have e : ((a : Int) % (b : Int)) = ((a % b : Nat) : Int) := by omega
 rw [e];simp only [Int.gcd, Int.natAbs_natCast];rw [Nat.gcd_comm b, ← Nat.gcd_rec, Nat.gcd_comm]
structure GS (g : Nat) where
 x : Int
 y : Int
 hx : 0 ≤ x
 hy : 0 ≤ y
 bx : x ≤ 9223372036854775807
 by_ : y ≤ 9223372036854775807
 hg : Int.gcd x y = g
theorem bz8 (a b : Int) (ha : 0 ≤ a) (hb : 0 ≤ b) (ha' : a ≤ 9223372036854775807) (hb' : b ≤ 9223372036854775807) : Ev E 138 [.int a, .int b] (.d (.int (Int.gcd a b : Int))) := by
 refine ye2 func138 ntmps138 fun _ _ _=>?_
 repeat' (refine yz ?_)
 refine ac7 (α := GS (Int.gcd a b)) (fun p => ⟨[(0, .d (.int p.x)), (1, .d (.int p.y))], []⟩) (fun p => p.y.toNat) ⟨a, b, ha, hb, ha', hb', rfl⟩ (zle 0) ?_;rintro ⟨x, y, hx, hy, bx, by_, hg⟩;dsimp only
 by_cases hlt : y > 0
 ·have hd : decide (y > 0) = true := by simpa using hlt
  obtain ⟨e1, e2, e3⟩ := bz6 hx hlt
  repeat' (refine yz ?_)
  refine ac1 ?_;refine ⟨⟨y, x % y, hy, e2, by_, by omega, by rw [bz7 hx hy]; exact hg⟩, by dsimp only; omega, ?_⟩;dsimp only;rw [← e1];exact (zle 0)
 ·have hd : decide (y > 0) = false := by simpa using hlt
  repeat' (refine yz ?_)
  obtain rfl : y = 0 := by omega
  rw [← hg, Int.gcd_zero_right];congr 3;omega
theorem bz9 (a b : Int) : Ev E 292 [.int a, .int b] (.d (.int (bp1 a b))) := by
 cases ha : inM a with
 | false =>
  have ia : Ev E 242 [.int a] (.d (.bool false)) := ha ▸ bz2 a;refine ye2 func292 ntmps292 fun _ _ _=>?_
  repeat' (first | refine yz ?_ | refine yp bt6 ia ?_)
  simp [bp1, ha]
 | true =>
  have ia : Ev E 242 [.int a] (.d (.bool true)) := ha ▸ bz2 a
  cases hb : inM b with
  | false =>
   have ib : Ev E 242 [.int b] (.d (.bool false)) := hb ▸ bz2 b;refine ye2 func292 ntmps292 fun _ _ _=>?_
   repeat' (first | refine yz ?_ | refine yp bt6 ia ?_ | refine yp bt6 ib ?_)
   simp [bp1, ha, hb]
  | true =>
   have ib : Ev E 242 [.int b] (.d (.bool true)) := hb ▸ bz2 b;have ba := (bp0 a).1 ha;have bb := (bp0 b).1 hb;refine ye2 func292 ntmps292 fun _ _ _=>?_
   repeat' (first | refine yz ?_ | refine yp bt6 ia ?_ | refine yp bt6 ib ?_ | refine yp bu4 (bz4 a ha) ?_ | refine yp bu4 (bz4 b hb) ?_)
   refine ac7 (α := GS (Int.gcd a b)) (fun p => ⟨[(0, .d (.int p.x)), (1, .d (.int p.y))], []⟩) (fun p => p.y.toNat) ⟨a.natAbs, b.natAbs, by omega, by omega, by omega, by omega, by simp [Int.gcd]⟩ (zle 0) ?_;rintro ⟨x, y, hx, hy, bx, by_, hg⟩;dsimp only
   by_cases hlt : y = 0
   ·subst hlt
    repeat' (refine yz ?_)
    simp only [bp1, ha, hb, Bool.and_self, cond_true];rw [← hg, Int.gcd_zero_right];congr 3;omega
   ·have hd : (y != 0) = true := by simpa using hlt
    obtain ⟨e1, e2, e3⟩ := bz6 hx (show 0 < y by omega)
    repeat' (refine yz ?_)
    refine ac1 ?_;refine ⟨⟨y, x % y, hy, e2, by_, by omega, by rw [bz7 hx hy]; exact hg⟩, by dsimp only; omega, ?_⟩;dsimp only;rw [← e1];exact (zle 0)
theorem ca0 (n d : Int) : Ev E 243 [.agg [.int n, .int d]] (.d (.bool (bp2 n d))) := by
 have hg := bz9 n d
 cases hn : inM n with
 | false =>
  have i1 : Ev E 242 [.int n] (.d (.bool false)) := hn ▸ bz2 n;refine ye1 func243 ntmps243 fun _ _ _=>?_
  repeat' (first | refine yz ?_ | refine yp bt6 i1 ?_ | (refine yy ?_ ?_ <;> intro _))
  all_goals (refine congrArg D.bool ?_; clear i1 hg; simp_all [bp2])
 | true =>
  have i1 : Ev E 242 [.int n] (.d (.bool true)) := hn ▸ bz2 n;refine ye1 func243 ntmps243 fun _ _ _=>?_
  repeat' (first | refine yz ?_ | refine yp bt6 i1 ?_ | refine yp bu2 hg ?_ | (refine yy ?_ ?_ <;> intro _))
  all_goals (refine congrArg D.bool ?_; clear i1 hg; simp_all [bp2, bp1]; try omega)
  rw [(bp0 d).2 (by omega)];rfl
theorem ca1 (n d : Int) : Ev E 75 [.agg [.int n, .int d]] (.d (.bool (bp2 n d))) := by
 refine ye1 func75 ntmps75 fun _ _ _=>?_
 repeat' (first | refine yz ?_ | refine yp b79 (bz5 n (by simp_all; omega)) ?_ | refine yp br6 (bz8 n.natAbs d (by omega) (by simp_all; omega) (by simp_all; omega) (by simp_all; omega)) ?_ | (refine yy ?_ ?_ <;> intro _))
 all_goals (refine congrArg D.bool ?_; simp_all [bp2, inM, Int.gcd]; try omega)
theorem ca2 (n : Int) : Ev E 257 [.int n] (.d (.int (kn n))) := by
 refine ye1 func257 ntmps257 fun _ _ _=>?_
 repeat' (first | refine yz ?_ | (refine yy ?_ ?_ <;> intro _) | (refine qV rfl ?_ ?_ <;> intro _))
 all_goals (refine congrArg D.int ?_; simp_all [kn]; try (rw [show (n == 0 || n == 2) = false by simp_all]; rfl))
theorem ca3 (n : Int) : Ev E 169 [.int n] (.d (.int (kn n))) := by
 refine ye1 func169 ntmps169 fun _ _ _=>?_
 repeat' (first | refine yz ?_ | (refine yy ?_ ?_ <;> intro _) | (refine qV rfl ?_ ?_ <;> intro _))
 all_goals (refine congrArg D.int ?_; simp_all [kn]; try (rw [show (n == 0 || n == 2) = false by simp_all]; rfl))
theorem ca4 (n : Int) : Ev E 209 [.int n] (.d (.int (2 - kn n))) := by
 have h := bp3 n;refine ye1 func209 ntmps209 fun _ _ _=>?_
 repeat' (first | refine yz ?_ | refine yp bt9 (ca2 n) ?_ | exact zD)
theorem ca5 (n : Int) : Ev E 109 [.int n] (.d (.int (2 - kn n))) := by
 have h := bp3 n;refine ye1 func109 ntmps109 fun _ _ _=>?_
 repeat' (first | refine yz ?_ | refine yp bs8 (ca3 n) ?_ | exact zD)
theorem ca6 (a b : Int) : Ev E 211 [.int a, .int b] (.d (.int (min (kn a) (kn b)))) := by
 have h1 := bp3 a;have h2 := bp3 b;refine ye2 func211 ntmps211 fun _ _ _=>?_
 repeat' (first | refine yz ?_ | refine yp bt9 (ca2 a) ?_ | refine yp bt9 (ca2 b) ?_ | exact zD)
theorem ca7 (a b : Int) : Ev E 111 [.int a, .int b] (.d (.int (min (kn a) (kn b)))) := by
 have h1 := bp3 a;have h2 := bp3 b;refine ye2 func111 ntmps111 fun _ _ _=>?_
 repeat' (first | refine yz ?_ | refine yp bs8 (ca3 a) ?_ | refine yp bs8 (ca3 b) ?_ | exact zD)
theorem ca8 (a b : Int) : Ev E 212 [.int a, .int b] (.d (.int (max (kn a) (kn b)))) := by
 have h1 := bp3 a;have h2 := bp3 b;refine ye2 func212 ntmps212 fun _ _ _=>?_
 repeat' (first | refine yz ?_ | refine yp bt9 (ca2 a) ?_ | refine yp bt9 (ca2 b) ?_ | exact zD)
theorem ca9 (a b : Int) : Ev E 112 [.int a, .int b] (.d (.int (max (kn a) (kn b)))) := by
 have h1 := bp3 a;have h2 := bp3 b;refine ye2 func112 ntmps112 fun _ _ _=>?_
 repeat' (first | refine yz ?_ | refine yp bs8 (ca3 a) ?_ | refine yp bs8 (ca3 b) ?_ | exact zD)
theorem cb0 : Ev E 86 [] (.d (enc bp9)) := by
 refine ap5 func86 ntmps86 rfl rfl fun w0 F0 O => ?_
 repeat' (first | refine yz ?_ | exact zD)
theorem cb1 : Ev E 34 [] (.d (enc bp9)) := by
 refine ap5 func34 ntmps34 rfl rfl fun w0 F0 O => ?_
 repeat' (first | refine yz ?_ | exact zD)
theorem cb2 (b : Bool) : Ev E 206 [.bool b] (.d (enc (bp4 b))) := by
 cases b
 ·refine ye1 func206 ntmps206 fun _ _ _=>?_
  repeat' (first | refine yz ?_ | exact zD)
 ·refine ye1 func206 ntmps206 fun _ _ _=>?_
  repeat' (first | refine yz ?_ | exact zD)
theorem cb3 (b : Bool) : Ev E 30 [.bool b] (.d (enc (bp4 b))) := by
 cases b
 ·refine ye1 func30 ntmps30 fun _ _ _=>?_
  repeat' (first | refine yz ?_ | exact zD)
 ·refine ye1 func30 ntmps30 fun _ _ _=>?_
  repeat' (first | refine yz ?_ | exact zD)
theorem cb4 (n : Int) : Ev E 148 [.int n] (.d (enc (bp5 n))) := by
 refine ye1 func148 ntmps148 fun _ _ _=>?_
 repeat' (first | refine yz ?_ | exact zD)
theorem cb5 (n : Int) : Ev E 97 [.int n] (.d (enc (bp5 n))) := by
 refine ye1 func97 ntmps97 fun _ _ _=>?_
 repeat' (first | refine yz ?_ | exact zD)
theorem cb6 (s : ByteArray) : Ev E 151 [.str s] (.d (enc (bp7 s))) := by
 refine ye1 func151 ntmps151 fun _ _ _=>?_
 repeat' (first | refine yz ?_ | exact zD)
theorem cb7 (s : ByteArray) : Ev E 99 [.str s] (.d (enc (bp7 s))) := by
 refine ye1 func99 ntmps99 fun _ _ _=>?_
 repeat' (first | refine yz ?_ | exact zD)
theorem cb8 (n : Int) : Ev E 201 [.int n] (.d (enc (bp8 n))) := by
 refine ye1 func201 ntmps201 fun _ _ _=>?_
 repeat' (first | refine yz ?_ | exact zD)
theorem cb9 (n : Int) : Ev E 167 [.int n] (.d (enc (bp8 n))) := by
 refine ye1 func167 ntmps167 fun _ _ _=>?_
 repeat' (first | refine yz ?_ | exact zD)
theorem cc0 (n d : Int) : Ev E 150 [.agg [.int n, .int d]] (.d (enc (bp6 n d))) := by
 cases h : d == 1 with
 | true =>
  refine ye1 func150 ntmps150 fun _ _ _=>?_
  repeat' (first | refine yz ?_ | refine yp br9 (cb4 n) ?_)
  all_goals (rw [show bp6 n d = bp5 n by simp [bp6, h]]; rfl)
 | false =>
  refine ye1 func150 ntmps150 fun _ _ _=>?_
  repeat' (refine yz ?_)
  all_goals (rw [show bp6 n d = V.mk 3 n d ⟨#[]⟩ [] by simp [bp6, h]]; rfl)
theorem cc1 (n d : Int) : Ev E 162 [.agg [.int n, .int d]] (.d (enc (bp6 n d))) := by
 cases h : d == 1 with
 | true =>
  refine ye1 func162 ntmps162 fun _ _ _=>?_
  repeat' (first | refine yz ?_ | refine yp b97 (cb5 n) ?_)
  all_goals (rw [show bp6 n d = bp5 n by simp [bp6, h]]; rfl)
 | false =>
  refine ye1 func162 ntmps162 fun _ _ _=>?_
  repeat' (refine yz ?_)
  all_goals (rw [show bp6 n d = V.mk 3 n d ⟨#[]⟩ [] by simp [bp6, h]]; rfl)
theorem cc2 (b : Bool) : Ev E 258 [.bool b] (.d (.int (tt b))) := by
 cases b
 ·refine ye1 func258 ntmps258 fun _ _ _=>?_
  repeat' (first | refine yz ?_ | exact zD)
 ·refine ye1 func258 ntmps258 fun _ _ _=>?_
  repeat' (first | refine yz ?_ | exact zD)
theorem cc3 (b : Bool) : Ev E 40 [.bool b] (.d (.int (tt b))) := by
 cases b
 ·refine ye1 func40 ntmps40 fun _ _ _=>?_
  repeat' (first | refine yz ?_ | exact zD)
 ·refine ye1 func40 ntmps40 fun _ _ _=>?_
  repeat' (first | refine yz ?_ | exact zD)
theorem cc4 (t : Int) : Ev E 208 [.int t] (.d (enc (bq9 t))) := by
 cases h : kn t == 1 with
 | true =>
  refine ye1 func208 ntmps208 fun _ _ _=>?_
  repeat' (first | refine yz ?_ | refine yp bt9 (ca2 t) ?_ | refine yp b86 cb0 ?_)
  all_goals (rw [show bq9 t = bp9 by simp [bq9, h]]; rfl)
 | false =>
  refine ye1 func208 ntmps208 fun _ _ _=>?_
  repeat' (first | refine yz ?_ | refine yp bt9 (ca2 t) ?_ | refine yp b206 (cb2 _) ?_)
  all_goals (rw [show bq9 t = bp4 (t == 2) by simp [bq9, h]]; rfl)
theorem cc5 (t : Int) : Ev E 108 [.int t] (.d (enc (bq9 t))) := by
 cases h : kn t == 1 with
 | true =>
  refine ye1 func108 ntmps108 fun _ _ _=>?_
  repeat' (first | refine yz ?_ | refine yp bs8 (ca3 t) ?_ | refine yp b34 cb1 ?_)
  all_goals (rw [show bq9 t = bp9 by simp [bq9, h]]; rfl)
 | false =>
  refine ye1 func108 ntmps108 fun _ _ _=>?_
  repeat' (first | refine yz ?_ | refine yp bs8 (ca3 t) ?_ | refine yp b30 (cb3 _) ?_)
  all_goals (rw [show bq9 t = bp4 (t == 2) by simp [bq9, h]]; rfl)
def l0 (v : V) : Bool := ((kids v).length : Int) == 0
theorem cc6 (v : V) : l0 v = (v.l.length == 0) := by
 unfold l0;rw [bo6]
 cases v.l with
 | nil => rfl
 | cons a r =>
  simp only [fh9];rw [beq_eq_false_iff_ne.2 (by omega), beq_eq_false_iff_ne.2 (by omega)]
def cc7 (v : V) (n d s l : Bool) : Bool := (n || v.n == 0) && ((d || v.d == 0) && ((s || s0 v.s) && (l || l0 v)))
theorem cc8 (v : V) (n d s l : Bool) : Ev E 133 [enc v, .bool n, .bool d, .bool s, .bool l] (.d (.bool (cc7 v n d s l))) := by
 cases n <;> cases d <;> cases s <;> cases l <;> (
 refine aq0 func133 ntmps133 rfl rfl fun w0 F0 O => ?_
 repeat' (first | refine yz ?_ | (refine yy ?_ ?_ <;> intro _) | exact zD)
 all_goals (refine congrArg D.bool ?_; simp_all [cc7, s0, l0]))
def cOK (b : UInt8) : Bool := !(decide (b.toNat < 32) || decide (b.toNat > 126))
theorem cc9 {s : ByteArray} {i : Nat} (h : i < s.size) : ∃ b, s.data.toList[i]? = some b ∧ ag0 s i = (b.toNat : Int) := by
 have hl : i < s.data.toList.length := by simpa using h
 refine ⟨s.data.toList[i], fg5 hl, ?_⟩;unfold ag0;rw [fm0, fg5 hl];rfl
structure SI (s : ByteArray) where
 i : Nat
 hi : i ≤ s.size
 ok : ∀ (j : Nat) b, j < i → s.data.toList[j]? = some b → cOK b = true
theorem cd0 (s : ByteArray) : Ev E 135 [.str s] (.d (.bool (bq0 s))) := Ev.fit fun hfit => by
  have hs := (hfit (.str s) (by simp)).str;refine ye1 func135 ntmps135 fun _ _ _=>?_
  repeat' (refine yz ?_)
  refine ac7 (α := SI s) (fun p => ⟨[(0, .d (.str s)), (3, .d (.int p.i))], []⟩) (fun p => s.size - p.i) ⟨0, by omega, fun j b h => by omega⟩ (zle 0) ?_;rintro ⟨i, hi, ok⟩;dsimp only;rcases fg7 i s.size with hlt | hge
  · have hd : decide ((i : Int) < (s.size : Int)) = true := by simpa using hlt
    obtain ⟨b, hb1, hb2⟩ := cc9 hlt;have hb : 0 ≤ ag0 s (i : Int).toNat ∧ ag0 s (i : Int).toNat ≤ 255 := by simp only [fh0, hb2]; have := b.toNat_lt; omega
    cases hc : cOK b with
    | true =>
      have h1 : decide (ag0 s (i : Int).toNat < 32) = false := by simp [cOK] at hc; simp only [fh0, hb2]; simp; omega
      have h2 : decide (ag0 s (i : Int).toNat > 126) = false := by simp [cOK] at hc; simp only [fh0, hb2]; simp; omega
      repeat' (first | refine yz ?_ | refine yx ?_)
      refine ac1 ?_;refine ⟨⟨i + 1, by omega, fun j b' hj hb' => ?_⟩, by dsimp only; omega, (zle 0)⟩;rcases fg7 j i with h | h
      · exact ok j b' h hb'
      · obtain rfl : j = i := by omega
        rw [hb1] at hb'
        cases hb'
        exact hc
    | false =>
      have key : bq0 s = false := by
        unfold bq0;rw [Bool.and_eq_false_iff];left;rw [List.all_eq_false];exact ⟨b, fg9 hb1, by simpa [cOK] using hc⟩
      by_cases h32 : b.toNat < 32
      · have h1 : decide (ag0 s (i : Int).toNat < 32) = true := by simp only [fh0, hb2]; simp; omega
        repeat' (first | refine yz ?_ | refine yx ?_)
        rw [key]
      · have h1 : decide (ag0 s (i : Int).toNat < 32) = false := by simp only [fh0, hb2]; simp; omega
        have h2 : decide (ag0 s (i : Int).toNat > 126) = true := by simp [cOK] at hc; simp only [fh0, hb2]; simp; omega
        repeat' (first | refine yz ?_ | refine yx ?_)
        rw [key]
  · have hd : decide ((i : Int) < (s.size : Int)) = false := by simp; omega
    repeat' (refine yz ?_)
    have key : bq0 s = decide (s.size ≤ 100) := by
      unfold bq0
      have : (s.data.toList.all fun b => !(decide (b.toNat < 32) || decide (b.toNat > 126))) = true := by
        rw [fi5];intro b hb;obtain ⟨j, hj⟩ := fi4 hb;have hjl : j < s.data.toList.length := (fg8.1 hj).1
        exact ok j b (by have : s.data.toList.length = s.size := by simp
                         omega) hj
      rw [this, fh3]
    rw [key];refine congrArg D.bool ?_;simp only [decide_eq_decide];omega
theorem cd1 (k n d : Int) (s : ByteArray) (l : List V) (nest : Int) (h7 : k ≠ 7) (h8 : k ≠ 8) : Ev E 72 [enc (.mk k n d s l), .int nest] (.d (.bool (bq1 (.mk k n d s l)))) := by
 by_cases h0 : k = 0
 ·subst h0;refine ye2 func72 ntmps72 fun _ _ _=>?_
  repeat' (first | refine yz ?_ | refine yp br4 (cc8 (.mk 0 n d s l) _ _ _ _) ?_)
  all_goals (refine congrArg D.bool ?_; simp_all [bq1, cc7, cc6, V.k, V.n, V.d, V.s, V.l] <;> first | omega | exact of_decide_eq_true (by assumption) | exact fm2.1 (of_decide_eq_false (by assumption)) | ac_rfl | (intros; omega) | (intros; simp_all; done))
 by_cases h0 : k = 1
 ·subst h0;refine ye2 func72 ntmps72 fun _ _ _=>?_
  repeat' (first | refine yz ?_ | refine yp br4 (cc8 (.mk 1 n d s l) _ _ _ _) ?_ | (refine yy ?_ ?_ <;> intro _))
  all_goals (refine congrArg D.bool ?_; simp_all [bq1, cc7, cc6, V.k, V.n, V.d, V.s, V.l] <;> first | omega | exact of_decide_eq_true (by assumption) | exact fm2.1 (of_decide_eq_false (by assumption)) | ac_rfl | (intros; omega) | (intros; simp_all; done))
 by_cases h0 : k = 2
 ·subst h0;refine ye2 func72 ntmps72 fun _ _ _=>?_
  repeat' (first | refine yz ?_ | refine yp br4 (cc8 (.mk 2 n d s l) _ _ _ _) ?_ | refine yp br5 (bz3 n) ?_ | (refine yy ?_ ?_ <;> intro _))
  all_goals (refine congrArg D.bool ?_; simp_all [bq1, cc7, cc6, V.k, V.n, V.d, V.s, V.l] <;> first | omega | exact of_decide_eq_true (by assumption) | exact fm2.1 (of_decide_eq_false (by assumption)) | ac_rfl | (intros; omega) | (intros; simp_all; done))
 by_cases h0 : k = 3
 ·subst h0;refine ye2 func72 ntmps72 fun _ _ _=>?_
  repeat' (first | refine yz ?_ | refine yp br4 (cc8 (.mk 3 n d s l) _ _ _ _) ?_ | refine yp b75 (ca1 n d) ?_ | (refine yy ?_ ?_ <;> intro _))
  all_goals (refine congrArg D.bool ?_; simp_all [bq1, cc7, cc6, V.k, V.n, V.d, V.s, V.l] <;> first | omega | exact of_decide_eq_true (by assumption) | exact fm2.1 (of_decide_eq_false (by assumption)) | ac_rfl | (intros; omega) | (intros; simp_all; done))
 by_cases h0 : k = 4
 ·subst h0;refine ye2 func72 ntmps72 fun _ _ _=>?_
  repeat' (first | refine yz ?_ | refine yp br4 (cc8 (.mk 4 n d s l) _ _ _ _) ?_ | refine yp b135 (cd0 s) ?_ | (refine yy ?_ ?_ <;> intro _))
  all_goals (refine congrArg D.bool ?_; simp_all [bq1, cc7, cc6, V.k, V.n, V.d, V.s, V.l] <;> first | omega | exact of_decide_eq_true (by assumption) | exact fm2.1 (of_decide_eq_false (by assumption)) | ac_rfl | (intros; omega) | (intros; simp_all; done))
 by_cases h0 : k = 5
 ·subst h0;refine ye2 func72 ntmps72 fun _ _ _=>?_
  repeat' (first | refine yz ?_ | refine yp br4 (cc8 (.mk 5 n d s l) _ _ _ _) ?_ | (refine yy ?_ ?_ <;> intro _))
  all_goals (refine congrArg D.bool ?_; simp_all [bq1, cc7, cc6, V.k, V.n, V.d, V.s, V.l] <;> first | omega | exact of_decide_eq_true (by assumption) | exact fm2.1 (of_decide_eq_false (by assumption)) | ac_rfl | (intros; omega) | (intros; simp_all; done))
 by_cases h0 : k = 6
 ·subst h0;refine ye2 func72 ntmps72 fun _ _ _=>?_
  repeat' (first | refine yz ?_ | refine yp br4 (cc8 (.mk 6 n d s l) _ _ _ _) ?_ | (refine yy ?_ ?_ <;> intro _))
  all_goals (refine congrArg D.bool ?_; simp_all [bq1, cc7, cc6, V.k, V.n, V.d, V.s, V.l] <;> first | omega | exact of_decide_eq_true (by assumption) | exact fm2.1 (of_decide_eq_false (by assumption)) | ac_rfl | (intros; omega) | (intros; simp_all; done))
 have e0 : (k == 0) = false := by simpa
 have e1 : (k == 1) = false := by simpa
 have e2 : (k == 2) = false := by simpa
 have e3 : (k == 3) = false := by simpa
 have e4 : (k == 4) = false := by simpa
 have e5 : (k == 5) = false := by simpa
 have e6 : (k == 6) = false := by simpa
 have e7 : (k == 7) = false := by simpa
 have e8 : (k == 8) = false := by simpa
 refine ye2 func72 ntmps72 fun _ _ _=>?_
 repeat' (refine yz ?_)
 refine congrArg D.bool ?_;simp only [bq1, V.k, e0, e1, e2, e3, e4, e5, e6, fi6, fk1]
def cd2 : Prop := ∀ s : ByteArray, ∃ n : Int, Ev E 244 [.str s, .imm (.func (.func 245) #[] #[])] (.d (.int n)) ∧ decide (n < 0) = s.data.toList.all (fun b => !(decide (b.toNat < 32) || decide (b.toNat > 126)))
theorem cd3 (v : V) : kids v = [] ↔ v.l = [] := by
 rw [bo3];simp
theorem cd4 (hix : cd2) (k n d : Int) (s : ByteArray) (l : List V) (lists : Int) (h7 : k ≠ 7) (h8 : k ≠ 8) : Ev E 192 [enc (.mk k n d s l), .int lists] (.d (.bool (bq1 (.mk k n d s l)))) := by
 obtain ⟨ix, hi1, hi2⟩ := hix s;have hst : bq0 s = (decide (ix < 0) && decide ((s.size : Int) ≤ 100)) := by rw [hi2, show decide ((s.size : Int) ≤ 100) = decide (s.size ≤ 100) from by simp only [decide_eq_decide]; omega]; rfl
 clear hi2;have hs0 : s0 s = (s.toList == (⟨#[]⟩ : ByteArray).toList) := rfl
 by_cases h0 : k = 0
 ·subst h0;refine ye2 func192 ntmps192 fun _ _ _=>?_
  repeat' (first | refine yz ?_ | (refine yy ?_ ?_ <;> intro _) | (refine qV rfl ?_ ?_ <;> intro _))
  all_goals (refine congrArg D.bool ?_; clear hix hi1 hst; simp_all [bq1, cc7, cd3, bo6, V.k, V.n, V.d, V.s, V.l] <;> first | omega | exact of_decide_eq_true (by assumption) | exact fm2.1 (of_decide_eq_false (by assumption)) | ac_rfl | (intros; omega) | (intros; simp_all; done))
 by_cases h0 : k = 1
 ·subst h0;refine ye2 func192 ntmps192 fun _ _ _=>?_
  repeat' (first | refine yz ?_ | (refine yy ?_ ?_ <;> intro _) | (refine qV rfl ?_ ?_ <;> intro _))
  all_goals (refine congrArg D.bool ?_; clear hix hi1 hst; simp_all [bq1, cc7, cd3, bo6, V.k, V.n, V.d, V.s, V.l] <;> first | omega | exact of_decide_eq_true (by assumption) | exact fm2.1 (of_decide_eq_false (by assumption)) | ac_rfl | (intros; omega) | (intros; simp_all; done))
 by_cases h0 : k = 2
 ·subst h0;refine ye2 func192 ntmps192 fun _ _ _=>?_
  repeat' (first | refine yz ?_ | refine yp bt6 (bz2 n) ?_ | (refine yy ?_ ?_ <;> intro _) | (refine qV rfl ?_ ?_ <;> intro _))
  all_goals (refine congrArg D.bool ?_; clear hix hi1 hst; simp_all [bq1, cc7, cd3, bo6, V.k, V.n, V.d, V.s, V.l] <;> first | omega | exact of_decide_eq_true (by assumption) | exact fm2.1 (of_decide_eq_false (by assumption)) | ac_rfl | (intros; omega) | (intros; simp_all; done))
 by_cases h0 : k = 3
 ·subst h0;refine ye2 func192 ntmps192 fun _ _ _=>?_
  repeat' (first | refine yz ?_ | refine yp bt7 (ca0 n d) ?_ | (refine yy ?_ ?_ <;> intro _) | (refine qV rfl ?_ ?_ <;> intro _))
  all_goals (refine congrArg D.bool ?_; clear hix hi1 hst; simp_all [bq1, cc7, cd3, bo6, V.k, V.n, V.d, V.s, V.l] <;> first | omega | exact of_decide_eq_true (by assumption) | exact fm2.1 (of_decide_eq_false (by assumption)) | ac_rfl | (intros; omega) | (intros; simp_all; done))
 by_cases h0 : k = 4
 ·subst h0
  cases h100 : decide ((s.size : Int) ≤ 100) with
  | true =>
   rw [h100] at hst;refine ye2 func192 ntmps192 fun _ _ _=>?_
   repeat' (first | refine yz ?_ | refine yp b244 hi1 ?_ | refine yx ?_ | (refine yy ?_ ?_ <;> intro _) | (refine qV rfl ?_ ?_ <;> intro _))
   all_goals (refine congrArg D.bool ?_; clear hix hi1; simp_all [bq1, cc7, cd3, bo6, V.k, V.n, V.d, V.s, V.l] <;> first | omega | exact of_decide_eq_true (by assumption) | exact fm2.1 (of_decide_eq_false (by assumption)) | ac_rfl | (intros; omega) | (intros; simp_all; done))
  | false =>
   rw [h100] at hst;refine ye2 func192 ntmps192 fun _ _ _=>?_
   repeat' (first | refine yz ?_ | refine yx ?_ | (refine yy ?_ ?_ <;> intro _) | (refine qV rfl ?_ ?_ <;> intro _))
   all_goals (refine congrArg D.bool ?_; clear hix hi1; simp_all [bq1, cc7, cd3, bo6, V.k, V.n, V.d, V.s, V.l] <;> first | omega | exact of_decide_eq_true (by assumption) | exact fm2.1 (of_decide_eq_false (by assumption)) | ac_rfl | (intros; omega) | (intros; simp_all; done))
 by_cases h0 : k = 5
 ·subst h0;refine ye2 func192 ntmps192 fun _ _ _=>?_
  repeat' (first | refine yz ?_ | (refine yy ?_ ?_ <;> intro _) | (refine qV rfl ?_ ?_ <;> intro _))
  all_goals (refine congrArg D.bool ?_; clear hix hi1 hst; simp_all [bq1, cc7, cd3, bo6, V.k, V.n, V.d, V.s, V.l] <;> first | omega | exact of_decide_eq_true (by assumption) | exact fm2.1 (of_decide_eq_false (by assumption)) | ac_rfl | (intros; omega) | (intros; simp_all; done))
 by_cases h0 : k = 6
 ·subst h0;refine ye2 func192 ntmps192 fun _ _ _=>?_
  repeat' (first | refine yz ?_ | (refine yy ?_ ?_ <;> intro _) | (refine qV rfl ?_ ?_ <;> intro _))
  all_goals (refine congrArg D.bool ?_; clear hix hi1 hst; simp_all [bq1, cc7, cd3, bo6, V.k, V.n, V.d, V.s, V.l] <;> first | omega | exact of_decide_eq_true (by assumption) | exact fm2.1 (of_decide_eq_false (by assumption)) | ac_rfl | (intros; omega) | (intros; simp_all; done))
 have e0 : (k == 0) = false := by simpa
 have e1 : (k == 1) = false := by simpa
 have e2 : (k == 2) = false := by simpa
 have e3 : (k == 3) = false := by simpa
 have e4 : (k == 4) = false := by simpa
 have e5 : (k == 5) = false := by simpa
 have e6 : (k == 6) = false := by simpa
 have e7 : (k == 7) = false := by simpa
 have e8 : (k == 8) = false := by simpa
 have f3 : (k != 3) = true := by simpa
 have f4 : (k != 4) = true := by simpa
 have f7 : (k != 7) = true := by simpa
 have f8 : (k != 8) = true := by simpa
 have key : bq1 (.mk k n d s l) = false := by simp only [bq1, V.k, e0, e1, e2, e3, e4, e5, e6, fi6, fk1]
 refine ye2 func192 ntmps192 fun _ _ _=>?_
 repeat' (first | refine yz ?_ | refine yx ?_ | (refine yy ?_ ?_ <;> intro _) | (refine qV rfl ?_ ?_ <;> intro _))
 all_goals (rw [key])
theorem cd5 {α : Type} {l : List α} {i : Nat} {x : α} (h : l[i]? = some x) : l.drop i = x :: l.drop (i + 1) := by
 have hi := (fg8.1 h).1;rw [List.drop_eq_getElem_cons hi];rw [fg5 hi] at h
 cases h
 rfl
structure SP (l : List V) where
 i : Nat
 hi : i ≤ l.length
 ok : bq3 0 l = bq3 i (l.drop i)
theorem cd6 (i : Nat) : (bif i % 2 == 0 then (5 : Int) else 6) = 5 ∧ i % 2 = 0 ∨ (bif i % 2 == 0 then (5 : Int) else 6) = 6 ∧ i % 2 = 1 := by
 rcases fq8 i with h | h <;> simp [h]
theorem cd7 (hix : cd2) (l : List V) : Ev E 246 [.sl (bo1 l)] (.d (.bool (bq4 l))) := Ev.fit fun hfit => by
  obtain ⟨hmax, -⟩ := bo9 (hfit (.sl (bo1 l)) (by simp));have hlen : (bo1 l).length = l.length := bo7 l
  have hmod : ((l.length : Int).tmod 2 == 0) = (l.length % 2 == 0) := by
    rw [fl3 (by omega)]
    cases h : l.length % 2 == 0 with
    | true => simp at h ⊢; omega
    | false => simp at h ⊢; omega
  cases h2 : l.length % 2 == 0 with
  | true =>
    have key : bq4 l = false := by unfold bq4; have : (l.length % 2 == 1) = false := by simp at h2 ⊢; omega
                                   rw [this]; rfl
    rw [h2] at hmod;rw [← hlen] at hmod;refine ye1 func246 ntmps246 fun _ _ _=>?_
    repeat' (first | refine yz ?_ | refine yx ?_)
    rw [key]
  | false =>
    rw [h2] at hmod;rw [← hlen] at hmod;have h21 : (l.length % 2 == 1) = true := by simp at h2 ⊢; omega
    by_cases h25 : l.length ≤ 25
    · have hd : decide (((bo1 l).length : Int) > 25) = false := by rw [hlen]; simp; omega
      have hokp : bq4 l = bq3 0 l := by unfold bq4; rw [h21]; simp [h25]
      rw [hokp];refine ye1 func246 ntmps246 fun _ _ _=>?_
      repeat' (first | refine yz ?_ | refine yx ?_)
      refine ac7 (α := SP l) (fun p => ⟨[(15, .d (.sl (bo1 l))), (16, .d (.int (bo1 l).length)), (17, .d (.int p.i))], []⟩) (fun p => l.length - p.i) ⟨0, by omega, rfl⟩ (zle 0) ?_;rintro ⟨i, hi, ok⟩;dsimp only;rcases fg7 i l.length with hlt | hge
      · have hd : decide ((i : Int) < ((bo1 l).length : Int)) = true := by rw [hlen]; simpa using hlt
        have hx0 := fg5 hlt;obtain ⟨k, n, d, s, r, hv⟩ : ∃ k n d s r, l[i] = V.mk k n d s r := ⟨_, _, _, _, _, (V.eta _).symm⟩;rw [hv] at hx0;have hx : (bo1 l)[(i : Int).toNat]? = some (enc (V.mk k n d s r)) := bo5 (by rw [fh0]; exact hx0)
        have hm : (([.int 5, .int 6] : List D))[((i : Int).tmod 2).toNat]? = some (.int (bif i % 2 == 0 then 5 else 6)) := by
          rw [fl3 (by omega)];rcases fq8 i with h | h
          · rw [show ((i : Int) % 2).toNat = 0 from by omega, h]; rfl
          · rw [show ((i : Int) % 2).toNat = 1 from by omega, h]; rfl
        have hmn : 0 ≤ (i : Int).tmod 2 := Int.tmod_nonneg _ (by omega);have hmx : (i : Int).tmod 2 ≤ 2 := by have := Int.tmod_lt_of_pos (i : Int) (show (0 : Int) < 2 by omega); omega
        have hkd := cd6 i;have hst : bq2 i (V.mk k n d s r) = (k == (bif i % 2 == 0 then 5 else 6) && bq1 (V.mk k n d s r)) := rfl;generalize (bif i % 2 == 0 then (5 : Int) else 6) = kd at *;rw [ok, cd5 hx0];simp only [bq3, hst]
        cases hkk : k != kd with
        | true =>
          have : (k == kd) = false := by simpa using hkk
          rw [this]
          repeat' (first | refine yz ?_ | refine yi (enc _) hx ?_ | refine yi (.int kd) hm ?_ | refine yx ?_ | exact zD)
        | false =>
          have hk : k = kd := by simpa using hkk
          have hf := cd4 hix k n d s r 0 (by omega) (by omega)
          cases hfl : bq1 (V.mk k n d s r) with
          | true =>
            rw [hfl] at hf
            repeat' (first | refine yz ?_ | refine yi (enc _) hx ?_ | refine yi (.int kd) hm ?_ | refine yp bs9 hf ?_ | refine yx ?_)
            refine ac1 ?_;refine ⟨⟨i + 1, by omega, ?_⟩, by dsimp only; omega, (zle 0)⟩;rw [ok, cd5 hx0];simp only [bq3];rw [hst, hfl, hk];simp
          | false =>
            rw [hfl] at hf
            repeat' (first | refine yz ?_ | refine yi (enc _) hx ?_ | refine yi (.int kd) hm ?_ | refine yp bs9 hf ?_ | refine yx ?_)
            simp
      · have hd : decide ((i : Int) < ((bo1 l).length : Int)) = false := by rw [hlen]; simp; omega
        have : l.drop i = [] := fh6 hge;rw [ok, this]
        repeat' (first | refine yz ?_ | exact zD)
    · have hd : decide (((bo1 l).length : Int) > 25) = true := by rw [hlen]; simp; omega
      have key : bq4 l = false := by unfold bq4; simp [h25]
      rw [key];refine ye1 func246 ntmps246 fun _ _ _=>?_
      repeat' (first | refine yz ?_ | refine yx ?_ | exact zD)
theorem cd8 (l : List V) : Ev E 136 [.sl (bo1 l)] (.d (.bool (bq4 l))) := Ev.fit fun hfit => by
  obtain ⟨hmax, -⟩ := bo9 (hfit (.sl (bo1 l)) (by simp));have hlen : (bo1 l).length = l.length := bo7 l
  have hmod : ((l.length : Int).tmod 2 == 0) = (l.length % 2 == 0) := by
    rw [fl3 (by omega)]
    cases h : l.length % 2 == 0 with
    | true => simp at h ⊢; omega
    | false => simp at h ⊢; omega
  cases h2 : l.length % 2 == 0 with
  | true =>
    have key : bq4 l = false := by unfold bq4; have : (l.length % 2 == 1) = false := by simp at h2 ⊢; omega
                                   rw [this]; rfl
    rw [h2] at hmod;rw [← hlen] at hmod;refine ye1 func136 ntmps136 fun _ _ _=>?_
    repeat' (first | refine yz ?_ | refine yx ?_)
    rw [key]
  | false =>
    rw [h2] at hmod;rw [← hlen] at hmod;have h21 : (l.length % 2 == 1) = true := by simp at h2 ⊢; omega
    by_cases h25 : l.length ≤ 25
    · have hd : decide (((bo1 l).length : Int) > 25) = false := by rw [hlen]; simp; omega
      have hokp : bq4 l = bq3 0 l := by unfold bq4; rw [h21]; simp [h25]
      rw [hokp];refine ye1 func136 ntmps136 fun _ _ _=>?_
      repeat' (first | refine yz ?_ | refine yx ?_)
      refine ac7 (α := SP l) (fun p => ⟨[(0, .d (.sl (bo1 l))), (3, .d (.int p.i))], []⟩) (fun p => l.length - p.i) ⟨0, by omega, rfl⟩ (zle 0) ?_;rintro ⟨i, hi, ok⟩;dsimp only;rcases fg7 i l.length with hlt | hge
      · have hd : decide ((i : Int) < ((bo1 l).length : Int)) = true := by rw [hlen]; simpa using hlt
        have hx0 := fg5 hlt;obtain ⟨k, n, d, s, r, hv⟩ : ∃ k n d s r, l[i] = V.mk k n d s r := ⟨_, _, _, _, _, (V.eta _).symm⟩;rw [hv] at hx0;have hx : (bo1 l)[(i : Int).toNat]? = some (enc (V.mk k n d s r)) := bo5 (by rw [fh0]; exact hx0);have hst : bq2 i (V.mk k n d s r) = (k == (bif i % 2 == 0 then 5 else 6) && bq1 (V.mk k n d s r)) := rfl;rw [ok, cd5 hx0];simp only [bq3, hst]
        have hodd : ((i : Int).tmod 2 == 1) = (i % 2 == 1) := by
          rw [fl3 (by omega)]
          cases h : i % 2 == 1 with
          | true => simp at h ⊢; omega
          | false => simp at h ⊢; omega
        rcases fq8 i with he | he
        · have hkd : (bif i % 2 == 0 then (5 : Int) else 6) = 5 := by simp [he]
          rw [he] at hodd;have hodd' : ((i : Int).tmod 2 == 1) = false := hodd;rw [hkd] at hst;rw [hkd]
          cases hkk : k != 5 with
          | true =>
            have : (k == 5) = false := by simpa using hkk
            rw [this]
            repeat' (first | refine yz ?_ | refine yi (enc _) hx ?_ | refine yx ?_ | exact zD)
          | false =>
            have hk : k = 5 := by simpa using hkk
            have hf := cd1 k n d s r 0 (by omega) (by omega)
            cases hfl : bq1 (V.mk k n d s r) with
            | true =>
              rw [hfl] at hf
              repeat' (first | refine yz ?_ | refine yi (enc _) hx ?_ | refine yp b72 hf ?_ | refine yx ?_)
              refine ac1 ?_;refine ⟨⟨i + 1, by omega, ?_⟩, by dsimp only; omega, (zle 0)⟩;rw [ok, cd5 hx0];simp only [bq3];rw [hst, hfl, hk];simp
            | false =>
              rw [hfl] at hf
              repeat' (first | refine yz ?_ | refine yi (enc _) hx ?_ | refine yp b72 hf ?_ | refine yx ?_)
              simp
        · have hkd : (bif i % 2 == 0 then (5 : Int) else 6) = 6 := by simp [he]
          rw [he] at hodd;have hodd' : ((i : Int).tmod 2 == 1) = true := hodd;rw [hkd] at hst;rw [hkd]
          cases hkk : k != 6 with
          | true =>
            have : (k == 6) = false := by simpa using hkk
            rw [this]
            repeat' (first | refine yz ?_ | refine yi (enc _) hx ?_ | refine yx ?_ | exact zD)
          | false =>
            have hk : k = 6 := by simpa using hkk
            have hf := cd1 k n d s r 0 (by omega) (by omega)
            cases hfl : bq1 (V.mk k n d s r) with
            | true =>
              rw [hfl] at hf
              repeat' (first | refine yz ?_ | refine yi (enc _) hx ?_ | refine yp b72 hf ?_ | refine yx ?_)
              refine ac1 ?_;refine ⟨⟨i + 1, by omega, ?_⟩, by dsimp only; omega, (zle 0)⟩;rw [ok, cd5 hx0];simp only [bq3];rw [hst, hfl, hk];simp
            | false =>
              rw [hfl] at hf
              repeat' (first | refine yz ?_ | refine yi (enc _) hx ?_ | refine yp b72 hf ?_ | refine yx ?_)
              simp
      · have hd : decide ((i : Int) < ((bo1 l).length : Int)) = false := by rw [hlen]; simp; omega
        have : l.drop i = [] := fh6 hge;rw [ok, this]
        repeat' (first | refine yz ?_ | exact zD)
    · have hd : decide (((bo1 l).length : Int) > 25) = true := by rw [hlen]; simp; omega
      have key : bq4 l = false := by unfold bq4; simp [h25]
      rw [key];refine ye1 func136 ntmps136 fun _ _ _=>?_
      repeat' (first | refine yz ?_ | refine yx ?_ | exact zD)
theorem cd9 (k n d : Int) (s : ByteArray) (l : List V) (h : k = 7 ∨ k = 8) : bq1 (.mk k n d s l) = false := by
 rcases h with h | h <;> subst h <;> simp [bq1, V.k]
theorem ce0 (m : Nat) (k n d : Int) (s : ByteArray) (l : List V) (h7 : k ≠ 7) (h8 : k ≠ 8) : okN m (.mk k n d s l) = bq1 (.mk k n d s l) := by
 have e7 : (k == 7) = false := by simpa
 have e8 : (k == 8) = false := by simpa
 cases m <;> simp [okN, V.k, e7, e8]
theorem ce1 (m : Nat) (n d : Int) (s : ByteArray) (l : List V) : okN m (.mk 7 n d s l) = ((d == 0 && s0 s) && (n == 0 && bq4 l)) := by
 cases m <;> simp [okN, V.k, V.n, V.d, V.s, V.l, cd9 7 n d s l (.inl rfl)]
theorem ce2 (n d : Int) (s : ByteArray) (l : List V) : okN 0 (.mk 8 n d s l) = false := by
 simp [okN, V.k, cd9 8 n d s l (.inr rfl)]
theorem ce3 (m : Nat) (n d : Int) (s : ByteArray) (l : List V) : okN (m + 1) (.mk 8 n d s l) = ((d == 0 && s0 s) && ((n == 0 && decide (l.length ≤ 64)) && l.all (okN m))) := by
 simp [okN, V.k, V.n, V.d, V.s, V.l, cd9 8 n d s l (.inr rfl), Bool.and_assoc]
 try rfl
structure SA (p : V → Bool) (l : List V) where
 i : Nat
 hi : i ≤ l.length
 ok : l.all p = (l.drop i).all p
theorem ce4 (m : Nat) (hm : m ≤ 8) (ih : ∀ v : V, Ev E 72 [enc v, .int (m : Int)] (.d (.bool (okN m v)))) (l : List V) :
  Ev E 137 [.sl (bo1 l), .int ((m + 1 : Nat) : Int)] (.d (.bool (decide (l.length ≤ 64) && l.all (okN m)))) := Ev.fit fun hfit => by
 obtain ⟨hmax, -⟩ := bo9 (hfit (.sl (bo1 l)) (by simp));have hlen : (bo1 l).length = l.length := bo7 l;have hn : decide (((m + 1 : Nat) : Int) < 1) = false := by simp; omega
 have hn1 : ((m + 1 : Nat) : Int) - 1 = (m : Int) := by omega
 by_cases h64 : l.length ≤ 64
 ·have hd : decide (((bo1 l).length : Int) > 64) = false := by rw [hlen]; simp; omega
  rw [show decide (l.length ≤ 64) = true by simpa using h64, fh3];refine ye2 func137 ntmps137 fun _ _ _=>?_
  repeat' (refine yz ?_)
  refine ac7 (α := SA (okN m) l) (fun p => ⟨[(0, .d (.sl (bo1 l))), (1, .d (.int ((m + 1 : Nat) : Int))), (5, .d (.int p.i))], []⟩) (fun p => l.length - p.i) ⟨0, by omega, rfl⟩ (zle 0) ?_;rintro ⟨i, hi, ok⟩;dsimp only;rcases fg7 i l.length with hlt | hge
  ·have hd : decide ((i : Int) < ((bo1 l).length : Int)) = true := by rw [hlen]; simpa using hlt
   have hx0 := fg5 hlt;generalize l[i] = v at hx0;have hx : (bo1 l)[(i : Int).toNat]? = some (enc v) := bo5 (by rw [fh0]; exact hx0);have hv := ih v;rw [← hn1] at hv;rw [ok, cd5 hx0, fk0]
   cases hvv : okN m v with
   | true =>
    rw [hvv] at hv
    repeat' (first | refine yz ?_ | refine yi (enc _) hx ?_ | refine yp b72 hv ?_)
    refine ac1 ?_;refine ⟨⟨i + 1, by omega, by rw [ok, cd5 hx0, fk0, hvv, fh3]⟩, by dsimp only; omega, (zle 0)⟩
   | false =>
    rw [hvv] at hv
    repeat' (first | refine yz ?_ | refine yi (enc _) hx ?_ | refine yp b72 hv ?_ | exact zD)
  ·have hd : decide ((i : Int) < ((bo1 l).length : Int)) = false := by rw [hlen]; simp; omega
   have : l.drop i = [] := fh6 hge;rw [ok, this]
   repeat' (first | refine yz ?_ | exact zD)
 ·have hd : decide (((bo1 l).length : Int) > 64) = true := by rw [hlen]; simp; omega
  rw [show decide (l.length ≤ 64) = false by simpa using h64, fi6];refine ye2 func137 ntmps137 fun _ _ _=>?_
  repeat' (first | refine yz ?_ | exact zD)
theorem ce5 (l : List V) : Ev E 137 [.sl (bo1 l), .int 0] (.d (.bool false)) := by
 refine ye2 func137 ntmps137 fun _ _ _=>?_
 repeat' (first | refine yz ?_ | exact zD)
theorem ce6 (m : Nat) : m ≤ 8 → ∀ v : V, Ev E 72 [enc v, .int (m : Int)] (.d (.bool (okN m v))) := by
 induction m with
 | zero =>
  rintro - ⟨k, n, d, s, l⟩
  by_cases h7 : k = 7
  ·subst h7;rw [ce1];refine ye2 func72 ntmps72 fun _ _ _=>?_
   repeat' (first | refine yz ?_ | refine yp br4 (cc8 (.mk 7 n d s l) _ _ _ _) ?_ | refine yp b136 (cd8 l) ?_ | (refine yy ?_ ?_ <;> intro _))
   all_goals (refine congrArg D.bool ?_; simp_all [cc7, V.k, V.n, V.d, V.s, V.l] <;> first | ac_rfl | (intros; simp_all; done))
  by_cases h8 : k = 8
  ·subst h8;rw [ce2];refine ye2 func72 ntmps72 fun _ _ _=>?_
   repeat' (first | refine yz ?_ | refine yp br4 (cc8 (.mk 8 n d s l) _ _ _ _) ?_ | refine yp b137 (ce5 l) ?_ | (refine yy ?_ ?_ <;> intro _) | exact zD)
  rw [ce0 _ _ _ _ _ _ h7 h8];exact cd1 k n d s l _ h7 h8
 | succ m ih =>
  rintro hm ⟨k, n, d, s, l⟩;have ih := ih (by omega)
  by_cases h7 : k = 7
  ·subst h7;rw [ce1];refine ye2 func72 ntmps72 fun _ _ _=>?_
   repeat' (first | refine yz ?_ | refine yp br4 (cc8 (.mk 7 n d s l) _ _ _ _) ?_ | refine yp b136 (cd8 l) ?_ | (refine yy ?_ ?_ <;> intro _))
   all_goals (refine congrArg D.bool ?_; simp_all [cc7, V.k, V.n, V.d, V.s, V.l] <;> first | ac_rfl | (intros; simp_all; done))
  by_cases h8 : k = 8
  ·subst h8;rw [ce3];have hl := ce4 m (by omega) ih l;refine ye2 func72 ntmps72 fun _ _ _=>?_
   repeat' (first | refine yz ?_ | refine yp br4 (cc8 (.mk 8 n d s l) _ _ _ _) ?_ | refine yp b137 hl ?_ | (refine yy ?_ ?_ <;> intro _))
   all_goals (refine congrArg D.bool ?_; clear hl ih; simp_all [cc7, V.k, V.n, V.d, V.s, V.l] <;> first | ac_rfl | (intros; simp_all; done))
  rw [ce0 _ _ _ _ _ _ h7 h8];exact cd1 k n d s l _ h7 h8
theorem ce7 (hix : cd2) (m : Nat) : m ≤ 8 → ∀ v : V, Ev E 192 [enc v, .int (8 - (m : Int))] (.d (.bool (okN m v))) := by
 induction m with
 | zero =>
  rintro - ⟨k, n, d, s, l⟩
  by_cases h7 : k = 7
  ·subst h7;rw [ce1];refine ye2 func192 ntmps192 fun _ _ _=>?_
   repeat' (first | refine yz ?_ | refine yp b246 (cd7 hix l) ?_ | (refine yy ?_ ?_ <;> intro _))
   all_goals (refine congrArg D.bool ?_; clear hix; simp_all [s0, V.k, V.n, V.d, V.s, V.l] <;> first | ac_rfl | (intros; simp_all; done))
  by_cases h8 : k = 8
  ·subst h8;rw [ce2];refine ye2 func192 ntmps192 fun _ _ _=>?_
   repeat' (first | refine yz ?_ | (refine yy ?_ ?_ <;> intro _) | exact zD)
  rw [ce0 _ _ _ _ _ _ h7 h8];exact cd4 hix k n d s l _ h7 h8
 | succ m ih =>
  rintro hm ⟨k, n, d, s, l⟩;have ih := ih (by omega)
  by_cases h7 : k = 7
  ·subst h7;rw [ce1];refine ye2 func192 ntmps192 fun _ _ _=>?_
   repeat' (first | refine yz ?_ | refine yp b246 (cd7 hix l) ?_ | (refine yy ?_ ?_ <;> intro _))
   all_goals (refine congrArg D.bool ?_; clear hix ih; simp_all [s0, V.k, V.n, V.d, V.s, V.l] <;> first | ac_rfl | (intros; simp_all; done))
  by_cases h8 : k = 8
  ·subst h8;rw [ce3];refine Ev.fit fun hfit => ?_
   obtain ⟨-, -, -, -, hmax, -⟩ := bo8 (hfit (enc (.mk 8 n d s l)) (by simp));simp only [V.l] at hmax;have hk : kids (.mk 8 n d s l) = bo1 l := by simp [kids]
   have hlen : (kids (.mk 8 n d s l)).length = l.length := by rw [bo6]; rfl
   have hn1 : 8 - ((m + 1 : Nat) : Int) + 1 = 8 - (m : Int) := by omega
   have hn8 : decide (8 - ((m + 1 : Nat) : Int) ≥ 8) = false := by simp; omega
   cases hd0 : d == 0 with
   | false =>
    have hdn : (d != 0) = true := by simpa using hd0
    rw [fi6, fi6];refine ye2 func192 ntmps192 fun _ _ _=>?_
    repeat' (first | refine yz ?_ | refine yx ?_ | exact zD)
   | true =>
   have hdn : (d != 0) = false := by simpa using hd0
   cases hs0 : s0 s with
   | false =>
    have hsn : (!(s.toList == (⟨#[]⟩ : ByteArray).toList)) = true := by rw [show (s.toList == (⟨#[]⟩ : ByteArray).toList) = false from hs0]; rfl
    rw [fk4, fi6];refine ye2 func192 ntmps192 fun _ _ _=>?_
    repeat' (first | refine yz ?_ | refine yx ?_ | exact zD)
   | true =>
   have hsn : (!(s.toList == (⟨#[]⟩ : ByteArray).toList)) = false := by rw [show (s.toList == (⟨#[]⟩ : ByteArray).toList) = true from hs0]; rfl
   cases hnn : n == 0 with
   | false =>
    have hnn' : (n != 0) = true := by simpa using hnn
    simp only [fi6, fk4];refine ye2 func192 ntmps192 fun _ _ _=>?_
    repeat' (first | refine yz ?_ | refine yx ?_ | exact zD)
   | true =>
   have hnn' : (n != 0) = false := by simpa using hnn
   by_cases h64 : l.length ≤ 64
   ·have hd : decide (((kids (.mk 8 n d s l)).length : Int) > 64) = false := by rw [hlen]; simp; omega
    rw [show decide (l.length ≤ 64) = true by simpa using h64];simp only [fh3];refine ye2 func192 ntmps192 fun _ _ _=>?_
    repeat' (first | refine yz ?_ | refine yx ?_)
    refine ac7 (α := SA (okN m) l) (fun p => ⟨[(1, .d (.int (8 - ((m + 1 : Nat) : Int)))), (120, .d (.sl (kids (.mk 8 n d s l)))), (121, .d (.int (kids (.mk 8 n d s l)).length)), (122, .d (.int p.i))], []⟩) (fun p => l.length - p.i) ⟨0, by omega, rfl⟩ (zle 0) ?_;rintro ⟨i, hi, ok⟩;dsimp only;rcases fg7 i l.length with hlt | hge
    ·have hd : decide ((i : Int) < ((kids (.mk 8 n d s l)).length : Int)) = true := by rw [hlen]; simpa using hlt
     have hx0 := fg5 hlt;generalize l[i] = v at hx0;have hx : (kids (.mk 8 n d s l))[(i : Int).toNat]? = some (enc v) := by rw [hk]; exact bo5 (by rw [fh0]; exact hx0)
     have hv := ih v;rw [← hn1] at hv;rw [ok, cd5 hx0, fk0]
     cases hvv : okN m v with
     | true =>
      rw [hvv] at hv
      repeat' (first | refine yz ?_ | refine yi (enc _) hx ?_ | refine yp bs9 hv ?_)
      refine ac1 ?_;refine ⟨⟨i + 1, by omega, by rw [ok, cd5 hx0, fk0, hvv, fh3]⟩, by dsimp only; omega, (zle 0)⟩
     | false =>
      rw [hvv] at hv
      repeat' (first | refine yz ?_ | refine yi (enc _) hx ?_ | refine yp bs9 hv ?_ | exact zD)
    ·have hd : decide ((i : Int) < ((kids (.mk 8 n d s l)).length : Int)) = false := by rw [hlen]; simp; omega
     have : l.drop i = [] := fh6 hge;rw [ok, this]
     repeat' (first | refine yz ?_ | exact zD)
   ·have hd : decide (((kids (.mk 8 n d s l)).length : Int) > 64) = true := by rw [hlen]; simp; omega
    rw [show decide (l.length ≤ 64) = false by simpa using h64];simp only [fi6, fk4];refine ye2 func192 ntmps192 fun _ _ _=>?_
    repeat' (first | refine yz ?_ | refine yx ?_ | exact zD)
  rw [ce0 _ _ _ _ _ _ h7 h8];exact cd4 hix k n d s l _ h7 h8
theorem ce8 (hix : cd2) (v : V) : Ev E 144 [enc v] (.d (.bool (okV v))) := by
 have h := ce7 hix 8 (by omega) v;refine ye1 func144 ntmps144 fun _ _ _=>?_
 repeat' (first | refine yz ?_ | refine yp bs9 h ?_ | refine yx ?_ | (refine yy ?_ ?_ <;> intro _) | exact zD | exact zL)
theorem ce9 (v : V) : Ev E 39 [enc v] (.d (.bool (okV v))) := by
 have h := ce6 8 (by omega) v;refine ye1 func39 ntmps39 fun _ _ _=>?_
 repeat' (first | refine yz ?_ | refine yp b72 h ?_ | refine yx ?_ | (refine yy ?_ ?_ <;> intro _) | exact zD | exact zL)
theorem cf0 (hix : cd2) (v : V) : Ev E 149 [enc v] (.tup [.agg [.int (bq6 v), .int (bq7 v)], .bool (bq5 v)]) := by
 have h := ce8 hix v
 cases h2 : v.k == 2 with
 | true =>
  cases hv : okV v with
  | true =>
   rw [hv] at h;refine ye1 func149 ntmps149 fun _ _ _=>?_
   repeat' (first | refine yz ?_ | refine yp br8 h ?_ | refine yx ?_ | (refine yy ?_ ?_ <;> intro _) | exact zD | exact zL)
   simp [bq6, bq7, bq5, h2, hv, ag5, D.cells]
  | false =>
   rw [hv] at h;have h3 : (v.k == 3) = false := by simp at h2 ⊢; omega
   refine ye1 func149 ntmps149 fun _ _ _=>?_
   repeat' (first | refine yz ?_ | refine yp br8 h ?_ | refine yx ?_ | (refine yy ?_ ?_ <;> intro _) | exact zD | exact zL)
   simp [bq6, bq7, bq5, h2, hv]
 | false =>
  cases h3 : v.k == 3 with
  | true =>
   cases hv : okV v with
   | true =>
    rw [hv] at h;refine ye1 func149 ntmps149 fun _ _ _=>?_
    repeat' (first | refine yz ?_ | refine yp br8 h ?_ | refine yx ?_ | (refine yy ?_ ?_ <;> intro _) | exact zD | exact zL)
    simp [bq6, bq7, bq5, h2, h3, hv, ag5, D.cells]
   | false =>
    rw [hv] at h;refine ye1 func149 ntmps149 fun _ _ _=>?_
    repeat' (first | refine yz ?_ | refine yp br8 h ?_ | refine yx ?_ | (refine yy ?_ ?_ <;> intro _) | exact zD | exact zL)
    simp [bq6, bq7, bq5, h2, hv]
  | false =>
   refine ye1 func149 ntmps149 fun _ _ _=>?_
   repeat' (first | refine yz ?_ | refine yp br8 h ?_ | refine yx ?_ | (refine yy ?_ ?_ <;> intro _) | exact zD | exact zL)
   simp [bq6, bq7, bq5, h2, h3]
theorem cf1 (v : V) : Ev E 44 [enc v] (.tup [.agg [.int (bq6 v), .int (bq7 v)], .bool (bq5 v)]) := by
 have h := ce9 v
 cases hv : okV v with
 | false =>
  rw [hv] at h;refine ye1 func44 ntmps44 fun _ _ _=>?_
  repeat' (first | refine yz ?_ | refine yp b39 h ?_ | refine yx ?_ | (refine yy ?_ ?_ <;> intro _) | exact zD | exact zL)
  simp [bq6, bq7, bq5, hv]
 | true =>
  rw [hv] at h
  cases h2 : v.k == 2 with
  | true =>
   refine ye1 func44 ntmps44 fun _ _ _=>?_
   repeat' (first | refine yz ?_ | refine yp b39 h ?_ | refine yx ?_ | (refine yy ?_ ?_ <;> intro _) | exact zD | exact zL)
   simp [bq6, bq7, bq5, h2, hv, ag5, D.cells]
  | false =>
   cases h3 : v.k == 3 with
   | true =>
    refine ye1 func44 ntmps44 fun _ _ _=>?_
    repeat' (first | refine yz ?_ | refine yp b39 h ?_ | refine yx ?_ | (refine yy ?_ ?_ <;> intro _) | exact zD | exact zL)
    simp [bq6, bq7, bq5, h2, h3, hv, ag5, D.cells]
   | false =>
    refine ye1 func44 ntmps44 fun _ _ _=>?_
    repeat' (first | refine yz ?_ | refine yp b39 h ?_ | refine yx ?_ | (refine yy ?_ ?_ <;> intro _) | exact zD | exact zL)
    simp [bq6, bq7, bq5, h2, h3]
theorem cf2 (hix : cd2) (v : V) : Ev E 210 [enc v] (.d (.int (bq8 v))) := by
 have h := ce8 hix v
 cases h1 : v.k == 1 with
 | false =>
  have h1' : (v.k != 1) = true := by simpa using h1
  refine ye1 func210 ntmps210 fun _ _ _=>?_
  repeat' (first | refine yz ?_ | refine yp br8 h ?_ | refine yx ?_ | (refine yy ?_ ?_ <;> intro _) | exact zD | exact zL)
  simp [bq8, h1]
 | true =>
  have h1' : (v.k != 1) = false := by simpa using h1
  cases hv : okV v with
  | false =>
   rw [hv] at h;refine ye1 func210 ntmps210 fun _ _ _=>?_
   repeat' (first | refine yz ?_ | refine yp br8 h ?_ | refine yx ?_ | (refine yy ?_ ?_ <;> intro _) | exact zD | exact zL)
   simp [bq8, h1, hv]
  | true =>
   rw [hv] at h;refine ye1 func210 ntmps210 fun _ _ _=>?_
   repeat' (first | refine yz ?_ | refine yp br8 h ?_ | refine yp bu0 (cc2 _) ?_ | refine yx ?_ | (refine yy ?_ ?_ <;> intro _) | exact zD | exact zL)
   simp [bq8, h1, hv]
theorem cf3 (v : V) : Ev E 36 [enc v] (.d (.int (bq8 v))) := by
 have h := ce9 v
 cases h1 : v.k == 1 with
 | false =>
  have h1' : (v.k != 1) = true := by simpa using h1
  refine ye1 func36 ntmps36 fun _ _ _=>?_
  repeat' (first | refine yz ?_ | refine yp b39 h ?_ | refine yx ?_ | (refine yy ?_ ?_ <;> intro _) | exact zD | exact zL)
  simp [bq8, h1]
 | true =>
  have h1' : (v.k != 1) = false := by simpa using h1
  cases hv : okV v with
  | false =>
   rw [hv] at h;refine ye1 func36 ntmps36 fun _ _ _=>?_
   repeat' (first | refine yz ?_ | refine yp b39 h ?_ | refine yx ?_ | (refine yy ?_ ?_ <;> intro _) | exact zD | exact zL)
   simp [bq8, h1, hv]
  | true =>
   rw [hv] at h
   have h01 : v.n = 0 ∨ v.n = 1 := by
    obtain ⟨k, n, d, s, l⟩ := v;have hk : k = 1 := by simpa [V.k] using h1
    subst hk;unfold Val.okV at hv;rw [ce0 _ _ _ _ _ _ (by decide) (by decide)] at hv;simp [bq1, V.k, V.n, V.d, V.s, V.l] at hv;exact hv.2
   refine ye1 func36 ntmps36 fun _ _ _=>?_
   repeat' (first | refine yz ?_ | refine yp b39 h ?_ | refine yx ?_ | (refine yy ?_ ?_ <;> intro _) | exact zD | exact zL)
   refine congrArg D.int ?_;rcases h01 with h | h <;> simp [bq8, h1, hv, tt, h]
end Go.Proofs.YtibfalecohlngaaGreatDoor
namespace Go.Proofs.YtibfalecohlngaaGreatDoor
set_option maxRecDepth 4000
open Go Go.Abs Go.Val Go.RowKit Go.Proofs.Tryz
theorem cf4 {f : FuncId} {ds : List D} {r : Value} (hok : Go.Abs.okV r = true) (h : ∀ (w : World) (F : Nat → Prop) (vs : List Value), E.GI w F → vs.length = ds.length → (∀ (i : Nat) d v, ds[i]? = some d → vs[i]? = some v → Rd w F d v) →
  Calls E.P f vs.toArray w fun e w' => e = .returned r ∧ Below w.heap.size w w') : Ev E f ds (.d (.imm r)) := by
 intro w F vs hF hG hl hr;refine (h w F vs hG hl hr).mono ?_;rintro e w' ⟨rfl, hb⟩;exact ⟨r, F, rfl, Ext.of_below hb hF, .imm r hok⟩
theorem cf5 {f : FuncId} {a r : Value} (hok : Go.Abs.okV r = true) (h : ∀ (w : World) (F : Nat → Prop), E.GI w F → Go.Abs.okV a = true → Calls E.P f #[a] w fun e w' => e = .returned r ∧ Below w.heap.size w w') : Ev E f [.imm a] (.d (.imm r)) := by
 refine cf4 hok fun w F vs hG hl hr => ?_
 match vs, hl with
 | [v], _ =>
  obtain ⟨rfl, hk⟩ := Rd.imm_inv (hr 0 _ v rfl rfl);exact h w F hG hk
theorem cf6 {f : FuncId} {a b r : Value} (hok : Go.Abs.okV r = true) (h : ∀ (w : World) (F : Nat → Prop), E.GI w F → Go.Abs.okV a = true → Go.Abs.okV b = true → Calls E.P f #[a, b] w fun e w' => e = .returned r ∧ Below w.heap.size w w') : Ev E f [.imm a, .imm b] (.d (.imm r)) := by
 refine cf4 hok fun w F vs hG hl hr => ?_
 match vs, hl with
 | [v, u], _ =>
  obtain ⟨rfl, hk⟩ := Rd.imm_inv (hr 0 _ v rfl rfl);obtain ⟨rfl, hk'⟩ := Rd.imm_inv (hr 1 _ u rfl rfl);exact h w F hG hk hk'
theorem cf7 (n : Int) : Ev E 196 [.int n] (.d (.str ⟨(Lib.itoa n).toArray⟩)) := Ev.fit fun hfit => by
 have hn := (hfit (.int n) (by simp)).int;simp only [inR] at hn;have hlen := Lib.itoa_length_le n hn.1 hn.2;refine cf5 (by simp only [Go.Abs.okV, decide_eq_true_eq]; show (Lib.itoa n).toArray.size ≤ 9223372036854775807; simp only [fo4]; omega) fun w F hG _ => ?_
 refine (Tryz.strconv_Itoa n hn.1 hn.2 w hG.2.1.2).mono ?_;rintro e w' ⟨rfl, k, os, rfl⟩;exact ⟨rfl, Lib.below_grow _ w (fh5 _) k os⟩
theorem cf8 (b : Bool) : Ev E 195 [.bool b] (.d (.str ⟨(Lib.formatBool b).toArray⟩)) := by
 refine cf5 (by cases b <;> decide) fun w F _ _ => ?_
 refine (Tryz.strconv_FormatBool b w).mono ?_;rintro e w' ⟨rfl, rfl⟩;exact ⟨rfl, Below.refl _ _⟩
open Go.Shelf
def cf9 (r : Nat) : Bool := decide (r < 32) || decide (r > 126)
theorem cg0 (s : ByteArray) (i : Nat) (b : UInt8) (hb : s.get! i = b) : (b.toNat < 128 → Utf8.decode s i = (b.toNat, 1)) ∧ (128 ≤ b.toNat → 128 ≤ (Utf8.decode s i).1) := by
 have h0 : (s.get! (i + 0)).toNat = b.toNat := by rw [fj7, hb]
 constructor
 ·intro h;unfold Utf8.decode;simp only [h0];rw [if_pos h]
 ·intro h;unfold Utf8.decode;simp only [h0, Utf8.runeError];rw [if_neg (by omega)];split
  ·split <;> simp only [] <;> omega
  ·split
   ·split
    ·rename_i h1 h2; simp only [fg6, decide_eq_true_eq] at h2; simp only []; omega
    ·simp only []; omega
   ·split
    ·split
     ·rename_i h1 h2; simp only [fg6, decide_eq_true_eq] at h2; simp only []; omega
     ·simp only []; omega
    ·simp only []; omega
theorem cg1 {s : ByteArray} {i : Nat} {b : UInt8} (h : s.data.toList[i]? = some b) : s.get! i = b := by
 have hl : i < s.data.size := by simpa using (fg8.1 h).1
 have : s.data.toList[i]? = some s.data[i] := by simp [hl]
 rw [this] at h
 cases h
 cases s
 simp only [ByteArray.get!];simp [hl]
theorem cg2 (s : ByteArray) : ∀ (f pos : Nat), s.size ≤ pos + f → (decide (Lib.idxFuncFrom cf9 true s f pos < 0)) = (s.data.toList.drop pos).all fun b => !(decide (b.toNat < 32) || decide (b.toNat > 126))
 | 0, pos, h => by
  have hlen : s.data.toList.length = s.size := by simp
  have : s.data.toList.drop pos = [] := fh6 (by omega);rw [this];simp [Lib.idxFuncFrom]
 | f + 1, pos, h => by
  have hlen : s.data.toList.length = s.size := by simp
  unfold Lib.idxFuncFrom
  by_cases hp : pos < s.size
  ·rw [if_pos hp];have hx := fg5 (show pos < s.data.toList.length by omega);generalize s.data.toList[pos] = b at hx;rw [cd5 hx, fk0];obtain ⟨d1, d2⟩ := cg0 s pos b (cg1 hx)
   by_cases hb : b.toNat < 128
   ·rw [d1 hb];simp only []
    cases hbad : cf9 b.toNat with
    | true =>
     rw [if_pos rfl];have : (!(decide (b.toNat < 32) || decide (b.toNat > 126))) = false := by unfold cf9 at hbad; rw [hbad]; rfl
     rw [this, fi6];simp
    | false =>
     rw [if_neg (by simp), cg2 s f (pos + 1) (by omega)];have : (!(decide (b.toNat < 32) || decide (b.toNat > 126))) = true := by unfold cf9 at hbad; rw [hbad]; rfl
     rw [this, fh3]
   ·have h128 := d2 (by omega);have hbad : cf9 (Utf8.decode s pos).1 = true := by unfold cf9; simp; omega
    rw [hbad, if_pos rfl];have : (!(decide (b.toNat < 32) || decide (b.toNat > 126))) = false := by simp; omega
    rw [this, fi6];simp
  ·rw [if_neg hp];have : s.data.toList.drop pos = [] := fh6 (by omega);rw [this];simp
theorem cg3 (w : World) : PredAt Tryz.prog 245 #[] encR cf9 w := fun W r _ => by
 unfold FnGives
 by_cases h1 : r < 32 <;> by_cases h2 : r > 126
 all_goals
  have z1 : (r : Int) < 32 ↔ r < 32 := by omega
  have z2 : (126 : Int) < (r : Int) ↔ r > 126 := by omega
  go_enter func245, ntmps245
  go_wp2
  all_goals first | (exfalso; omega) | (go_ret; exact ⟨by simp [cf9, h1, h2], 0, rfl⟩)
theorem cg4 : cd2 := by
 intro s;refine ⟨Lib.idxFunc cf9 true s, ?_, ?_⟩
 ·refine Ev.fit fun hfit => ?_
  have hs := (hfit (.str s) (by simp)).str;refine cf6 (af2 (k := .i64) ?_) fun w F _ _ _ => ?_
  ·unfold Lib.idxFunc;rcases Lib.idxFuncFrom_range cf9 true s s.size 0 with h | h <;> simp only [inR] <;> omega
  ·refine (Tryz.strings_IndexFunc 245 #[] Tryz.call245 cf9 s w (cg3 w)).mono ?_;rintro e w' ⟨rfl, hb⟩;exact ⟨rfl, hb⟩
 ·unfold Lib.idxFunc;rw [cg2 s s.size 0 (by omega), fm6]
end Go.Proofs.YtibfalecohlngaaGreatDoor
namespace Go.Proofs.YtibfalecohlngaaGreatDoor
set_option maxRecDepth 4000
open Go Go.Abs Go.Val Go.Proofs.Tryz
attribute [local irreducible] go SGo an2 Ev
theorem cg5 {P : V → Prop} (h : ∀ (k n d : Int) (s : ByteArray) (l : List V), (∀ x ∈ l, P x) → P (.mk k n d s l)) (v : V) : P v :=
 V.rec (motive_1 := P) (motive_2 := fun l => ∀ x ∈ l, P x) (fun k n d s l ih => h k n d s l ih) (fun x hx => by simp at hx)
  (fun a r ha hr x hx => by
   rcases fh7.1 hx with e | e
   ·rw [e]; exact ha
   ·exact hr x e) v
end Go.Proofs.YtibfalecohlngaaGreatDoor
