/- What the functions of layers 1 and 3 return: In, Gcd, Valid of both texts; The small functions of layer 4, of the program and of the specification: logic, constructors, classes; Which values are valid: the flat kinds, of the program and of the specification; Which flat values are valid, by both texts; Paths and lists: which values are valid, by both texts; Lists within lists: which values are valid, by both texts; Valid, Plain, Number and Truth, by both texts; The library's functions, by the kit's contracts, in the engine's form; and the program's test of a string's characters; The program's t. Conditions: each part's own, as it says. -/
import Derived.Test.YtaiiailapeffgaaGreatDoorGC
import Derived.Test.YtaiiailapeffgaaGreatDoorGS
import Derived.Lib.ItoaLen
import Derived.Lib.AppendIntMem
set_option linter.unusedVariables false
set_option linter.unusedSimpArgs false
namespace Go.Proofs.YtaiiailapeffgaaGreatDoor
set_option maxRecDepth 4000
open Go Go.Abs Go.Val Go.Proofs.Tryz
attribute [local irreducible] go SGo an2 Ev
theorem bw1 (n : Int) : Ev E 252 [.int n] (.d (.bool (inM n))) := by
 refine ye1 func252 ntmps252 fun _ _ _=>?_
 repeat' (first | refine yz ?_ | (refine yy ?_ ?_ <;> intro _))
 all_goals (simp_all [inM]; try omega)
theorem bw2 (n : Int) : Ev E 130 [.int n] (.d (.bool (inM n))) := by
 refine ye1 func130 ntmps130 fun _ _ _=>?_
 repeat' (first | refine yz ?_ | (refine yy ?_ ?_ <;> intro _))
 all_goals (simp_all [inM]; try omega)
theorem bw3 (n : Int) (h : inM n = true) : Ev E 327 [.int n] (.d (.int (n.natAbs : Int))) := by
 have hb := (bq6 n).1 h;refine ye1 func327 ntmps327 fun _ _ _=>?_
 repeat' (refine yz ?_)
 all_goals (simp only [cond_true]; congr 3; omega)
theorem bw4 (n : Int) (h : -9223372036854775807 ≤ n) : Ev E 85 [.int n] (.d (.int (n.natAbs : Int))) := by
 by_cases hn : n < 0
 ·have hd : decide (n < 0) = true := by simpa using hn
  refine ye1 func85 ntmps85 fun _ _ _=>?_
  repeat' (refine yz ?_)
  all_goals (congr 3; omega)
 ·have hd : decide (n < 0) = false := by simpa using hn
  refine ye1 func85 ntmps85 fun _ _ _=>?_
  repeat' (refine yz ?_)
  all_goals (congr 3; omega)
theorem bw5 {x y : Int} (hx : 0 ≤ x) (hy : 0 < y) : x.tmod y = x % y ∧ 0 ≤ x % y ∧ x % y < y := ⟨fq0 hx, Int.emod_nonneg x (by omega), Int.emod_lt_of_pos x hy⟩
theorem bw6 {x y : Int} (hx : 0 ≤ x) (hy : 0 ≤ y) : Int.gcd y (x % y) = Int.gcd x y := by
 obtain ⟨a, rfl⟩ := Int.eq_ofNat_of_zero_le hx;obtain ⟨b, rfl⟩ := Int.eq_ofNat_of_zero_le hy;have e : ((a : Int) % (b : Int)) = ((a % b : Nat) : Int) := by omega
 rw [e];simp only [Int.gcd, Int.natAbs_natCast];rw [Nat.gcd_comm b, ← Nat.gcd_rec, Nat.gcd_comm]
structure GS (g : Nat) where
 x : Int
 y : Int
 hx : 0 ≤ x
 hy : 0 ≤ y
 bx : x ≤ 9223372036854775807
 by_ : y ≤ 9223372036854775807
 hg : Int.gcd x y = g
theorem bw7 (a b : Int) (ha : 0 ≤ a) (hb : 0 ≤ b) (ha' : a ≤ 9223372036854775807) (hb' : b ≤ 9223372036854775807) : Ev E 134 [.int a, .int b] (.d (.int (Int.gcd a b : Int))) := by
 refine ye2 func134 ntmps134 fun _ _ _=>?_
 repeat' (refine yz ?_)
 refine ac7 (α := GS (Int.gcd a b)) (fun p => ⟨[(0, .d (.int p.x)), (1, .d (.int p.y))], []⟩) (fun p => p.y.toNat) ⟨a, b, ha, hb, ha', hb', rfl⟩ (zle 0) ?_;rintro ⟨x, y, hx, hy, bx, by_, hg⟩;dsimp only
 by_cases hlt : y > 0
 ·have hd : decide (y > 0) = true := by simpa using hlt
  obtain ⟨e1, e2, e3⟩ := bw5 hx hlt
  repeat' (refine yz ?_)
  refine ac1 ?_;refine ⟨⟨y, x % y, hy, e2, by_, by omega, by rw [bw6 hx hy]; exact hg⟩, by dsimp only; omega, ?_⟩;dsimp only;rw [← e1];exact (zle 0)
 ·have hd : decide (y > 0) = false := by simpa using hlt
  repeat' (refine yz ?_)
  obtain rfl : y = 0 := by omega
  rw [← hg, Int.gcd_zero_right];congr 3;omega
theorem bw8 (a b : Int) : Ev E 290 [.int a, .int b] (.d (.int (bq7 a b))) := by
 cases ha : inM a with
 | false =>
  have ia : Ev E 252 [.int a] (.d (.bool false)) := ha ▸ bw1 a;refine ye2 func290 ntmps290 fun _ _ _=>?_
  repeat' (first | refine yz ?_ | refine yp bv2 ia ?_)
  simp [bq7, ha]
 | true =>
  have ia : Ev E 252 [.int a] (.d (.bool true)) := ha ▸ bw1 a
  cases hb : inM b with
  | false =>
   have ib : Ev E 252 [.int b] (.d (.bool false)) := hb ▸ bw1 b;refine ye2 func290 ntmps290 fun _ _ _=>?_
   repeat' (first | refine yz ?_ | refine yp bv2 ia ?_ | refine yp bv2 ib ?_)
   simp [bq7, ha, hb]
  | true =>
   have ib : Ev E 252 [.int b] (.d (.bool true)) := hb ▸ bw1 b;have ba := (bq6 a).1 ha;have bb := (bq6 b).1 hb;refine ye2 func290 ntmps290 fun _ _ _=>?_
   repeat' (first | refine yz ?_ | refine yp bv2 ia ?_ | refine yp bv2 ib ?_ | refine yp bw0 (bw3 a ha) ?_ | refine yp bw0 (bw3 b hb) ?_)
   refine ac7 (α := GS (Int.gcd a b)) (fun p => ⟨[(0, .d (.int p.x)), (1, .d (.int p.y))], []⟩) (fun p => p.y.toNat) ⟨a.natAbs, b.natAbs, by omega, by omega, by omega, by omega, by simp [Int.gcd]⟩ (zle 0) ?_;rintro ⟨x, y, hx, hy, bx, by_, hg⟩;dsimp only
   by_cases hlt : y = 0
   ·subst hlt
    repeat' (refine yz ?_)
    simp only [bq7, ha, hb, Bool.and_self, cond_true];rw [← hg, Int.gcd_zero_right];congr 3;omega
   ·have hd : (y != 0) = true := by simpa using hlt
    obtain ⟨e1, e2, e3⟩ := bw5 hx (show 0 < y by omega)
    repeat' (refine yz ?_)
    refine ac1 ?_;refine ⟨⟨y, x % y, hy, e2, by_, by omega, by rw [bw6 hx hy]; exact hg⟩, by dsimp only; omega, ?_⟩;dsimp only;rw [← e1];exact (zle 0)
theorem bw9 (n d : Int) : Ev E 253 [.agg [.int n, .int d]] (.d (.bool (bq8 n d))) := by
 have hg := bw8 n d
 cases hn : inM n with
 | false =>
  have i1 : Ev E 252 [.int n] (.d (.bool false)) := hn ▸ bw1 n;refine ye1 func253 ntmps253 fun _ _ _=>?_
  repeat' (first | refine yz ?_ | refine yp bv2 i1 ?_ | (refine yy ?_ ?_ <;> intro _))
  all_goals (refine congrArg D.bool ?_; clear i1 hg; simp_all [bq8])
 | true =>
  have i1 : Ev E 252 [.int n] (.d (.bool true)) := hn ▸ bw1 n;refine ye1 func253 ntmps253 fun _ _ _=>?_
  repeat' (first | refine yz ?_ | refine yp bv2 i1 ?_ | refine yp bv8 hg ?_ | (refine yy ?_ ?_ <;> intro _))
  all_goals (refine congrArg D.bool ?_; clear i1 hg; simp_all [bq8, bq7]; try omega)
  rw [(bq6 d).2 (by omega)];rfl
theorem bx0 (n d : Int) : Ev E 81 [.agg [.int n, .int d]] (.d (.bool (bq8 n d))) := by
 refine ye1 func81 ntmps81 fun _ _ _=>?_
 repeat' (first | refine yz ?_ | refine yp b85 (bw4 n (by simp_all; omega)) ?_ | refine yp b134 (bw7 n.natAbs d (by omega) (by simp_all; omega) (by simp_all; omega) (by simp_all; omega)) ?_ | (refine yy ?_ ?_ <;> intro _))
 all_goals (refine congrArg D.bool ?_; simp_all [bq8, inM, Int.gcd]; try omega)
theorem bx1 (n : Int) : Ev E 266 [.int n] (.d (.int (kn n))) := by
 refine ye1 func266 ntmps266 fun _ _ _=>?_
 repeat' (first | refine yz ?_ | refine yx ?_ | (refine yy ?_ ?_ <;> intro _) | (refine qV rfl ?_ ?_ <;> intro _) | exact zD | exact zL)
 all_goals (refine congrArg D.int ?_; simp_all [kn]; try (rw [show (n == 0 || n == 2) = false by simp_all]; rfl))
theorem bx2 (n : Int) : Ev E 209 [.int n] (.d (.int (2 - kn n))) := by
 have h := bq9 n;refine ye1 func209 ntmps209 fun _ _ _=>?_
 repeat' (first | refine yz ?_ | refine yp bv5 (bx1 n) ?_ | refine yx ?_ | (refine yy ?_ ?_ <;> intro _) | (refine qV rfl ?_ ?_ <;> intro _) | exact zD | exact zL)
theorem bx3 (a b : Int) : Ev E 211 [.int a, .int b] (.d (.int (min (kn a) (kn b)))) := by
 have h1 := bq9 a;have h2 := bq9 b;refine ye2 func211 ntmps211 fun _ _ _=>?_
 repeat' (first | refine yz ?_ | refine yp bv5 (bx1 a) ?_ | refine yp bv5 (bx1 b) ?_ | refine yx ?_ | (refine yy ?_ ?_ <;> intro _) | (refine qV rfl ?_ ?_ <;> intro _) | exact zD | exact zL)
theorem bx4 (a b : Int) : Ev E 212 [.int a, .int b] (.d (.int (max (kn a) (kn b)))) := by
 have h1 := bq9 a;have h2 := bq9 b;refine ye2 func212 ntmps212 fun _ _ _=>?_
 repeat' (first | refine yz ?_ | refine yp bv5 (bx1 a) ?_ | refine yp bv5 (bx1 b) ?_ | refine yx ?_ | (refine yy ?_ ?_ <;> intro _) | (refine qV rfl ?_ ?_ <;> intro _) | exact zD | exact zL)
theorem bx5 : Ev E 92 [] (.d (enc br5)) := by
 refine ap5 func92 ntmps92 rfl rfl fun w0 F0 O => ?_
 repeat' (first | refine yz ?_ | refine yx ?_ | (refine yy ?_ ?_ <;> intro _) | (refine qV rfl ?_ ?_ <;> intro _) | exact zD | exact zL)
theorem bx6 (b : Bool) : Ev E 206 [.bool b] (.d (enc (br0 b))) := by
 cases b
 ·refine ye1 func206 ntmps206 fun _ _ _=>?_
  repeat' (first | refine yz ?_ | refine yx ?_ | (refine yy ?_ ?_ <;> intro _) | (refine qV rfl ?_ ?_ <;> intro _) | exact zD | exact zL)
 ·refine ye1 func206 ntmps206 fun _ _ _=>?_
  repeat' (first | refine yz ?_ | refine yx ?_ | (refine yy ?_ ?_ <;> intro _) | (refine qV rfl ?_ ?_ <;> intro _) | exact zD | exact zL)
theorem bx7 (n : Int) : Ev E 144 [.int n] (.d (enc (br1 n))) := by
 refine ye1 func144 ntmps144 fun _ _ _=>?_
 repeat' (first | refine yz ?_ | refine yx ?_ | (refine yy ?_ ?_ <;> intro _) | (refine qV rfl ?_ ?_ <;> intro _) | exact zD | exact zL)
theorem bx8 (s : ByteArray) : Ev E 147 [.str s] (.d (enc (br3 s))) := by
 refine ye1 func147 ntmps147 fun _ _ _=>?_
 repeat' (first | refine yz ?_ | refine yx ?_ | (refine yy ?_ ?_ <;> intro _) | (refine qV rfl ?_ ?_ <;> intro _) | exact zD | exact zL)
theorem bx9 (n : Int) : Ev E 201 [.int n] (.d (enc (br4 n))) := by
 refine ye1 func201 ntmps201 fun _ _ _=>?_
 repeat' (first | refine yz ?_ | refine yx ?_ | (refine yy ?_ ?_ <;> intro _) | (refine qV rfl ?_ ?_ <;> intro _) | exact zD | exact zL)
theorem by0 (n d : Int) : Ev E 146 [.agg [.int n, .int d]] (.d (enc (br2 n d))) := by
 cases h : d == 1 with
 | true =>
  refine ye1 func146 ntmps146 fun _ _ _=>?_
  repeat' (first | refine yz ?_ | refine yp bt8 (bx7 n) ?_ | refine yx ?_ | (refine yy ?_ ?_ <;> intro _) | (refine qV rfl ?_ ?_ <;> intro _) | exact zD | exact zL)
  all_goals (rw [show br2 n d = br1 n by simp [br2, h]]; rfl)
 | false =>
  refine ye1 func146 ntmps146 fun _ _ _=>?_
  repeat' (first | refine yz ?_ | refine yx ?_ | (refine yy ?_ ?_ <;> intro _) | (refine qV rfl ?_ ?_ <;> intro _) | exact zD | exact zL)
  all_goals (rw [show br2 n d = V.mk 3 n d ⟨#[]⟩ [] by simp [br2, h]]; rfl)
theorem by1 (b : Bool) : Ev E 267 [.bool b] (.d (.int (tt b))) := by
 cases b
 ·refine ye1 func267 ntmps267 fun _ _ _=>?_
  repeat' (first | refine yz ?_ | refine yx ?_ | (refine yy ?_ ?_ <;> intro _) | (refine qV rfl ?_ ?_ <;> intro _) | exact zD | exact zL)
 ·refine ye1 func267 ntmps267 fun _ _ _=>?_
  repeat' (first | refine yz ?_ | refine yx ?_ | (refine yy ?_ ?_ <;> intro _) | (refine qV rfl ?_ ?_ <;> intro _) | exact zD | exact zL)
theorem by2 (b : Bool) : Ev E 39 [.bool b] (.d (.int (tt b))) := by
 cases b
 ·refine ye1 func39 ntmps39 fun _ _ _=>?_
  repeat' (first | refine yz ?_ | refine yx ?_ | (refine yy ?_ ?_ <;> intro _) | (refine qV rfl ?_ ?_ <;> intro _) | exact zD | exact zL)
 ·refine ye1 func39 ntmps39 fun _ _ _=>?_
  repeat' (first | refine yz ?_ | refine yx ?_ | (refine yy ?_ ?_ <;> intro _) | (refine qV rfl ?_ ?_ <;> intro _) | exact zD | exact zL)
theorem by3 (t : Int) : Ev E 208 [.int t] (.d (enc (bs6 t))) := by
 cases h : kn t == 1 with
 | true =>
  refine ye1 func208 ntmps208 fun _ _ _=>?_
  repeat' (first | refine yz ?_ | refine yp bv5 (bx1 t) ?_ | refine yp b92 bx5 ?_ | refine yx ?_ | (refine yy ?_ ?_ <;> intro _) | (refine qV rfl ?_ ?_ <;> intro _) | exact zD | exact zL)
  all_goals (rw [show bs6 t = br5 by simp [bs6, h]]; rfl)
 | false =>
  refine ye1 func208 ntmps208 fun _ _ _=>?_
  repeat' (first | refine yz ?_ | refine yp bv5 (bx1 t) ?_ | refine yp b206 (bx6 _) ?_ | refine yx ?_ | (refine yy ?_ ?_ <;> intro _) | (refine qV rfl ?_ ?_ <;> intro _) | exact zD | exact zL)
  all_goals (rw [show bs6 t = br0 (t == 2) by simp [bs6, h]]; rfl)
def l0 (v : V) : Bool := ((kids v).length : Int) == 0
theorem by4 (v : V) : l0 v = (v.l.length == 0) := by
 unfold l0;rw [bq2]
 cases v.l with
 | nil => rfl
 | cons a r =>
  simp only [fk5];rw [beq_eq_false_iff_ne.2 (by omega), beq_eq_false_iff_ne.2 (by omega)]
def by5 (v : V) (n d s l : Bool) : Bool := (n || v.n == 0) && ((d || v.d == 0) && ((s || s0 v.s) && (l || l0 v)))
theorem by6 (v : V) (n d s l : Bool) : Ev E 129 [enc v, .bool n, .bool d, .bool s, .bool l] (.d (.bool (by5 v n d s l))) := by
 cases n <;> cases d <;> cases s <;> cases l <;> (
 refine aq0 func129 ntmps129 rfl rfl fun w0 F0 O => ?_
 repeat' (first | refine yz ?_ | (refine yy ?_ ?_ <;> intro _) | exact zD)
 all_goals (refine congrArg D.bool ?_; simp_all [by5, s0, l0]))
def cOK (b : UInt8) : Bool := !(decide (b.toNat < 32) || decide (b.toNat > 126))
theorem by7 {s : ByteArray} {i : Nat} (h : i < s.size) : ∃ b, s.data.toList[i]? = some b ∧ ag0 s i = (b.toNat : Int) := by
 have hl : i < s.data.toList.length := by simpa using h
 refine ⟨s.data.toList[i], fk0 hl, ?_⟩;unfold ag0;rw [fp7, fk0 hl];rfl
structure SI (s : ByteArray) where
 i : Nat
 hi : i ≤ s.size
 ok : ∀ (j : Nat) b, j < i → s.data.toList[j]? = some b → cOK b = true
theorem by8 (s : ByteArray) : Ev E 131 [.str s] (.d (.bool (br6 s))) := Ev.fit fun hfit => by
  have hs := (hfit (.str s) (by simp)).str;refine ye1 func131 ntmps131 fun _ _ _=>?_
  repeat' (refine yz ?_)
  refine ac7 (α := SI s) (fun p => ⟨[(0, .d (.str s)), (3, .d (.int p.i))], []⟩) (fun p => s.size - p.i) ⟨0, by omega, fun j b h => by omega⟩ (zle 0) ?_;rintro ⟨i, hi, ok⟩;dsimp only;rcases fk1 i s.size with hlt | hge
  · have hd : decide ((i : Int) < (s.size : Int)) = true := by simpa using hlt
    obtain ⟨b, hb1, hb2⟩ := by7 hlt;have hb : 0 ≤ ag0 s (i : Int).toNat ∧ ag0 s (i : Int).toNat ≤ 255 := by simp only [fl0, hb2]; have := b.toNat_lt; omega
    cases hc : cOK b with
    | true =>
      have h1 : decide (ag0 s (i : Int).toNat < 32) = false := by simp [cOK] at hc; simp only [fl0, hb2]; simp; omega
      have h2 : decide (ag0 s (i : Int).toNat > 126) = false := by simp [cOK] at hc; simp only [fl0, hb2]; simp; omega
      repeat' (first | refine yz ?_ | refine yx ?_)
      refine ac1 ?_;refine ⟨⟨i + 1, by omega, fun j b' hj hb' => ?_⟩, by dsimp only; omega, (zle 0)⟩;rcases fk1 j i with h | h
      · exact ok j b' h hb'
      · obtain rfl : j = i := by omega
        rw [hb1] at hb'
        cases hb'
        exact hc
    | false =>
      have key : br6 s = false := by
        unfold br6;rw [Bool.and_eq_false_iff];left;rw [List.all_eq_false];exact ⟨b, fk4 hb1, by simpa [cOK] using hc⟩
      by_cases h32 : b.toNat < 32
      · have h1 : decide (ag0 s (i : Int).toNat < 32) = true := by simp only [fl0, hb2]; simp; omega
        repeat' (first | refine yz ?_ | refine yx ?_)
        rw [key]
      · have h1 : decide (ag0 s (i : Int).toNat < 32) = false := by simp only [fl0, hb2]; simp; omega
        have h2 : decide (ag0 s (i : Int).toNat > 126) = true := by simp [cOK] at hc; simp only [fl0, hb2]; simp; omega
        repeat' (first | refine yz ?_ | refine yx ?_)
        rw [key]
  · have hd : decide ((i : Int) < (s.size : Int)) = false := by simp; omega
    repeat' (refine yz ?_)
    have key : br6 s = decide (s.size ≤ 100) := by
      unfold br6
      have : (s.data.toList.all fun b => !(decide (b.toNat < 32) || decide (b.toNat > 126))) = true := by
        rw [fm2];intro b hb;obtain ⟨j, hj⟩ := fm0 hb;have hjl : j < s.data.toList.length := (fk2.1 hj).1
        exact ok j b (by have : s.data.toList.length = s.size := by simp
                         omega) hj
      rw [this, fm3]
    rw [key];refine congrArg D.bool ?_;simp only [decide_eq_decide];omega
theorem by9 (k n d : Int) (s : ByteArray) (l : List V) (nest : Int) (h7 : k ≠ 7) (h8 : k ≠ 8) : Ev E 78 [enc (.mk k n d s l), .int nest] (.d (.bool (br7 (.mk k n d s l)))) := by
 by_cases h0 : k = 0
 ·subst h0;refine ye2 func78 ntmps78 fun _ _ _=>?_
  repeat' (first | refine yz ?_ | refine yp bt5 (by6 (.mk 0 n d s l) _ _ _ _) ?_)
  all_goals (refine congrArg D.bool ?_; simp_all [br7, by5, by4, V.k, V.n, V.d, V.s, V.l] <;> first | omega | exact of_decide_eq_true (by assumption) | exact fp6.1 (of_decide_eq_false (by assumption)) | ac_rfl | (intros; omega) | (intros; simp_all; done))
 by_cases h0 : k = 1
 ·subst h0;refine ye2 func78 ntmps78 fun _ _ _=>?_
  repeat' (first | refine yz ?_ | refine yp bt5 (by6 (.mk 1 n d s l) _ _ _ _) ?_ | (refine yy ?_ ?_ <;> intro _))
  all_goals (refine congrArg D.bool ?_; simp_all [br7, by5, by4, V.k, V.n, V.d, V.s, V.l] <;> first | omega | exact of_decide_eq_true (by assumption) | exact fp6.1 (of_decide_eq_false (by assumption)) | ac_rfl | (intros; omega) | (intros; simp_all; done))
 by_cases h0 : k = 2
 ·subst h0;refine ye2 func78 ntmps78 fun _ _ _=>?_
  repeat' (first | refine yz ?_ | refine yp bt5 (by6 (.mk 2 n d s l) _ _ _ _) ?_ | refine yp b130 (bw2 n) ?_ | (refine yy ?_ ?_ <;> intro _))
  all_goals (refine congrArg D.bool ?_; simp_all [br7, by5, by4, V.k, V.n, V.d, V.s, V.l] <;> first | omega | exact of_decide_eq_true (by assumption) | exact fp6.1 (of_decide_eq_false (by assumption)) | ac_rfl | (intros; omega) | (intros; simp_all; done))
 by_cases h0 : k = 3
 ·subst h0;refine ye2 func78 ntmps78 fun _ _ _=>?_
  repeat' (first | refine yz ?_ | refine yp bt5 (by6 (.mk 3 n d s l) _ _ _ _) ?_ | refine yp b81 (bx0 n d) ?_ | (refine yy ?_ ?_ <;> intro _))
  all_goals (refine congrArg D.bool ?_; simp_all [br7, by5, by4, V.k, V.n, V.d, V.s, V.l] <;> first | omega | exact of_decide_eq_true (by assumption) | exact fp6.1 (of_decide_eq_false (by assumption)) | ac_rfl | (intros; omega) | (intros; simp_all; done))
 by_cases h0 : k = 4
 ·subst h0;refine ye2 func78 ntmps78 fun _ _ _=>?_
  repeat' (first | refine yz ?_ | refine yp bt5 (by6 (.mk 4 n d s l) _ _ _ _) ?_ | refine yp b131 (by8 s) ?_ | (refine yy ?_ ?_ <;> intro _))
  all_goals (refine congrArg D.bool ?_; simp_all [br7, by5, by4, V.k, V.n, V.d, V.s, V.l] <;> first | omega | exact of_decide_eq_true (by assumption) | exact fp6.1 (of_decide_eq_false (by assumption)) | ac_rfl | (intros; omega) | (intros; simp_all; done))
 by_cases h0 : k = 5
 ·subst h0;refine ye2 func78 ntmps78 fun _ _ _=>?_
  repeat' (first | refine yz ?_ | refine yp bt5 (by6 (.mk 5 n d s l) _ _ _ _) ?_ | (refine yy ?_ ?_ <;> intro _))
  all_goals (refine congrArg D.bool ?_; simp_all [br7, by5, by4, V.k, V.n, V.d, V.s, V.l] <;> first | omega | exact of_decide_eq_true (by assumption) | exact fp6.1 (of_decide_eq_false (by assumption)) | ac_rfl | (intros; omega) | (intros; simp_all; done))
 by_cases h0 : k = 6
 ·subst h0;refine ye2 func78 ntmps78 fun _ _ _=>?_
  repeat' (first | refine yz ?_ | refine yp bt5 (by6 (.mk 6 n d s l) _ _ _ _) ?_ | (refine yy ?_ ?_ <;> intro _))
  all_goals (refine congrArg D.bool ?_; simp_all [br7, by5, by4, V.k, V.n, V.d, V.s, V.l] <;> first | omega | exact of_decide_eq_true (by assumption) | exact fp6.1 (of_decide_eq_false (by assumption)) | ac_rfl | (intros; omega) | (intros; simp_all; done))
 have e0 : (k == 0) = false := by simpa
 have e1 : (k == 1) = false := by simpa
 have e2 : (k == 2) = false := by simpa
 have e3 : (k == 3) = false := by simpa
 have e4 : (k == 4) = false := by simpa
 have e5 : (k == 5) = false := by simpa
 have e6 : (k == 6) = false := by simpa
 have e7 : (k == 7) = false := by simpa
 have e8 : (k == 8) = false := by simpa
 refine ye2 func78 ntmps78 fun _ _ _=>?_
 repeat' (refine yz ?_)
 refine congrArg D.bool ?_;simp only [br7, V.k, e0, e1, e2, e3, e4, e5, e6, fn3, fo0]
def bz0 : Prop := ∀ s : ByteArray, ∃ n : Int, Ev E 235 [.str s, .imm (.func (.func 254) #[] #[])] (.d (.int n)) ∧ decide (n < 0) = s.data.toList.all (fun b => !(decide (b.toNat < 32) || decide (b.toNat > 126)))
theorem bz1 (v : V) : kids v = [] ↔ v.l = [] := by
 rw [bp9];simp
theorem bz2 (hix : bz0) (k n d : Int) (s : ByteArray) (l : List V) (lists : Int) (h7 : k ≠ 7) (h8 : k ≠ 8) : Ev E 192 [enc (.mk k n d s l), .int lists] (.d (.bool (br7 (.mk k n d s l)))) := by
 obtain ⟨ix, hi1, hi2⟩ := hix s;have hst : br6 s = (decide (ix < 0) && decide ((s.size : Int) ≤ 100)) := by rw [hi2, show decide ((s.size : Int) ≤ 100) = decide (s.size ≤ 100) from by simp only [decide_eq_decide]; omega]; rfl
 clear hi2;have hs0 : s0 s = (s.toList == (⟨#[]⟩ : ByteArray).toList) := rfl
 by_cases h0 : k = 0
 ·subst h0;refine ye2 func192 ntmps192 fun _ _ _=>?_
  repeat' (first | refine yz ?_ | (refine yy ?_ ?_ <;> intro _) | (refine qV rfl ?_ ?_ <;> intro _))
  all_goals (refine congrArg D.bool ?_; clear hix hi1 hst; simp_all [br7, by5, bz1, bq2, V.k, V.n, V.d, V.s, V.l] <;> first | omega | exact of_decide_eq_true (by assumption) | exact fp6.1 (of_decide_eq_false (by assumption)) | ac_rfl | (intros; omega) | (intros; simp_all; done))
 by_cases h0 : k = 1
 ·subst h0;refine ye2 func192 ntmps192 fun _ _ _=>?_
  repeat' (first | refine yz ?_ | (refine yy ?_ ?_ <;> intro _) | (refine qV rfl ?_ ?_ <;> intro _))
  all_goals (refine congrArg D.bool ?_; clear hix hi1 hst; simp_all [br7, by5, bz1, bq2, V.k, V.n, V.d, V.s, V.l] <;> first | omega | exact of_decide_eq_true (by assumption) | exact fp6.1 (of_decide_eq_false (by assumption)) | ac_rfl | (intros; omega) | (intros; simp_all; done))
 by_cases h0 : k = 2
 ·subst h0;refine ye2 func192 ntmps192 fun _ _ _=>?_
  repeat' (first | refine yz ?_ | refine yp bv2 (bw1 n) ?_ | (refine yy ?_ ?_ <;> intro _) | (refine qV rfl ?_ ?_ <;> intro _))
  all_goals (refine congrArg D.bool ?_; clear hix hi1 hst; simp_all [br7, by5, bz1, bq2, V.k, V.n, V.d, V.s, V.l] <;> first | omega | exact of_decide_eq_true (by assumption) | exact fp6.1 (of_decide_eq_false (by assumption)) | ac_rfl | (intros; omega) | (intros; simp_all; done))
 by_cases h0 : k = 3
 ·subst h0;refine ye2 func192 ntmps192 fun _ _ _=>?_
  repeat' (first | refine yz ?_ | refine yp bv3 (bw9 n d) ?_ | (refine yy ?_ ?_ <;> intro _) | (refine qV rfl ?_ ?_ <;> intro _))
  all_goals (refine congrArg D.bool ?_; clear hix hi1 hst; simp_all [br7, by5, bz1, bq2, V.k, V.n, V.d, V.s, V.l] <;> first | omega | exact of_decide_eq_true (by assumption) | exact fp6.1 (of_decide_eq_false (by assumption)) | ac_rfl | (intros; omega) | (intros; simp_all; done))
 by_cases h0 : k = 4
 ·subst h0
  cases h100 : decide ((s.size : Int) ≤ 100) with
  | true =>
   rw [h100] at hst;refine ye2 func192 ntmps192 fun _ _ _=>?_
   repeat' (first | refine yz ?_ | refine yp b235 hi1 ?_ | refine yx ?_ | (refine yy ?_ ?_ <;> intro _) | (refine qV rfl ?_ ?_ <;> intro _))
   all_goals (refine congrArg D.bool ?_; clear hix hi1; simp_all [br7, by5, bz1, bq2, V.k, V.n, V.d, V.s, V.l] <;> first | omega | exact of_decide_eq_true (by assumption) | exact fp6.1 (of_decide_eq_false (by assumption)) | ac_rfl | (intros; omega) | (intros; simp_all; done))
  | false =>
   rw [h100] at hst;refine ye2 func192 ntmps192 fun _ _ _=>?_
   repeat' (first | refine yz ?_ | refine yx ?_ | (refine yy ?_ ?_ <;> intro _) | (refine qV rfl ?_ ?_ <;> intro _))
   all_goals (refine congrArg D.bool ?_; clear hix hi1; simp_all [br7, by5, bz1, bq2, V.k, V.n, V.d, V.s, V.l] <;> first | omega | exact of_decide_eq_true (by assumption) | exact fp6.1 (of_decide_eq_false (by assumption)) | ac_rfl | (intros; omega) | (intros; simp_all; done))
 by_cases h0 : k = 5
 ·subst h0;refine ye2 func192 ntmps192 fun _ _ _=>?_
  repeat' (first | refine yz ?_ | (refine yy ?_ ?_ <;> intro _) | (refine qV rfl ?_ ?_ <;> intro _))
  all_goals (refine congrArg D.bool ?_; clear hix hi1 hst; simp_all [br7, by5, bz1, bq2, V.k, V.n, V.d, V.s, V.l] <;> first | omega | exact of_decide_eq_true (by assumption) | exact fp6.1 (of_decide_eq_false (by assumption)) | ac_rfl | (intros; omega) | (intros; simp_all; done))
 by_cases h0 : k = 6
 ·subst h0;refine ye2 func192 ntmps192 fun _ _ _=>?_
  repeat' (first | refine yz ?_ | (refine yy ?_ ?_ <;> intro _) | (refine qV rfl ?_ ?_ <;> intro _))
  all_goals (refine congrArg D.bool ?_; clear hix hi1 hst; simp_all [br7, by5, bz1, bq2, V.k, V.n, V.d, V.s, V.l] <;> first | omega | exact of_decide_eq_true (by assumption) | exact fp6.1 (of_decide_eq_false (by assumption)) | ac_rfl | (intros; omega) | (intros; simp_all; done))
 have e0 : (k == 0) = false := by simpa
 have e1 : (k == 1) = false := by simpa
 have e2 : (k == 2) = false := by simpa
 have e3 : (k == 3) = false := by simpa
 have e4 : (k == 4) = false := by simpa
 have e5 : (k == 5) = false := by simpa
 have e6 : (k == 6) = false := by simpa
 have e7 : (k == 7) = false := by simpa
 have e8 : (k == 8) = false := by simpa
 have f3 : (k != 3) = true := by simpa
 have f4 : (k != 4) = true := by simpa
 have f7 : (k != 7) = true := by simpa
 have f8 : (k != 8) = true := by simpa
 have key : br7 (.mk k n d s l) = false := by simp only [br7, V.k, e0, e1, e2, e3, e4, e5, e6, fn3, fo0]
 refine ye2 func192 ntmps192 fun _ _ _=>?_
 repeat' (first | refine yz ?_ | refine yx ?_ | (refine yy ?_ ?_ <;> intro _) | (refine qV rfl ?_ ?_ <;> intro _))
 all_goals (rw [key])
theorem bz3 {α : Type} {l : List α} {i : Nat} {x : α} (h : l[i]? = some x) : l.drop i = x :: l.drop (i + 1) := by
 have hi := (fk2.1 h).1;rw [List.drop_eq_getElem_cons hi];rw [fk0 hi] at h
 cases h
 rfl
structure SP (l : List V) where
 i : Nat
 hi : i ≤ l.length
 ok : br9 0 l = br9 i (l.drop i)
theorem bz4 (i : Nat) : (bif i % 2 == 0 then (5 : Int) else 6) = 5 ∧ i % 2 = 0 ∨ (bif i % 2 == 0 then (5 : Int) else 6) = 6 ∧ i % 2 = 1 := by
 rcases Nat.mod_two_eq_zero_or_one i with h | h <;> simp [h]
theorem bz5 (hix : bz0) (l : List V) : Ev E 255 [.sl (bp7 l)] (.d (.bool (bs0 l))) := Ev.fit fun hfit => by
  obtain ⟨hmax, -⟩ := bq5 (hfit (.sl (bp7 l)) (by simp));have hlen : (bp7 l).length = l.length := bq3 l
  have hmod : ((l.length : Int).tmod 2 == 0) = (l.length % 2 == 0) := by
    rw [fq0 (by omega)]
    cases h : l.length % 2 == 0 with
    | true => simp at h ⊢; omega
    | false => simp at h ⊢; omega
  cases h2 : l.length % 2 == 0 with
  | true =>
    have key : bs0 l = false := by unfold bs0; have : (l.length % 2 == 1) = false := by simp at h2 ⊢; omega
                                   rw [this]; rfl
    rw [h2] at hmod;rw [← hlen] at hmod;refine ye1 func255 ntmps255 fun _ _ _=>?_
    repeat' (first | refine yz ?_ | refine yx ?_)
    rw [key]
  | false =>
    rw [h2] at hmod;rw [← hlen] at hmod;have h21 : (l.length % 2 == 1) = true := by simp at h2 ⊢; omega
    by_cases h25 : l.length ≤ 25
    · have hd : decide (((bp7 l).length : Int) > 25) = false := by rw [hlen]; simp; omega
      have hokp : bs0 l = br9 0 l := by unfold bs0; rw [h21]; simp [h25]
      rw [hokp];refine ye1 func255 ntmps255 fun _ _ _=>?_
      repeat' (first | refine yz ?_ | refine yx ?_)
      refine ac7 (α := SP l) (fun p => ⟨[(15, .d (.sl (bp7 l))), (16, .d (.int (bp7 l).length)), (17, .d (.int p.i))], []⟩) (fun p => l.length - p.i) ⟨0, by omega, rfl⟩ (zle 0) ?_;rintro ⟨i, hi, ok⟩;dsimp only;rcases fk1 i l.length with hlt | hge
      · have hd : decide ((i : Int) < ((bp7 l).length : Int)) = true := by rw [hlen]; simpa using hlt
        have hx0 := fk0 hlt;obtain ⟨k, n, d, s, r, hv⟩ : ∃ k n d s r, l[i] = V.mk k n d s r := ⟨_, _, _, _, _, (V.eta _).symm⟩;rw [hv] at hx0;have hx : (bp7 l)[(i : Int).toNat]? = some (enc (V.mk k n d s r)) := bq1 (by rw [fl0]; exact hx0)
        have hm : (([.int 5, .int 6] : List D))[((i : Int).tmod 2).toNat]? = some (.int (bif i % 2 == 0 then 5 else 6)) := by
          rw [fq0 (by omega)];rcases Nat.mod_two_eq_zero_or_one i with h | h
          · rw [show ((i : Int) % 2).toNat = 0 from by omega, h]; rfl
          · rw [show ((i : Int) % 2).toNat = 1 from by omega, h]; rfl
        have hmn : 0 ≤ (i : Int).tmod 2 := Int.tmod_nonneg _ (by omega);have hmx : (i : Int).tmod 2 ≤ 2 := by have := Int.tmod_lt_of_pos (i : Int) (show (0 : Int) < 2 by omega); omega
        have hkd := bz4 i;have hst : br8 i (V.mk k n d s r) = (k == (bif i % 2 == 0 then 5 else 6) && br7 (V.mk k n d s r)) := rfl;generalize (bif i % 2 == 0 then (5 : Int) else 6) = kd at *;rw [ok, bz3 hx0];simp only [br9, hst]
        cases hkk : k != kd with
        | true =>
          have : (k == kd) = false := by simpa using hkk
          rw [this]
          repeat' (first | refine yz ?_ | refine yi (enc _) hx ?_ | refine yi (.int kd) hm ?_ | refine yx ?_ | exact zD)
        | false =>
          have hk : k = kd := by simpa using hkk
          have hf := bz2 hix k n d s r 0 (by omega) (by omega)
          cases hfl : br7 (V.mk k n d s r) with
          | true =>
            rw [hfl] at hf
            repeat' (first | refine yz ?_ | refine yi (enc _) hx ?_ | refine yi (.int kd) hm ?_ | refine yp bu6 hf ?_ | refine yx ?_)
            refine ac1 ?_;refine ⟨⟨i + 1, by omega, ?_⟩, by dsimp only; omega, (zle 0)⟩;rw [ok, bz3 hx0];simp only [br9];rw [hst, hfl, hk];simp
          | false =>
            rw [hfl] at hf
            repeat' (first | refine yz ?_ | refine yi (enc _) hx ?_ | refine yi (.int kd) hm ?_ | refine yp bu6 hf ?_ | refine yx ?_)
            simp
      · have hd : decide ((i : Int) < ((bp7 l).length : Int)) = false := by rw [hlen]; simp; omega
        have : l.drop i = [] := fl9 hge;rw [ok, this]
        repeat' (first | refine yz ?_ | exact zD)
    · have hd : decide (((bp7 l).length : Int) > 25) = true := by rw [hlen]; simp; omega
      have key : bs0 l = false := by unfold bs0; simp [h25]
      rw [key];refine ye1 func255 ntmps255 fun _ _ _=>?_
      repeat' (first | refine yz ?_ | refine yx ?_ | exact zD)
theorem bz6 (l : List V) : Ev E 132 [.sl (bp7 l)] (.d (.bool (bs0 l))) := Ev.fit fun hfit => by
  obtain ⟨hmax, -⟩ := bq5 (hfit (.sl (bp7 l)) (by simp));have hlen : (bp7 l).length = l.length := bq3 l
  have hmod : ((l.length : Int).tmod 2 == 0) = (l.length % 2 == 0) := by
    rw [fq0 (by omega)]
    cases h : l.length % 2 == 0 with
    | true => simp at h ⊢; omega
    | false => simp at h ⊢; omega
  cases h2 : l.length % 2 == 0 with
  | true =>
    have key : bs0 l = false := by unfold bs0; have : (l.length % 2 == 1) = false := by simp at h2 ⊢; omega
                                   rw [this]; rfl
    rw [h2] at hmod;rw [← hlen] at hmod;refine ye1 func132 ntmps132 fun _ _ _=>?_
    repeat' (first | refine yz ?_ | refine yx ?_)
    rw [key]
  | false =>
    rw [h2] at hmod;rw [← hlen] at hmod;have h21 : (l.length % 2 == 1) = true := by simp at h2 ⊢; omega
    by_cases h25 : l.length ≤ 25
    · have hd : decide (((bp7 l).length : Int) > 25) = false := by rw [hlen]; simp; omega
      have hokp : bs0 l = br9 0 l := by unfold bs0; rw [h21]; simp [h25]
      rw [hokp];refine ye1 func132 ntmps132 fun _ _ _=>?_
      repeat' (first | refine yz ?_ | refine yx ?_)
      refine ac7 (α := SP l) (fun p => ⟨[(0, .d (.sl (bp7 l))), (3, .d (.int p.i))], []⟩) (fun p => l.length - p.i) ⟨0, by omega, rfl⟩ (zle 0) ?_;rintro ⟨i, hi, ok⟩;dsimp only;rcases fk1 i l.length with hlt | hge
      · have hd : decide ((i : Int) < ((bp7 l).length : Int)) = true := by rw [hlen]; simpa using hlt
        have hx0 := fk0 hlt;obtain ⟨k, n, d, s, r, hv⟩ : ∃ k n d s r, l[i] = V.mk k n d s r := ⟨_, _, _, _, _, (V.eta _).symm⟩;rw [hv] at hx0;have hx : (bp7 l)[(i : Int).toNat]? = some (enc (V.mk k n d s r)) := bq1 (by rw [fl0]; exact hx0);have hst : br8 i (V.mk k n d s r) = (k == (bif i % 2 == 0 then 5 else 6) && br7 (V.mk k n d s r)) := rfl;rw [ok, bz3 hx0];simp only [br9, hst]
        have hodd : ((i : Int).tmod 2 == 1) = (i % 2 == 1) := by
          rw [fq0 (by omega)]
          cases h : i % 2 == 1 with
          | true => simp at h ⊢; omega
          | false => simp at h ⊢; omega
        rcases Nat.mod_two_eq_zero_or_one i with he | he
        · have hkd : (bif i % 2 == 0 then (5 : Int) else 6) = 5 := by simp [he]
          rw [he] at hodd;have hodd' : ((i : Int).tmod 2 == 1) = false := hodd;rw [hkd] at hst;rw [hkd]
          cases hkk : k != 5 with
          | true =>
            have : (k == 5) = false := by simpa using hkk
            rw [this]
            repeat' (first | refine yz ?_ | refine yi (enc _) hx ?_ | refine yx ?_ | exact zD)
          | false =>
            have hk : k = 5 := by simpa using hkk
            have hf := by9 k n d s r 0 (by omega) (by omega)
            cases hfl : br7 (V.mk k n d s r) with
            | true =>
              rw [hfl] at hf
              repeat' (first | refine yz ?_ | refine yi (enc _) hx ?_ | refine yp b78 hf ?_ | refine yx ?_)
              refine ac1 ?_;refine ⟨⟨i + 1, by omega, ?_⟩, by dsimp only; omega, (zle 0)⟩;rw [ok, bz3 hx0];simp only [br9];rw [hst, hfl, hk];simp
            | false =>
              rw [hfl] at hf
              repeat' (first | refine yz ?_ | refine yi (enc _) hx ?_ | refine yp b78 hf ?_ | refine yx ?_)
              simp
        · have hkd : (bif i % 2 == 0 then (5 : Int) else 6) = 6 := by simp [he]
          rw [he] at hodd;have hodd' : ((i : Int).tmod 2 == 1) = true := hodd;rw [hkd] at hst;rw [hkd]
          cases hkk : k != 6 with
          | true =>
            have : (k == 6) = false := by simpa using hkk
            rw [this]
            repeat' (first | refine yz ?_ | refine yi (enc _) hx ?_ | refine yx ?_ | exact zD)
          | false =>
            have hk : k = 6 := by simpa using hkk
            have hf := by9 k n d s r 0 (by omega) (by omega)
            cases hfl : br7 (V.mk k n d s r) with
            | true =>
              rw [hfl] at hf
              repeat' (first | refine yz ?_ | refine yi (enc _) hx ?_ | refine yp b78 hf ?_ | refine yx ?_)
              refine ac1 ?_;refine ⟨⟨i + 1, by omega, ?_⟩, by dsimp only; omega, (zle 0)⟩;rw [ok, bz3 hx0];simp only [br9];rw [hst, hfl, hk];simp
            | false =>
              rw [hfl] at hf
              repeat' (first | refine yz ?_ | refine yi (enc _) hx ?_ | refine yp b78 hf ?_ | refine yx ?_)
              simp
      · have hd : decide ((i : Int) < ((bp7 l).length : Int)) = false := by rw [hlen]; simp; omega
        have : l.drop i = [] := fl9 hge;rw [ok, this]
        repeat' (first | refine yz ?_ | exact zD)
    · have hd : decide (((bp7 l).length : Int) > 25) = true := by rw [hlen]; simp; omega
      have key : bs0 l = false := by unfold bs0; simp [h25]
      rw [key];refine ye1 func132 ntmps132 fun _ _ _=>?_
      repeat' (first | refine yz ?_ | refine yx ?_ | exact zD)
theorem bz7 (k n d : Int) (s : ByteArray) (l : List V) (h : k = 7 ∨ k = 8) : br7 (.mk k n d s l) = false := by
 rcases h with h | h <;> subst h <;> simp [br7, V.k]
theorem bz8 (m : Nat) (k n d : Int) (s : ByteArray) (l : List V) (h7 : k ≠ 7) (h8 : k ≠ 8) : okN m (.mk k n d s l) = br7 (.mk k n d s l) := by
 have e7 : (k == 7) = false := by simpa
 have e8 : (k == 8) = false := by simpa
 cases m <;> simp [okN, V.k, e7, e8]
theorem bz9 (m : Nat) (n d : Int) (s : ByteArray) (l : List V) : okN m (.mk 7 n d s l) = ((d == 0 && s0 s) && (n == 0 && bs0 l)) := by
 cases m <;> simp [okN, V.k, V.n, V.d, V.s, V.l, bz7 7 n d s l (.inl rfl)]
theorem ca0 (n d : Int) (s : ByteArray) (l : List V) : okN 0 (.mk 8 n d s l) = false := by
 simp [okN, V.k, bz7 8 n d s l (.inr rfl)]
theorem ca1 (m : Nat) (n d : Int) (s : ByteArray) (l : List V) : okN (m + 1) (.mk 8 n d s l) = ((d == 0 && s0 s) && ((n == 0 && decide (l.length ≤ 64)) && l.all (okN m))) := by
 simp [okN, V.k, V.n, V.d, V.s, V.l, bz7 8 n d s l (.inr rfl), Bool.and_assoc]
 try rfl
structure SA (p : V → Bool) (l : List V) where
 i : Nat
 hi : i ≤ l.length
 ok : l.all p = (l.drop i).all p
theorem ca2 (m : Nat) (hm : m ≤ 8) (ih : ∀ v : V, Ev E 78 [enc v, .int (m : Int)] (.d (.bool (okN m v)))) (l : List V) :
  Ev E 133 [.sl (bp7 l), .int ((m + 1 : Nat) : Int)] (.d (.bool (decide (l.length ≤ 64) && l.all (okN m)))) := Ev.fit fun hfit => by
 obtain ⟨hmax, -⟩ := bq5 (hfit (.sl (bp7 l)) (by simp));have hlen : (bp7 l).length = l.length := bq3 l;have hn : decide (((m + 1 : Nat) : Int) < 1) = false := by simp; omega
 have hn1 : ((m + 1 : Nat) : Int) - 1 = (m : Int) := by omega
 by_cases h64 : l.length ≤ 64
 ·have hd : decide (((bp7 l).length : Int) > 64) = false := by rw [hlen]; simp; omega
  rw [show decide (l.length ≤ 64) = true by simpa using h64, fm3];refine ye2 func133 ntmps133 fun _ _ _=>?_
  repeat' (refine yz ?_)
  refine ac7 (α := SA (okN m) l) (fun p => ⟨[(0, .d (.sl (bp7 l))), (1, .d (.int ((m + 1 : Nat) : Int))), (5, .d (.int p.i))], []⟩) (fun p => l.length - p.i) ⟨0, by omega, rfl⟩ (zle 0) ?_;rintro ⟨i, hi, ok⟩;dsimp only;rcases fk1 i l.length with hlt | hge
  ·have hd : decide ((i : Int) < ((bp7 l).length : Int)) = true := by rw [hlen]; simpa using hlt
   have hx0 := fk0 hlt;generalize l[i] = v at hx0;have hx : (bp7 l)[(i : Int).toNat]? = some (enc v) := bq1 (by rw [fl0]; exact hx0);have hv := ih v;rw [← hn1] at hv;rw [ok, bz3 hx0, fn7]
   cases hvv : okN m v with
   | true =>
    rw [hvv] at hv
    repeat' (first | refine yz ?_ | refine yi (enc _) hx ?_ | refine yp b78 hv ?_)
    refine ac1 ?_;refine ⟨⟨i + 1, by omega, by rw [ok, bz3 hx0, fn7, hvv, fm3]⟩, by dsimp only; omega, (zle 0)⟩
   | false =>
    rw [hvv] at hv
    repeat' (first | refine yz ?_ | refine yi (enc _) hx ?_ | refine yp b78 hv ?_ | exact zD)
  ·have hd : decide ((i : Int) < ((bp7 l).length : Int)) = false := by rw [hlen]; simp; omega
   have : l.drop i = [] := fl9 hge;rw [ok, this]
   repeat' (first | refine yz ?_ | exact zD)
 ·have hd : decide (((bp7 l).length : Int) > 64) = true := by rw [hlen]; simp; omega
  rw [show decide (l.length ≤ 64) = false by simpa using h64, fn3];refine ye2 func133 ntmps133 fun _ _ _=>?_
  repeat' (first | refine yz ?_ | exact zD)
theorem ca3 (l : List V) : Ev E 133 [.sl (bp7 l), .int 0] (.d (.bool false)) := by
 refine ye2 func133 ntmps133 fun _ _ _=>?_
 repeat' (first | refine yz ?_ | exact zD)
theorem ca4 (m : Nat) : m ≤ 8 → ∀ v : V, Ev E 78 [enc v, .int (m : Int)] (.d (.bool (okN m v))) := by
 induction m with
 | zero =>
  rintro - ⟨k, n, d, s, l⟩
  by_cases h7 : k = 7
  ·subst h7;rw [bz9];refine ye2 func78 ntmps78 fun _ _ _=>?_
   repeat' (first | refine yz ?_ | refine yp bt5 (by6 (.mk 7 n d s l) _ _ _ _) ?_ | refine yp b132 (bz6 l) ?_ | (refine yy ?_ ?_ <;> intro _))
   all_goals (refine congrArg D.bool ?_; simp_all [by5, V.k, V.n, V.d, V.s, V.l] <;> first | ac_rfl | (intros; simp_all; done))
  by_cases h8 : k = 8
  ·subst h8;rw [ca0];refine ye2 func78 ntmps78 fun _ _ _=>?_
   repeat' (first | refine yz ?_ | refine yp bt5 (by6 (.mk 8 n d s l) _ _ _ _) ?_ | refine yp b133 (ca3 l) ?_ | (refine yy ?_ ?_ <;> intro _) | exact zD)
  rw [bz8 _ _ _ _ _ _ h7 h8];exact by9 k n d s l _ h7 h8
 | succ m ih =>
  rintro hm ⟨k, n, d, s, l⟩;have ih := ih (by omega)
  by_cases h7 : k = 7
  ·subst h7;rw [bz9];refine ye2 func78 ntmps78 fun _ _ _=>?_
   repeat' (first | refine yz ?_ | refine yp bt5 (by6 (.mk 7 n d s l) _ _ _ _) ?_ | refine yp b132 (bz6 l) ?_ | (refine yy ?_ ?_ <;> intro _))
   all_goals (refine congrArg D.bool ?_; simp_all [by5, V.k, V.n, V.d, V.s, V.l] <;> first | ac_rfl | (intros; simp_all; done))
  by_cases h8 : k = 8
  ·subst h8;rw [ca1];have hl := ca2 m (by omega) ih l;refine ye2 func78 ntmps78 fun _ _ _=>?_
   repeat' (first | refine yz ?_ | refine yp bt5 (by6 (.mk 8 n d s l) _ _ _ _) ?_ | refine yp b133 hl ?_ | (refine yy ?_ ?_ <;> intro _))
   all_goals (refine congrArg D.bool ?_; clear hl ih; simp_all [by5, V.k, V.n, V.d, V.s, V.l] <;> first | ac_rfl | (intros; simp_all; done))
  rw [bz8 _ _ _ _ _ _ h7 h8];exact by9 k n d s l _ h7 h8
theorem ca5 (hix : bz0) (m : Nat) : m ≤ 8 → ∀ v : V, Ev E 192 [enc v, .int (8 - (m : Int))] (.d (.bool (okN m v))) := by
 induction m with
 | zero =>
  rintro - ⟨k, n, d, s, l⟩
  by_cases h7 : k = 7
  ·subst h7;rw [bz9];refine ye2 func192 ntmps192 fun _ _ _=>?_
   repeat' (first | refine yz ?_ | refine yp b255 (bz5 hix l) ?_ | (refine yy ?_ ?_ <;> intro _))
   all_goals (refine congrArg D.bool ?_; clear hix; simp_all [s0, V.k, V.n, V.d, V.s, V.l] <;> first | ac_rfl | (intros; simp_all; done))
  by_cases h8 : k = 8
  ·subst h8;rw [ca0];refine ye2 func192 ntmps192 fun _ _ _=>?_
   repeat' (first | refine yz ?_ | (refine yy ?_ ?_ <;> intro _) | exact zD)
  rw [bz8 _ _ _ _ _ _ h7 h8];exact bz2 hix k n d s l _ h7 h8
 | succ m ih =>
  rintro hm ⟨k, n, d, s, l⟩;have ih := ih (by omega)
  by_cases h7 : k = 7
  ·subst h7;rw [bz9];refine ye2 func192 ntmps192 fun _ _ _=>?_
   repeat' (first | refine yz ?_ | refine yp b255 (bz5 hix l) ?_ | (refine yy ?_ ?_ <;> intro _))
   all_goals (refine congrArg D.bool ?_; clear hix ih; simp_all [s0, V.k, V.n, V.d, V.s, V.l] <;> first | ac_rfl | (intros; simp_all; done))
  by_cases h8 : k = 8
  ·subst h8;rw [ca1];refine Ev.fit fun hfit => ?_
   obtain ⟨-, -, -, -, hmax, -⟩ := bq4 (hfit (enc (.mk 8 n d s l)) (by simp));simp only [V.l] at hmax;have hk : kids (.mk 8 n d s l) = bp7 l := by simp [kids]
   have hlen : (kids (.mk 8 n d s l)).length = l.length := by rw [bq2]; rfl
   have hn1 : 8 - ((m + 1 : Nat) : Int) + 1 = 8 - (m : Int) := by omega
   have hn8 : decide (8 - ((m + 1 : Nat) : Int) ≥ 8) = false := by simp; omega
   cases hd0 : d == 0 with
   | false =>
    have hdn : (d != 0) = true := by simpa using hd0
    rw [fn3, fn3];refine ye2 func192 ntmps192 fun _ _ _=>?_
    repeat' (first | refine yz ?_ | refine yx ?_ | exact zD)
   | true =>
   have hdn : (d != 0) = false := by simpa using hd0
   cases hs0 : s0 s with
   | false =>
    have hsn : (!(s.toList == (⟨#[]⟩ : ByteArray).toList)) = true := by rw [show (s.toList == (⟨#[]⟩ : ByteArray).toList) = false from hs0]; rfl
    rw [fp8, fn3];refine ye2 func192 ntmps192 fun _ _ _=>?_
    repeat' (first | refine yz ?_ | refine yx ?_ | exact zD)
   | true =>
   have hsn : (!(s.toList == (⟨#[]⟩ : ByteArray).toList)) = false := by rw [show (s.toList == (⟨#[]⟩ : ByteArray).toList) = true from hs0]; rfl
   cases hnn : n == 0 with
   | false =>
    have hnn' : (n != 0) = true := by simpa using hnn
    simp only [fn3, fp8];refine ye2 func192 ntmps192 fun _ _ _=>?_
    repeat' (first | refine yz ?_ | refine yx ?_ | exact zD)
   | true =>
   have hnn' : (n != 0) = false := by simpa using hnn
   by_cases h64 : l.length ≤ 64
   ·have hd : decide (((kids (.mk 8 n d s l)).length : Int) > 64) = false := by rw [hlen]; simp; omega
    rw [show decide (l.length ≤ 64) = true by simpa using h64];simp only [fm3];refine ye2 func192 ntmps192 fun _ _ _=>?_
    repeat' (first | refine yz ?_ | refine yx ?_)
    refine ac7 (α := SA (okN m) l) (fun p => ⟨[(1, .d (.int (8 - ((m + 1 : Nat) : Int)))), (120, .d (.sl (kids (.mk 8 n d s l)))), (121, .d (.int (kids (.mk 8 n d s l)).length)), (122, .d (.int p.i))], []⟩) (fun p => l.length - p.i) ⟨0, by omega, rfl⟩ (zle 0) ?_;rintro ⟨i, hi, ok⟩;dsimp only;rcases fk1 i l.length with hlt | hge
    ·have hd : decide ((i : Int) < ((kids (.mk 8 n d s l)).length : Int)) = true := by rw [hlen]; simpa using hlt
     have hx0 := fk0 hlt;generalize l[i] = v at hx0;have hx : (kids (.mk 8 n d s l))[(i : Int).toNat]? = some (enc v) := by rw [hk]; exact bq1 (by rw [fl0]; exact hx0)
     have hv := ih v;rw [← hn1] at hv;rw [ok, bz3 hx0, fn7]
     cases hvv : okN m v with
     | true =>
      rw [hvv] at hv
      repeat' (first | refine yz ?_ | refine yi (enc _) hx ?_ | refine yp bu6 hv ?_)
      refine ac1 ?_;refine ⟨⟨i + 1, by omega, by rw [ok, bz3 hx0, fn7, hvv, fm3]⟩, by dsimp only; omega, (zle 0)⟩
     | false =>
      rw [hvv] at hv
      repeat' (first | refine yz ?_ | refine yi (enc _) hx ?_ | refine yp bu6 hv ?_ | exact zD)
    ·have hd : decide ((i : Int) < ((kids (.mk 8 n d s l)).length : Int)) = false := by rw [hlen]; simp; omega
     have : l.drop i = [] := fl9 hge;rw [ok, this]
     repeat' (first | refine yz ?_ | exact zD)
   ·have hd : decide (((kids (.mk 8 n d s l)).length : Int) > 64) = true := by rw [hlen]; simp; omega
    rw [show decide (l.length ≤ 64) = false by simpa using h64];simp only [fn3, fp8];refine ye2 func192 ntmps192 fun _ _ _=>?_
    repeat' (first | refine yz ?_ | refine yx ?_ | exact zD)
  rw [bz8 _ _ _ _ _ _ h7 h8];exact bz2 hix k n d s l _ h7 h8
theorem ca6 (hix : bz0) (v : V) : Ev E 140 [enc v] (.d (.bool (okV v))) := by
 have h := ca5 hix 8 (by omega) v;refine ye1 func140 ntmps140 fun _ _ _=>?_
 repeat' (first | refine yz ?_ | refine yp bu6 h ?_ | refine yx ?_ | (refine yy ?_ ?_ <;> intro _) | exact zD | exact zL)
theorem ca7 (v : V) : Ev E 38 [enc v] (.d (.bool (okV v))) := by
 have h := ca4 8 (by omega) v;refine ye1 func38 ntmps38 fun _ _ _=>?_
 repeat' (first | refine yz ?_ | refine yp b78 h ?_ | refine yx ?_ | (refine yy ?_ ?_ <;> intro _) | exact zD | exact zL)
theorem ca8 (hix : bz0) (v : V) : Ev E 145 [enc v] (.tup [.agg [.int (bs3 v), .int (bs4 v)], .bool (bs2 v)]) := by
 have h := ca6 hix v
 cases h2 : v.k == 2 with
 | true =>
  cases hv : okV v with
  | true =>
   rw [hv] at h;refine ye1 func145 ntmps145 fun _ _ _=>?_
   repeat' (first | refine yz ?_ | refine yp bt7 h ?_ | refine yx ?_ | (refine yy ?_ ?_ <;> intro _) | exact zD | exact zL)
   simp [bs3, bs4, bs2, h2, hv, ag5, D.cells]
  | false =>
   rw [hv] at h;have h3 : (v.k == 3) = false := by simp at h2 ⊢; omega
   refine ye1 func145 ntmps145 fun _ _ _=>?_
   repeat' (first | refine yz ?_ | refine yp bt7 h ?_ | refine yx ?_ | (refine yy ?_ ?_ <;> intro _) | exact zD | exact zL)
   simp [bs3, bs4, bs2, h2, hv]
 | false =>
  cases h3 : v.k == 3 with
  | true =>
   cases hv : okV v with
   | true =>
    rw [hv] at h;refine ye1 func145 ntmps145 fun _ _ _=>?_
    repeat' (first | refine yz ?_ | refine yp bt7 h ?_ | refine yx ?_ | (refine yy ?_ ?_ <;> intro _) | exact zD | exact zL)
    simp [bs3, bs4, bs2, h2, h3, hv, ag5, D.cells]
   | false =>
    rw [hv] at h;refine ye1 func145 ntmps145 fun _ _ _=>?_
    repeat' (first | refine yz ?_ | refine yp bt7 h ?_ | refine yx ?_ | (refine yy ?_ ?_ <;> intro _) | exact zD | exact zL)
    simp [bs3, bs4, bs2, h2, hv]
  | false =>
   refine ye1 func145 ntmps145 fun _ _ _=>?_
   repeat' (first | refine yz ?_ | refine yp bt7 h ?_ | refine yx ?_ | (refine yy ?_ ?_ <;> intro _) | exact zD | exact zL)
   simp [bs3, bs4, bs2, h2, h3]
theorem ca9 (v : V) : Ev E 43 [enc v] (.tup [.agg [.int (bs3 v), .int (bs4 v)], .bool (bs2 v)]) := by
 have h := ca7 v
 cases hv : okV v with
 | false =>
  rw [hv] at h;refine ye1 func43 ntmps43 fun _ _ _=>?_
  repeat' (first | refine yz ?_ | refine yp b38 h ?_ | refine yx ?_ | (refine yy ?_ ?_ <;> intro _) | exact zD | exact zL)
  simp [bs3, bs4, bs2, hv]
 | true =>
  rw [hv] at h
  cases h2 : v.k == 2 with
  | true =>
   refine ye1 func43 ntmps43 fun _ _ _=>?_
   repeat' (first | refine yz ?_ | refine yp b38 h ?_ | refine yx ?_ | (refine yy ?_ ?_ <;> intro _) | exact zD | exact zL)
   simp [bs3, bs4, bs2, h2, hv, ag5, D.cells]
  | false =>
   cases h3 : v.k == 3 with
   | true =>
    refine ye1 func43 ntmps43 fun _ _ _=>?_
    repeat' (first | refine yz ?_ | refine yp b38 h ?_ | refine yx ?_ | (refine yy ?_ ?_ <;> intro _) | exact zD | exact zL)
    simp [bs3, bs4, bs2, h2, h3, hv, ag5, D.cells]
   | false =>
    refine ye1 func43 ntmps43 fun _ _ _=>?_
    repeat' (first | refine yz ?_ | refine yp b38 h ?_ | refine yx ?_ | (refine yy ?_ ?_ <;> intro _) | exact zD | exact zL)
    simp [bs3, bs4, bs2, h2, h3]
theorem cb0 (hix : bz0) (v : V) : Ev E 210 [enc v] (.d (.int (bs5 v))) := by
 have h := ca6 hix v
 cases h1 : v.k == 1 with
 | false =>
  have h1' : (v.k != 1) = true := by simpa using h1
  refine ye1 func210 ntmps210 fun _ _ _=>?_
  repeat' (first | refine yz ?_ | refine yp bt7 h ?_ | refine yx ?_ | (refine yy ?_ ?_ <;> intro _) | exact zD | exact zL)
  simp [bs5, h1]
 | true =>
  have h1' : (v.k != 1) = false := by simpa using h1
  cases hv : okV v with
  | false =>
   rw [hv] at h;refine ye1 func210 ntmps210 fun _ _ _=>?_
   repeat' (first | refine yz ?_ | refine yp bt7 h ?_ | refine yx ?_ | (refine yy ?_ ?_ <;> intro _) | exact zD | exact zL)
   simp [bs5, h1, hv]
  | true =>
   rw [hv] at h;refine ye1 func210 ntmps210 fun _ _ _=>?_
   repeat' (first | refine yz ?_ | refine yp bt7 h ?_ | refine yp bv6 (by1 _) ?_ | refine yx ?_ | (refine yy ?_ ?_ <;> intro _) | exact zD | exact zL)
   simp [bs5, h1, hv]
end Go.Proofs.YtaiiailapeffgaaGreatDoor
namespace Go.Proofs.YtaiiailapeffgaaGreatDoor
set_option maxRecDepth 4000
open Go Go.Abs Go.Val Go.RowKit Go.Proofs.Tryz
theorem cb1 {f : FuncId} {ds : List D} {r : Value} (hok : Go.Abs.okV r = true) (h : ∀ (w : World) (F : Nat → Prop) (vs : List Value), E.GI w F → vs.length = ds.length → (∀ (i : Nat) d v, ds[i]? = some d → vs[i]? = some v → Rd w F d v) →
  Calls E.P f vs.toArray w fun e w' => e = .returned r ∧ Below w.heap.size w w') : Ev E f ds (.d (.imm r)) := by
 intro w F vs hF hG hl hr;refine (h w F vs hG hl hr).mono ?_;rintro e w' ⟨rfl, hb⟩;exact ⟨r, F, rfl, Ext.of_below hb hF, .imm r hok⟩
theorem cb2 {f : FuncId} {a r : Value} (hok : Go.Abs.okV r = true) (h : ∀ (w : World) (F : Nat → Prop), E.GI w F → Go.Abs.okV a = true → Calls E.P f #[a] w fun e w' => e = .returned r ∧ Below w.heap.size w w') : Ev E f [.imm a] (.d (.imm r)) := by
 refine cb1 hok fun w F vs hG hl hr => ?_
 match vs, hl with
 | [v], _ =>
  obtain ⟨rfl, hk⟩ := Rd.imm_inv (hr 0 _ v rfl rfl);exact h w F hG hk
theorem cb3 {f : FuncId} {a b r : Value} (hok : Go.Abs.okV r = true) (h : ∀ (w : World) (F : Nat → Prop), E.GI w F → Go.Abs.okV a = true → Go.Abs.okV b = true → Calls E.P f #[a, b] w fun e w' => e = .returned r ∧ Below w.heap.size w w') : Ev E f [.imm a, .imm b] (.d (.imm r)) := by
 refine cb1 hok fun w F vs hG hl hr => ?_
 match vs, hl with
 | [v, u], _ =>
  obtain ⟨rfl, hk⟩ := Rd.imm_inv (hr 0 _ v rfl rfl);obtain ⟨rfl, hk'⟩ := Rd.imm_inv (hr 1 _ u rfl rfl);exact h w F hG hk hk'
theorem cb4 (n : Int) : Ev E 196 [.int n] (.d (.str ⟨(Lib.itoa n).toArray⟩)) := Ev.fit fun hfit => by
 have hn := (hfit (.int n) (by simp)).int;simp only [inR] at hn;have hlen := Lib.itoa_length_le n hn.1 hn.2;refine cb2 (by simp only [Go.Abs.okV, decide_eq_true_eq]; show (Lib.itoa n).toArray.size ≤ 9223372036854775807; simp only [fs1]; omega) fun w F hG _ => ?_
 refine (Tryz.strconv_Itoa n hn.1 hn.2 w hG.2.1.2).mono ?_;rintro e w' ⟨rfl, k, os, rfl⟩;exact ⟨rfl, Lib.below_grow _ w (fk9 _) k os⟩
theorem cb5 (b : Bool) : Ev E 195 [.bool b] (.d (.str ⟨(Lib.formatBool b).toArray⟩)) := by
 refine cb2 (by cases b <;> decide) fun w F _ _ => ?_
 refine (Tryz.strconv_FormatBool b w).mono ?_;rintro e w' ⟨rfl, rfl⟩;exact ⟨rfl, Below.refl _ _⟩
open Go.Shelf
def cb6 (r : Nat) : Bool := decide (r < 32) || decide (r > 126)
theorem cb7 (s : ByteArray) (i : Nat) (b : UInt8) (hb : s.get! i = b) : (b.toNat < 128 → Utf8.decode s i = (b.toNat, 1)) ∧ (128 ≤ b.toNat → 128 ≤ (Utf8.decode s i).1) := by
 have h0 : (s.get! (i + 0)).toNat = b.toNat := by rw [fn6, hb]
 constructor
 ·intro h;unfold Utf8.decode;simp only [h0];rw [if_pos h]
 ·intro h;unfold Utf8.decode;simp only [h0, Utf8.runeError];rw [if_neg (by omega)];split
  ·split <;> simp only [] <;> omega
  ·split
   ·split
    ·rename_i h1 h2; simp only [fk3, decide_eq_true_eq] at h2; simp only []; omega
    ·simp only []; omega
   ·split
    ·split
     ·rename_i h1 h2; simp only [fk3, decide_eq_true_eq] at h2; simp only []; omega
     ·simp only []; omega
    ·simp only []; omega
theorem cb8 {s : ByteArray} {i : Nat} {b : UInt8} (h : s.data.toList[i]? = some b) : s.get! i = b := by
 have hl : i < s.data.size := by simpa using (fk2.1 h).1
 have : s.data.toList[i]? = some s.data[i] := by simp [hl]
 rw [this] at h
 cases h
 cases s
 simp only [ByteArray.get!];simp [hl]
theorem cb9 (s : ByteArray) : ∀ (f pos : Nat), s.size ≤ pos + f → (decide (Lib.idxFuncFrom cb6 true s f pos < 0)) = (s.data.toList.drop pos).all fun b => !(decide (b.toNat < 32) || decide (b.toNat > 126))
 | 0, pos, h => by
  have hlen : s.data.toList.length = s.size := by simp
  have : s.data.toList.drop pos = [] := fl9 (by omega);rw [this];simp [Lib.idxFuncFrom]
 | f + 1, pos, h => by
  have hlen : s.data.toList.length = s.size := by simp
  unfold Lib.idxFuncFrom
  by_cases hp : pos < s.size
  ·rw [if_pos hp];have hx := fk0 (show pos < s.data.toList.length by omega);generalize s.data.toList[pos] = b at hx;rw [bz3 hx, fn7];obtain ⟨d1, d2⟩ := cb7 s pos b (cb8 hx)
   by_cases hb : b.toNat < 128
   ·rw [d1 hb];simp only []
    cases hbad : cb6 b.toNat with
    | true =>
     rw [if_pos rfl];have : (!(decide (b.toNat < 32) || decide (b.toNat > 126))) = false := by unfold cb6 at hbad; rw [hbad]; rfl
     rw [this, fn3];simp
    | false =>
     rw [if_neg (by simp), cb9 s f (pos + 1) (by omega)];have : (!(decide (b.toNat < 32) || decide (b.toNat > 126))) = true := by unfold cb6 at hbad; rw [hbad]; rfl
     rw [this, fm3]
   ·have h128 := d2 (by omega);have hbad : cb6 (Utf8.decode s pos).1 = true := by unfold cb6; simp; omega
    rw [hbad, if_pos rfl];have : (!(decide (b.toNat < 32) || decide (b.toNat > 126))) = false := by simp; omega
    rw [this, fn3];simp
  ·rw [if_neg hp];have : s.data.toList.drop pos = [] := fl9 (by omega);rw [this];simp
theorem cc0 (w : World) : PredAt Tryz.prog 254 #[] encR cb6 w := fun W r _ => by
 unfold FnGives
 by_cases h1 : r < 32 <;> by_cases h2 : r > 126
 all_goals
  have z1 : (r : Int) < 32 ↔ r < 32 := by omega
  have z2 : (126 : Int) < (r : Int) ↔ r > 126 := by omega
  go_enter func254, ntmps254
  go_wp2
  all_goals first | (exfalso; omega) | (go_ret; exact ⟨by simp [cb6, h1, h2], 0, rfl⟩)
theorem cc1 : bz0 := by
 intro s;refine ⟨Lib.idxFunc cb6 true s, ?_, ?_⟩
 ·refine Ev.fit fun hfit => ?_
  have hs := (hfit (.str s) (by simp)).str;refine cb3 (af2 (k := .i64) ?_) fun w F _ _ _ => ?_
  ·unfold Lib.idxFunc;rcases Lib.idxFuncFrom_range cb6 true s s.size 0 with h | h <;> simp only [inR] <;> omega
  ·refine (Tryz.strings_IndexFunc 254 #[] Tryz.call254 cb6 s w (cc0 w)).mono ?_;rintro e w' ⟨rfl, hb⟩;exact ⟨rfl, hb⟩
 ·unfold Lib.idxFunc;rw [cb9 s s.size 0 (by omega), fq4]
end Go.Proofs.YtaiiailapeffgaaGreatDoor
namespace Go.Proofs.YtaiiailapeffgaaGreatDoor
set_option maxRecDepth 4000
open Go Go.Abs Go.Val Go.Proofs.Tryz
attribute [local irreducible] go SGo an2 Ev
theorem cc2 {P : V → Prop} (h : ∀ (k n d : Int) (s : ByteArray) (l : List V), (∀ x ∈ l, P x) → P (.mk k n d s l)) (v : V) : P v :=
 V.rec (motive_1 := P) (motive_2 := fun l => ∀ x ∈ l, P x) (fun k n d s l ih => h k n d s l ih) (fun x hx => by simp at hx)
  (fun a r ha hr x hx => by
   rcases fl1.1 hx with e | e
   ·rw [e]; exact ha
   ·exact hr x e) v
end Go.Proofs.YtaiiailapeffgaaGreatDoor
