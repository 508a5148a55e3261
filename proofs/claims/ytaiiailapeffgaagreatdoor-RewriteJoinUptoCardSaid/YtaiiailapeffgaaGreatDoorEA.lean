/- The values of expressions: what both texts compute; the program's operators and look-ups; The program's evaluator: what its methods answer; The program's evaluation of expressions; The program's apply, some operators; The program's apply, some operators; The program's apply, some operators; The program's apply, some operators; The program's evaluation of expressions. Conditions: each part's own, as it says. -/
import Derived.Test.YtaiiailapeffgaaGreatDoorMD
import Derived.Test.YtaiiailapeffgaaGreatDoorMC
import Derived.Test.YtaiiailapeffgaaGreatDoorGC
set_option linter.unusedVariables false
set_option linter.unusedSimpArgs false
namespace Go.Proofs.YtaiiailapeffgaaGreatDoor
set_option maxRecDepth 4000
open Go Go.Abs Go.Val Go.RowKit Go.Proofs.Tryz
attribute [local irreducible] go SGo an2 Ev aw0 EvO EvS binOp RGo
def atmF (l q : Int) : Int := bif l == 2 || q == 2 then 2 else bif l == 0 && q == 0 then 0 else 1
theorem dl4 (l q : Int) : Ev E 275 [.int l, .int q] (.d (.int (atmF l q))) := by
 unfold atmF
 cases h1 : l == 2 <;> cases h2 : q == 2 <;> cases h3 : l == 0 <;> cases h4 : q == 0
 all_goals
  refine ye2 func275 ntmps275 fun _ _ _=>?_
  repeat' (first | refine yz ?_ | refine yx ?_ | exact zD)
def inL (a : V) (l : List V) (t : Int) : Int := l.foldl (fun t x => max (kn t) (kn (eqF a x))) t
def dl5 (op : Int) (a b : V) : Int :=
 bif op == 12 then eqF a b else bif op == 13 then 2 - kn (eqF a b) else bif op == 14 then co5 a b else bif op == 16 then co5 b a else
 bif op == 15 then atmF (co5 a b) (eqF a b) else bif op == 17 then atmF (co5 b a) (eqF a b) else
 bif b.k != 8 then 1 else inL a b.l 0
structure SIn (a : V) (l : List V) where
 i : Nat
 t : Int
 hi : i ≤ l.length
 ok : inL a l 0 = inL a (l.drop i) t
theorem dl6 {a x : V} {l : List V} {i : Nat} {t : Int} (h : l[i]? = some x) : inL a (l.drop i) t = inL a (l.drop (i + 1)) (max (kn t) (kn (eqF a x))) := by
 rw [bz3 h]; rfl
theorem dl7 (op : Int) (a b : V) : Ev E 214 [.int op, enc a, enc b] (.d (.int (dl5 op a b))) := Ev.fit fun hfit => by
 obtain ⟨-, -, -, -, hmax, -⟩ := bq4 (v := b) (hfit _ (by simp));have e1 := co4 a b;have e2 := bx2 (eqF a b);have l1 := co6 a b;have l2 := co6 b a;have m1 := dl4 (co5 a b) (eqF a b);have m2 := dl4 (co5 b a) (eqF a b);unfold dl5
 cases c12 : op == 12 with
 | true =>
  refine ye3 func214 ntmps214 fun _ _ _=>?_
  repeat' (first | refine yz ?_ | refine yp bv7 e1 ?_ | exact zD)
 | false =>
 cases c13 : op == 13 with
 | true =>
  refine ye3 func214 ntmps214 fun _ _ _=>?_
  repeat' (first | refine yz ?_ | refine yp bv7 e1 ?_ | refine yp b209 e2 ?_ | exact zD)
 | false =>
 cases c14 : op == 14 with
 | true =>
  refine ye3 func214 ntmps214 fun _ _ _=>?_
  repeat' (first | refine yz ?_ | refine yp b274 l1 ?_ | exact zD)
 | false =>
 cases c16 : op == 16 with
 | true =>
  refine ye3 func214 ntmps214 fun _ _ _=>?_
  repeat' (first | refine yz ?_ | refine yp b274 l2 ?_ | exact zD)
 | false =>
 cases c15 : op == 15 with
 | true =>
  refine ye3 func214 ntmps214 fun _ _ _=>?_
  repeat' (first | refine yz ?_ | refine yp b274 l1 ?_ | refine yp bv7 e1 ?_ | refine yp b275 m1 ?_ | exact zD)
 | false =>
 cases c17 : op == 17 with
 | true =>
  refine ye3 func214 ntmps214 fun _ _ _=>?_
  repeat' (first | refine yz ?_ | refine yp b274 l2 ?_ | refine yp bv7 e1 ?_ | refine yp b275 m2 ?_ | exact zD)
 | false =>
 cases c8 : b.k != 8 with
 | true =>
  refine ye3 func214 ntmps214 fun _ _ _=>?_
  repeat' (first | refine yz ?_ | exact zD)
 | false =>
  have hle : (kids b).length = b.l.length := bq2 b;refine ye3 func214 ntmps214 fun _ _ _=>?_
  repeat' (refine yz ?_)
  refine ac7 (α := SIn a b.l) (fun p => ⟨[(4, .ptr 0 0), (5, .ptr 1 0), (7, .d (.int p.t)), (54, .d (.sl (kids b))), (55, .d (.int (kids b).length)), (56, .d (.int p.i))], [.var 24 (.w (.d (enc a))), .var 24 (.w (.d (enc b)))]⟩) (fun p => b.l.length - p.i) ⟨0, 0, by omega, rfl⟩ (zle 2) ?_;rintro ⟨i, t, hi, ok⟩;dsimp only;rcases fk1 i b.l.length with hlt | hge
  ·have g1 : decide ((i : Int) < ((kids b).length : Int)) = true := by rw [hle]; simpa using hlt
   have hx0 := fk0 hlt;generalize b.l[i] = x at hx0;have hx : (kids b)[(i : Int).toNat]? = some (enc x) := by rw [fl0]; exact bq0 hx0
   have q1 := co4 a x;have q2 := bx4 t (eqF a x);rw [ok, dl6 hx0]
   repeat' (first | refine yz ?_ | refine yi (enc x) hx ?_ | refine yp bv7 q1 ?_ | refine yp b212 q2 ?_)
   refine ac1 ?_;exact ⟨⟨i + 1, _, by omega, by rw [ok, dl6 hx0]⟩, by dsimp only; omega, (zle 2)⟩
  ·have g1 : decide ((i : Int) < ((kids b).length : Int)) = false := by rw [hle]; simp; omega
   rw [ok, fl9 hge];show go _ _ _ (an6 _ _ (.d (.int t)))
   repeat' (first | refine yz ?_ | exact zD)
def dl8 (b : Bool) (n d : Int) : V := bif b then br2 n d else br5
def dl9 (a b : V) : Bool := a.k == 4 && b.k == 4
def arF (op : Int) (a b : V) : V :=
 bif op == 7 && dl9 a b then br3 (a.s ++ b.s) else
 bif !(bs2 a) || !(bs2 b) then br5 else
 bif op == 7 then dl8 (ct1 (bs3 a) (bs4 a) (bs3 b) (bs4 b)) (ct2 (bs3 a) (bs4 a) (bs3 b) (bs4 b)) (ct3 (bs3 a) (bs4 a) (bs3 b) (bs4 b)) else
 bif op == 8 then dl8 (ct1 (bs3 a) (bs4 a) (0 - bs3 b) (bs4 b)) (ct2 (bs3 a) (bs4 a) (0 - bs3 b) (bs4 b)) (ct3 (bs3 a) (bs4 a) (0 - bs3 b) (bs4 b)) else
 bif op == 9 then dl8 (ct8 (bs3 a) (bs4 a) (bs3 b) (bs4 b)) (muN (bs3 a) (bs4 a) (bs3 b) (bs4 b)) (muD (bs3 a) (bs4 a) (bs3 b) (bs4 b)) else
 bif op == 10 then dl8 (cu1 (bs3 a) (bs4 a) (bs3 b) (bs4 b)) (cu2 (bs3 a) (bs4 a) (bs3 b) (bs4 b)) (cu3 (bs3 a) (bs4 a) (bs3 b) (bs4 b)) else
 bif cs8 a.n b.n && (a.k == 2 && b.k == 2) then br1 (cs9 a.n b.n) else br5
theorem dm0 {v : V} (h : bs2 v = true) : bq8 (bs3 v) (bs4 v) = true := by
 unfold bs2 at h;rw [fk3] at h;obtain ⟨h1, h2⟩ := h;have hn : bs2 v = true := by unfold bs2; rw [h1, h2]; rfl
 unfold bs3 bs4;rw [hn, cond_true];rw [fm4] at h1;obtain ⟨k, n, d, s, l⟩ := v;simp only [V.k, V.n, V.d] at h1 ⊢;rcases h1 with h1 | h1
 ·obtain rfl : k = 2 := by simpa using h1
  have := cp7 h2;simp only [beq_self_eq_true, cond_true];unfold bq8;rw [(bq6 n).2 (by have := (bq6 n).1 this; omega)];simp
 ·obtain rfl : k = 3 := by simpa using h1
  have := cj6 h2;exact this.2
theorem dm1 {v : V} (h : Val.okV v = true) (hk : (v.k == 4) = true) : v.s.size ≤ 100 := by
 obtain ⟨k, n, d, s, l⟩ := v;simp only [V.k] at hk;obtain rfl : k = 4 := by simpa using hk
 exact cj7 h
set_option maxHeartbeats 4000000 in
theorem dm2 (op : Int) (a b : V) (ho : 7 ≤ op ∧ op ≤ 11) (ha : Val.okV a = true) (hb : Val.okV b = true) : Ev E 213 [.int op, enc a, enc b] (.d (enc (arF op a b))) := by
 have n1 := ca8 cc1 a;have n2 := ca8 cc1 b;obtain rfl | rfl | rfl | rfl | rfl : op = 7 ∨ op = 8 ∨ op = 9 ∨ op = 10 ∨ op = 11 := by omega
 ·have e0 : arF 7 a b = bif dl9 a b then br3 (a.s ++ b.s) else bif !(bs2 a) || !(bs2 b) then br5 else dl8 (ct1 (bs3 a) (bs4 a) (bs3 b) (bs4 b)) (ct2 (bs3 a) (bs4 a) (bs3 b) (bs4 b)) (ct3 (bs3 a) (bs4 a) (bs3 b) (bs4 b)) := rfl;rw [e0];have a1 := cu5 (bs3 a) (bs4 a) (bs3 b) (bs4 b);have r1 := by0 (ct2 (bs3 a) (bs4 a) (bs3 b) (bs4 b)) (ct3 (bs3 a) (bs4 a) (bs3 b) (bs4 b));unfold dl9
  cases ka : a.k == 4 with
  | true =>
   have hna : bs2 a = false := by unfold bs2; have : a.k = 4 := (by simpa using ka); rw [this]; rfl
   rw [hna] at n1 ⊢
   cases kb : b.k == 4 with
   | true =>
    have z1 := dm1 ha ka;have z2 := dm1 hb kb;have s1 := bx8 (a.s ++ b.s);refine ye3 func213 ntmps213 fun _ _ _=>?_
    repeat' (first | refine yz ?_ | refine yp bu1 s1 ?_ | refine yx ?_ | exact zD)
   | false =>
    simp only [fp8, cond_false, fo5, fn8, cond_true];refine ye3 func213 ntmps213 fun _ _ _=>?_
    repeat' (first | refine yz ?_ | refine yp bt9 n1 ?_ | refine yp bt9 n2 ?_ | refine yp b92 bx5 ?_ | refine yx ?_ | exact zD)
  | false =>
   cases na : bs2 a with
   | false =>
    rw [na] at n1;simp only [fn3, cond_false, fo5, fn8, cond_true];refine ye3 func213 ntmps213 fun _ _ _=>?_
    repeat' (first | refine yz ?_ | refine yp bt9 n1 ?_ | refine yp bt9 n2 ?_ | refine yp b92 bx5 ?_ | refine yx ?_ | exact zD)
   | true =>
    rw [na] at n1
    cases nb : bs2 b with
    | false =>
     rw [nb] at n2;simp only [fn3, cond_false, fo5, fo2, cond_true];refine ye3 func213 ntmps213 fun _ _ _=>?_
     repeat' (first | refine yz ?_ | refine yp bt9 n1 ?_ | refine yp bt9 n2 ?_ | refine yp b92 bx5 ?_ | refine yx ?_ | exact zD)
    | true =>
     rw [nb] at n2;simp only [fn3, cond_false, fp3, fq2];unfold dl8
     cases hB : ct1 (bs3 a) (bs4 a) (bs3 b) (bs4 b) <;> rw [hB] at a1
     all_goals
      refine ye3 func213 ntmps213 fun _ _ _=>?_
      repeat' (first | refine yz ?_ | refine yp bt9 n1 ?_ | refine yp bt9 n2 ?_ | refine yp b92 bx5 ?_ | refine yp b269 a1 ?_ | refine yp bu0 r1 ?_ | refine yx ?_ | exact zD)
 ·have e0 : arF 8 a b = bif !(bs2 a) || !(bs2 b) then br5 else dl8 (ct1 (bs3 a) (bs4 a) (0 - bs3 b) (bs4 b)) (ct2 (bs3 a) (bs4 a) (0 - bs3 b) (bs4 b)) (ct3 (bs3 a) (bs4 a) (0 - bs3 b) (bs4 b)) := rfl;rw [e0];have r1 := by0 (ct2 (bs3 a) (bs4 a) (0 - bs3 b) (bs4 b)) (ct3 (bs3 a) (bs4 a) (0 - bs3 b) (bs4 b))
  cases na : bs2 a with
  | false =>
   rw [na] at n1;simp only [fo5, fn8, cond_true];refine ye3 func213 ntmps213 fun _ _ _=>?_
   repeat' (first | refine yz ?_ | refine yp bt9 n1 ?_ | refine yp bt9 n2 ?_ | refine yp b92 bx5 ?_ | exact zD)
  | true =>
   rw [na] at n1
   cases nb : bs2 b with
   | false =>
    rw [nb] at n2;simp only [fo5, fo2, cond_true];refine ye3 func213 ntmps213 fun _ _ _=>?_
    repeat' (first | refine yz ?_ | refine yp bt9 n1 ?_ | refine yp bt9 n2 ?_ | refine yp b92 bx5 ?_ | exact zD)
   | true =>
    rw [nb] at n2;have fb := dm0 nb;have a1 := cu6 (bs3 a) (bs4 a) (bs3 b) (bs4 b) fb;simp only [fp3, fq2, cond_false];unfold dl8
    cases hB : (ct1 (bs3 a) (bs4 a) (0 - bs3 b) (bs4 b)) <;> rw [hB] at a1
    all_goals
     refine ye3 func213 ntmps213 fun _ _ _=>?_
     repeat' (first | refine yz ?_ | refine yp bt9 n1 ?_ | refine yp bt9 n2 ?_ | refine yp b92 bx5 ?_ | refine yp b270 a1 ?_ | refine yp bu0 r1 ?_ | exact zD)
 ·have e0 : arF 9 a b = bif !(bs2 a) || !(bs2 b) then br5 else dl8 (ct8 (bs3 a) (bs4 a) (bs3 b) (bs4 b)) (muN (bs3 a) (bs4 a) (bs3 b) (bs4 b)) (muD (bs3 a) (bs4 a) (bs3 b) (bs4 b)) := rfl;rw [e0];have r1 := by0 (muN (bs3 a) (bs4 a) (bs3 b) (bs4 b)) (muD (bs3 a) (bs4 a) (bs3 b) (bs4 b))
  cases na : bs2 a with
  | false =>
   rw [na] at n1;simp only [fo5, fn8, cond_true];refine ye3 func213 ntmps213 fun _ _ _=>?_
   repeat' (first | refine yz ?_ | refine yp bt9 n1 ?_ | refine yp bt9 n2 ?_ | refine yp b92 bx5 ?_ | exact zD)
  | true =>
   rw [na] at n1
   cases nb : bs2 b with
   | false =>
    rw [nb] at n2;simp only [fo5, fo2, cond_true];refine ye3 func213 ntmps213 fun _ _ _=>?_
    repeat' (first | refine yz ?_ | refine yp bt9 n1 ?_ | refine yp bt9 n2 ?_ | refine yp b92 bx5 ?_ | exact zD)
   | true =>
    rw [nb] at n2;have fb := dm0 nb;have a1 := cu0 (bs3 a) (bs4 a) (bs3 b) (bs4 b);simp only [fp3, fq2, cond_false];unfold dl8
    cases hB : (ct8 (bs3 a) (bs4 a) (bs3 b) (bs4 b)) <;> rw [hB] at a1
    all_goals
     refine ye3 func213 ntmps213 fun _ _ _=>?_
     repeat' (first | refine yz ?_ | refine yp bt9 n1 ?_ | refine yp bt9 n2 ?_ | refine yp b92 bx5 ?_ | refine yp b271 a1 ?_ | refine yp bu0 r1 ?_ | exact zD)
 ·have e0 : arF 10 a b = bif !(bs2 a) || !(bs2 b) then br5 else dl8 (cu1 (bs3 a) (bs4 a) (bs3 b) (bs4 b)) (cu2 (bs3 a) (bs4 a) (bs3 b) (bs4 b)) (cu3 (bs3 a) (bs4 a) (bs3 b) (bs4 b)) := rfl;rw [e0];have r1 := by0 (cu2 (bs3 a) (bs4 a) (bs3 b) (bs4 b)) (cu3 (bs3 a) (bs4 a) (bs3 b) (bs4 b))
  cases na : bs2 a with
  | false =>
   rw [na] at n1;simp only [fo5, fn8, cond_true];refine ye3 func213 ntmps213 fun _ _ _=>?_
   repeat' (first | refine yz ?_ | refine yp bt9 n1 ?_ | refine yp bt9 n2 ?_ | refine yp b92 bx5 ?_ | exact zD)
  | true =>
   rw [na] at n1
   cases nb : bs2 b with
   | false =>
    rw [nb] at n2;simp only [fo5, fo2, cond_true];refine ye3 func213 ntmps213 fun _ _ _=>?_
    repeat' (first | refine yz ?_ | refine yp bt9 n1 ?_ | refine yp bt9 n2 ?_ | refine yp b92 bx5 ?_ | exact zD)
   | true =>
    rw [nb] at n2;have fb := dm0 nb;have a1 := cu4 (bs3 a) (bs4 a) (bs3 b) (bs4 b);simp only [fp3, fq2, cond_false];unfold dl8
    cases hB : (cu1 (bs3 a) (bs4 a) (bs3 b) (bs4 b)) <;> rw [hB] at a1
    all_goals
     refine ye3 func213 ntmps213 fun _ _ _=>?_
     repeat' (first | refine yz ?_ | refine yp bt9 n1 ?_ | refine yp bt9 n2 ?_ | refine yp b92 bx5 ?_ | refine yp b272 a1 ?_ | refine yp bu0 r1 ?_ | exact zD)
 ·have m := ct0 a.n b.n;have i1 := bx7 (cs9 a.n b.n);have e0 : arF 11 a b = bif !(bs2 a) || !(bs2 b) then br5 else bif cs8 a.n b.n && (a.k == 2 && b.k == 2) then br1 (cs9 a.n b.n) else br5 := rfl;have e1 : bs2 a = (a.k == 2 || a.k == 3) := by unfold bs2; rw [ha, fq7]
  have e2 : bs2 b = (b.k == 2 || b.k == 3) := by unfold bs2; rw [hb, fq7]
  rw [e0, e1, e2]
  cases hm : cs8 a.n b.n <;> cases k1 : a.k == 2 <;> cases k2 : b.k == 2 <;> rw [hm] at m
  all_goals simp only [fn1, fn8, fp3, fn3, fp8, fq7, fm3, cond_true, cond_false, fq2, fo2]
  all_goals try rw [Bool.cond_self]
  all_goals
   refine ye3 func213 ntmps213 fun _ _ _=>?_
   repeat' (first | refine yz ?_ | refine yp b268 m ?_ | refine yp b92 bx5 ?_ | refine yp bt8 i1 ?_ | refine yx ?_ | exact zD)
def szF (a : V) : V := bif a.k == 4 then br1 a.s.size else bif a.k == 8 then br1 a.l.length else br5
theorem dm3 (a : V) : Ev E 153 [enc a] (.d (enc (szF a))) := Ev.fit fun hfit => by
 obtain ⟨-, -, -, f1, f2, -⟩ := bq4 (v := a) (hfit _ (by simp));have i1 := bx7 a.s.size;have i2 := bx7 a.l.length;rw [← bq2] at i2;unfold szF;rw [← bq2]
 cases c4 : a.k == 4 with
 | true =>
  refine ye1 func153 ntmps153 fun _ _ _=>?_
  repeat' (first | refine yz ?_ | refine yp bt8 i1 ?_ | exact zD)
 | false =>
 cases c8 : a.k == 8 with
 | true =>
  refine ye1 func153 ntmps153 fun _ _ _=>?_
  repeat' (first | refine yz ?_ | refine yp bt8 i2 ?_ | exact zD)
 | false =>
  refine ye1 func153 ntmps153 fun _ _ _=>?_
  repeat' (first | refine yz ?_ | refine yp b92 bx5 ?_ | exact zD)
def dm4 : ByteArray := ⟨#[116, 121, 112, 101]⟩
def dm5 : ByteArray := ⟨#[115, 116, 97, 114, 116]⟩
def dm6 : ByteArray := ⟨#[101, 110, 100]⟩
def dm7 : ByteArray := ⟨#[108, 101, 110, 103, 116, 104]⟩
def dm8 : ByteArray := ⟨#[110, 111, 100, 101, 115]⟩
def dm9 : ByteArray := ⟨#[101, 100, 103, 101, 115]⟩
def eqS (s t : ByteArray) : Bool := s.toList == t.toList
def ofE (nm : ByteArray) (e : Ed) : V := bif eqS nm dm4 then br3 e.ty else bif eqS nm dm5 then br4 e.src else br4 e.dst
theorem dn0 (nm : ByteArray) (e : Ed) : Ev E 150 [.str nm, cu9 e] (.d (enc (ofE nm e))) := by
 have i1 := bx8 e.ty;have i2 := bx9 e.src;have i3 := bx9 e.dst;unfold ofE
 cases c1 : eqS nm dm4 with
 | true =>
  have c1' : (nm.toList == (⟨#[116, 121, 112, 101]⟩ : ByteArray).toList) = true := c1;refine ye2 func150 ntmps150 fun _ _ _=>?_
  repeat' (first | refine yz ?_ | refine yp bu1 i1 ?_ | exact zD)
 | false =>
 have c1' : (nm.toList == (⟨#[116, 121, 112, 101]⟩ : ByteArray).toList) = false := c1
 cases c2 : eqS nm dm5 with
 | true =>
  have c2' : (nm.toList == (⟨#[115, 116, 97, 114, 116]⟩ : ByteArray).toList) = true := c2;refine ye2 func150 ntmps150 fun _ _ _=>?_
  repeat' (first | refine yz ?_ | refine yp b201 i2 ?_ | exact zD)
 | false =>
  have c2' : (nm.toList == (⟨#[115, 116, 97, 114, 116]⟩ : ByteArray).toList) = false := c2;refine ye2 func150 ntmps150 fun _ _ _=>?_
  repeat' (first | refine yz ?_ | refine yp b201 i3 ?_ | exact zD)
def dn1 {α : Type} : List α → List α
 | [] => []
 | [x] => [x]
 | x :: _ :: r => x :: dn1 r
theorem dn2 {α : Type} {l : List α} {i : Nat} {x : α} (h : l[i]? = some x) : dn1 (l.drop i) = x :: dn1 (l.drop (i + 2)) := by
 rw [bz3 h]
 cases hd : l.drop (i + 1) with
 | nil =>
  have hlen : l.length ≤ i + 1 := by
   have := congrArg List.length hd;simp at this;omega
  rw [fl9 (by omega)];rfl
 | cons y r =>
  have : l.drop (i + 2) = r := by
   have e : l.drop (i + 2) = (l.drop (i + 1)).drop 1 := by rw [List.drop_drop]
   rw [e, hd]; rfl
  rw [this];rfl
def dn3 (nm : ByteArray) (l : List V) : V := bif eqS nm dm7 then br1 ((l.length : Int) / 2) else co7 (dn1 (l.drop (bif eqS nm dm9 then 1 else 0)))
theorem dn4 {α : Type} : ∀ l : List α, (dn1 l).length ≤ l.length
 | [] => fk9 _
 | [_] => fk9 _
 | x :: y :: r => by have := dn4 r; simp [dn1]; omega
theorem dn5 {α : Type} : ∀ {l : List α} {x : α}, x ∈ dn1 l → x ∈ l
 | [y], x, h => h
 | a :: b :: r, x, h => by
  simp only [dn1, fl1] at h;rcases h with h | h
  ·simp [h]
  ·have := dn5 h; simp [this]
theorem dn6 : ∀ {l : List V}, (∀ x ∈ l, nar x = true) → ck2 l = true
 | [], _ => rfl
 | v :: r, h => by
  simp only [ck2, fk3];exact ⟨h v (by simp), dn6 fun x hx => h x (by simp [hx])⟩
theorem dn7 {l : List V} (hl : l.length ≤ 2000000) (h : ∀ x ∈ l, nar x = true) : nar (co7 l) = true := by
 simp only [co7, nar, fk3, decide_eq_true_eq];exact ⟨hl, dn6 h⟩
structure SPh (l : List V) (st : Nat) where
 i : Nat
 out : List V
 hi : i ≤ l.length + 1
 ho : out.length ≤ i
 ok : dn1 (l.drop st) = out ++ dn1 (l.drop i)
theorem dn8 (l : List V) (x : V) : bp7 (l ++ [x]) = bp7 l ++ [enc x] := by simp [bp8]
abbrev dn9 : aa5 := .var 24 (.cs [.d (.int 0), .d (.int 0), .d (.int 0), .d (.str ⟨#[]⟩), .nilS])
theorem do0 (v : V) : ∀ d ∈ [enc v], d.cells.length = 5 := fun d hd => by obtain rfl := fl7.1 hd; rfl
set_option maxHeartbeats 4000000 in
theorem do1 (nm : ByteArray) (l : List V) (hl : l.length ≤ 2000000) (hn : ∀ x ∈ l, nar x = true) : Ev E 154 [.str nm, .sl (bp7 l)] (.d (enc (dn3 nm l))) := by
 have hle : (bp7 l).length = l.length := bq3 _;unfold dn3
 cases c1 : eqS nm dm7 with
 | true =>
  have c1' : (nm.toList == (⟨#[108, 101, 110, 103, 116, 104]⟩ : ByteArray).toList) = true := c1;have i1 := bx7 (Int.tdiv ((bp7 l).length : Int) 2);have e : ((l.length : Int) / 2) = Int.tdiv ((bp7 l).length : Int) 2 := by rw [hle, fr1 (by omega)]
  have w1 : (2 : Int) ≠ 0 ∧ inR .i64 (Int.tdiv ((bp7 l).length : Int) 2) := by rw [← e]; refine ⟨by omega, ?_⟩; simp only [inR]; omega
  rw [e];refine ye2 func154 ntmps154 fun _ _ _=>?_
  repeat' (first | refine yz ?_ | refine yp bt8 i1 ?_ | exact zD)
 | false =>
  have c1' : (nm.toList == (⟨#[108, 101, 110, 103, 116, 104]⟩ : ByteArray).toList) = false := c1;obtain ⟨st, hst, hst1⟩ : ∃ st : Nat, (bif eqS nm dm9 then 1 else 0) = st ∧ st ≤ 1 := ⟨_, rfl, by cases eqS nm dm9 <;> decide⟩;rw [hst, cond_false];have hL := co8 (dn1 (l.drop st)) (dn7 (by have := dn4 (l.drop st); simp at this; omega) fun x hx => hn x (fs2 (dn5 hx)))
  cases c2 : eqS nm dm9 with
  | true =>
   have c2' : (nm.toList == (⟨#[101, 100, 103, 101, 115]⟩ : ByteArray).toList) = true := c2;rw [c2] at hst;obtain rfl : 1 = st := hst;refine ye2 func154 ntmps154 fun _ _ _=>?_
   repeat' (refine yz ?_)
   refine ac7 (α := SPh l 1) (fun p => ⟨[(1, .d (.sl (bp7 l))), (4, .ptr 0 0), (6, bi6 1 (bp7 p.out)), (7, .d (.int p.i))], dn9 :: ay5 24 5 (bp7 p.out)⟩) (fun p => l.length + 2 - p.i) ⟨1, [], by omega, by simp, rfl⟩ (zle 1) ?_;rintro ⟨i, out, hi, ho, ok⟩;dsimp only;rcases fk1 i l.length with hlt | hge
   ·have g1 : decide ((i : Int) < ((bp7 l).length : Int)) = true := by rw [hle]; simpa using hlt
    have hx0 := fk0 hlt;generalize l[i] = x at hx0;have hx : (bp7 l)[(i : Int).toNat]? = some (enc x) := bq1 (by rw [fl0]; exact hx0);have hta := dn8 out x;have hll : (bp7 out).length ≤ i := by rw [bq3]; omega
    rw [dn2 hx0] at ok
    match ho' : bp7 out, hll with
    | [], hll =>
     dsimp only [bi6, ay5]
     repeat' (first | refine yz ?_ | refine yi (enc x) hx ?_ | (refine qS rfl ⟨by simp, do0 x, by (show (0 + 1) * 64 ≤ 140737488355328; omega), by (show 0 + 1 ≤ 9223372036854775807; omega)⟩ ?_))
     refine ac1 ?_;refine ⟨⟨i + 2, out ++ [x], by omega, by simp; omega, by rw [ok]; simp⟩, by dsimp only; omega, ?_⟩;dsimp only;rw [hta, ho'];exact (bj9 [0, 1])
    | a :: q, hll =>
     dsimp only [bi6, ay5]
     repeat' (first | refine yz ?_ | refine yi (enc x) hx ?_ | (refine qS rfl ⟨by simp, do0 x, by (show ((a :: q).length + 1) * 64 ≤ 140737488355328; omega), by (show (a :: q).length + 1 ≤ 9223372036854775807; omega)⟩ ?_))
     refine ac1 ?_;refine ⟨⟨i + 2, out ++ [x], by omega, by simp; omega, by rw [ok]; simp⟩, by dsimp only; omega, ?_⟩;dsimp only;rw [hta, ho'];exact (bj9 [0, 2])
   ·have g1 : decide ((i : Int) < ((bp7 l).length : Int)) = false := by rw [hle]; simp; omega
    rw [fl9 hge] at ok;have ok' : dn1 (l.drop 1) = out := by rw [ok]; simp [dn1]
    rw [ok'] at hL ⊢
    match ho' : bp7 out, hL with
    | [], hL =>
     dsimp only [bi6, ay5]
     repeat' (first | refine yz ?_ | refine yp bu4 hL ?_ | exact zD)
    | a :: q, hL =>
     dsimp only [bi6, ay5]
     repeat' (refine yz ?_)
     refine be7 1 rfl ?_
     repeat' (first | refine yz ?_ | refine yp bu4 hL ?_ | exact zD)
  | false =>
   have c2' : (nm.toList == (⟨#[101, 100, 103, 101, 115]⟩ : ByteArray).toList) = false := c2;rw [c2] at hst;obtain rfl : 0 = st := hst;refine ye2 func154 ntmps154 fun _ _ _=>?_
   repeat' (refine yz ?_)
   refine ac7 (α := SPh l 0) (fun p => ⟨[(1, .d (.sl (bp7 l))), (4, .ptr 0 0), (6, bi6 1 (bp7 p.out)), (7, .d (.int p.i))], dn9 :: ay5 24 5 (bp7 p.out)⟩) (fun p => l.length + 2 - p.i) ⟨0, [], by omega, by simp, rfl⟩ (zle 1) ?_;rintro ⟨i, out, hi, ho, ok⟩;dsimp only;rcases fk1 i l.length with hlt | hge
   ·have g1 : decide ((i : Int) < ((bp7 l).length : Int)) = true := by rw [hle]; simpa using hlt
    have hx0 := fk0 hlt;generalize l[i] = x at hx0;have hx : (bp7 l)[(i : Int).toNat]? = some (enc x) := bq1 (by rw [fl0]; exact hx0);have hta := dn8 out x;have hll : (bp7 out).length ≤ i := by rw [bq3]; omega
    rw [dn2 hx0] at ok
    match ho' : bp7 out, hll with
    | [], hll =>
     dsimp only [bi6, ay5]
     repeat' (first | refine yz ?_ | refine yi (enc x) hx ?_ | (refine qS rfl ⟨by simp, do0 x, by (show (0 + 1) * 64 ≤ 140737488355328; omega), by (show 0 + 1 ≤ 9223372036854775807; omega)⟩ ?_))
     refine ac1 ?_;refine ⟨⟨i + 2, out ++ [x], by omega, by simp; omega, by rw [ok]; simp⟩, by dsimp only; omega, ?_⟩;dsimp only;rw [hta, ho'];exact (bj9 [0, 1])
    | a :: q, hll =>
     dsimp only [bi6, ay5]
     repeat' (first | refine yz ?_ | refine yi (enc x) hx ?_ | (refine qS rfl ⟨by simp, do0 x, by (show ((a :: q).length + 1) * 64 ≤ 140737488355328; omega), by (show (a :: q).length + 1 ≤ 9223372036854775807; omega)⟩ ?_))
     refine ac1 ?_;refine ⟨⟨i + 2, out ++ [x], by omega, by simp; omega, by rw [ok]; simp⟩, by dsimp only; omega, ?_⟩;dsimp only;rw [hta, ho'];exact (bj9 [0, 2])
   ·have g1 : decide ((i : Int) < ((bp7 l).length : Int)) = false := by rw [hle]; simp; omega
    rw [fl9 hge] at ok;have ok' : dn1 (l.drop 0) = out := by rw [ok]; simp [dn1]
    rw [ok'] at hL ⊢
    match ho' : bp7 out, hL with
    | [], hL =>
     dsimp only [bi6, ay5]
     repeat' (first | refine yz ?_ | refine yp bu4 hL ?_ | exact zD)
    | a :: q, hL =>
     dsimp only [bi6, ay5]
     repeat' (refine yz ?_)
     refine be7 1 rfl ?_
     repeat' (first | refine yz ?_ | refine yp bu4 hL ?_ | exact zD)
abbrev evO (g : Gr) (env : List Bd) : aa5 := .var 123 (.cs [.d (.sl (g.nodes.map cu8)), .d (.sl (g.edges.map cu9)), .d (.int g.nn), .d (.int g.ne), .d (.sl (env.map cv1)), .bnd 93 [.ptr 0 0]])
def do2 (g : Gr) : Prop := (∀ n ∈ g.nodes, narN n) ∧ ∀ e ∈ g.edges, cx6 e.props
def do3 (env : List Bd) (nm : ByteArray) : V := match env.find? fun b => b.name.toList == nm.toList with | some b => b.v | none => br5
theorem do4 (g : Gr) (env : List Bd) (nm : ByteArray) : env.length ≤ 2000000 → EvS E 204 [.ptr 0 0, .d (.str nm)] [evO g env] (.d (enc (do3 env nm))) [evO g env] := by
 intro hmax;have hle : (env.map cv1).length = env.length := by simp
 unfold do3;refine yd func204 ntmps204 fun _ _ _ _=>?_
 repeat' (first | refine yz ?_ | refine yx ?_ | (refine yy ?_ ?_ <;> intro _) | exact zD | exact zL)
 refine ac7 (α := SFd env fun b => b.name.toList == nm.toList) (fun p => ⟨[(0, .ptr 0 0), (1, .d (.str nm)), (4, .ptr 1 0), (10, .d (.sl (env.map cv1))), (11, .d (.int (env.map cv1).length)), (12, .d (.int p.i))], [evO g env, dn9]⟩) (fun p => env.length - p.i) ⟨0, by omega, rfl⟩ (zle 2) ?_;rintro ⟨i, hi, ok⟩;dsimp only;rcases fk1 i env.length with hlt | hge
 ·have g1 : decide ((i : Int) < ((env.map cv1).length : Int)) = true := by rw [hle]; simpa using hlt
  have hx0 := fk0 hlt;generalize env[i] = x at hx0;have hx := cv2 (f := cv1) hx0;rw [ok, cv5 hx0]
  cases hc : x.name.toList == nm.toList with
  | true =>
   repeat' (first | refine yz ?_ | refine yi (cv1 x) hx ?_ | refine yr [0] ?_ | refine yt [0] ?_ | refine yx ?_ | (refine yy ?_ ?_ <;> intro _) | exact zD | exact zL)
  | false =>
   repeat' (first | refine yz ?_ | refine yi (cv1 x) hx ?_ | refine yx ?_ | (refine yy ?_ ?_ <;> intro _) | exact zD | exact zL)
   refine ac1 ?_;exact ⟨⟨i + 1, by omega, by rw [ok, cv5 hx0, hc]; rfl⟩, by dsimp only; omega, (zle 2)⟩
 ·have g1 : decide ((i : Int) < ((env.map cv1).length : Int)) = false := by rw [hle]; simp; omega
  rw [ok, fl9 hge]
  repeat' (first | refine yz ?_ | refine yp b92 bx5 ?_ | refine yr [0] ?_ | refine yt [0] ?_ | refine yx ?_ | (refine yy ?_ ?_ <;> intro _) | exact zD | exact zL)
def do5 (g : Gr) (a : V) : Nd := bif a.k == 5 then (cv6 g.nodes a.n).getD nd0 else nd0
def do6 (g : Gr) (a : V) : Bool := a.k == 5 && (cv6 g.nodes a.n).isSome
def do7 (g : Gr) (a : V) : Ed := bif a.k == 6 then (cv7 g.edges a.n).getD ed0 else ed0
def do8 (g : Gr) (a : V) : Bool := a.k == 6 && (cv7 g.edges a.n).isSome
theorem do9 (g : Gr) (env : List Bd) (a : V) (hg : do2 g) : EvS E 151 [.ptr 0 0, .d (enc a)] [evO g env] (.tup [cu8 (do5 g a), .bool (do6 g a)]) [evO g env] := by
 have h := cx9 g a.n hg.1;unfold do5 do6
 cases hk : a.k == 5 with
 | true =>
  have hk' : (a.k != 5) = false := by rw [bne, hk]; rfl
  refine yd func151 ntmps151 fun _ _ _ _=>?_
  repeat' (first | refine yq 3 [9] ?_ | refine yf 3 0 9 ?_ | refine yw ?_ | refine yf 3 10 1 ?_ | refine rgN ?_ | refine yv ?_ | refine yz ?_ | refine yp b202 h ?_ | refine yr [0] ?_ | refine yt [0] ?_ | refine yx ?_ | (refine yy ?_ ?_ <;> intro _) | exact zD | exact zL)
 | false =>
  have hk' : (a.k != 5) = true := by rw [bne, hk]; rfl
  refine yd func151 ntmps151 fun _ _ _ _=>?_
  repeat' (first | refine yz ?_ | refine yr [0] ?_ | refine yt [0] ?_ | refine yx ?_ | (refine yy ?_ ?_ <;> intro _) | exact zD | exact zL)
theorem dp0 (g : Gr) (env : List Bd) (a : V) (hg : do2 g) : EvS E 149 [.ptr 0 0, .d (enc a)] [evO g env] (.tup [cu9 (do7 g a), .bool (do8 g a)]) [evO g env] := by
 have h := cy0 g a.n hg.2;unfold do7 do8
 cases hk : a.k == 6 with
 | true =>
  have hk' : (a.k != 6) = false := by rw [bne, hk]; rfl
  refine yd func149 ntmps149 fun _ _ _ _=>?_
  repeat' (first | refine yq 3 [9] ?_ | refine yf 3 0 9 ?_ | refine yw ?_ | refine yf 3 10 1 ?_ | refine rgN ?_ | refine yv ?_ | refine yz ?_ | refine yp b200 h ?_ | refine yr [0] ?_ | refine yt [0] ?_ | refine yx ?_ | (refine yy ?_ ?_ <;> intro _) | exact zD | exact zL)
 | false =>
  have hk' : (a.k != 6) = true := by rw [bne, hk]; rfl
  refine yd func149 ntmps149 fun _ _ _ _=>?_
  repeat' (first | refine yz ?_ | refine yr [0] ?_ | refine yt [0] ?_ | refine yx ?_ | (refine yy ?_ ?_ <;> intro _) | exact zD | exact zL)
theorem dp1 (v : V) : kids v = bp7 v.l := by rw [bp9, bp8]
theorem dp2 {g : Gr} (hg : do2 g) (a : V) : narN (do5 g a) := by
 have h0 : narN nd0 := ⟨by decide, by decide, fun p hp => by simp [nd0] at hp⟩;unfold do5
 cases a.k == 5 with
 | false => exact h0
 | true =>
  rw [cond_true]
  cases hf : cv6 g.nodes a.n with
  | none => exact h0
  | some n => exact hg.1 n (ft3 hf)
theorem dp3 {g : Gr} (hg : do2 g) (a : V) : cx6 (do7 g a).props := by
 have h0 : cx6 ed0.props := ⟨by decide, fun p hp => by simp [ed0] at hp⟩;unfold do7
 cases a.k == 6 with
 | false => exact h0
 | true =>
  rw [cond_true]
  cases hf : cv7 g.edges a.n with
  | none => exact h0
  | some n => exact hg.2 n (ft3 hf)
def dp4 (g : Gr) (a : V) (key : ByteArray) : V := bif do6 g a then cv8 (do5 g a).props key else bif do8 g a then cv8 (do7 g a).props key else br5
theorem dp5 (g : Gr) (env : List Bd) (a : V) (key : ByteArray) (hg : do2 g) : EvS E 205 [.ptr 0 0, .d (enc a), .d (.str key)] [evO g env] (.d (enc (dp4 g a key))) [evO g env] := by
 have h1 := do9 g env a hg;have h2 := dp0 g env a hg;have p1 := cx8 (do5 g a).props key (dp2 hg a).2;have p2 := cx8 (do7 g a).props key (dp3 hg a);unfold dp4
 cases c1 : do6 g a with
 | true =>
  rw [c1] at h1;refine yd func205 ntmps205 fun _ _ _ _=>?_
  repeat' (first | refine yz ?_ | refine yc [0] bu3 (h1) ?_ | refine yp b265 p1 ?_ | refine yr [0] ?_ | refine yt [0] ?_ | refine yx ?_ | (refine yy ?_ ?_ <;> intro _) | exact zD | exact zL)
 | false =>
  rw [c1] at h1
  cases c2 : do8 g a with
  | true =>
   rw [c2] at h2;refine yd func205 ntmps205 fun _ _ _ _=>?_
   repeat' (first | refine yz ?_ | refine yc [0] bu3 (h1) ?_ | refine yc [0] bu2 (h2) ?_ | refine yp b265 p2 ?_ | refine yr [0] ?_ | refine yt [0] ?_ | refine yx ?_ | (refine yy ?_ ?_ <;> intro _) | exact zD | exact zL)
  | false =>
   rw [c2] at h2;refine yd func205 ntmps205 fun _ _ _ _=>?_
   repeat' (first | refine yz ?_ | refine yc [0] bu3 (h1) ?_ | refine yc [0] bu2 (h2) ?_ | refine yp b92 bx5 ?_ | refine yr [0] ?_ | refine yt [0] ?_ | refine yx ?_ | (refine yy ?_ ?_ <;> intro _) | exact zD | exact zL)
def dp6 : ByteArray := ⟨#[99, 111, 97, 108, 101, 115, 99, 101]⟩
def nmId : ByteArray := ⟨#[105, 100]⟩
def dp7 : ByteArray := ⟨#[97, 98, 115]⟩
def dp8 : ByteArray := ⟨#[116, 101, 120, 116]⟩
def dp9 : ByteArray := ⟨#[108, 97, 98, 101, 108, 115]⟩
def dq0 : ByteArray := ⟨#[115, 105, 122, 101]⟩
def dq1 : ByteArray := ⟨#[102, 105, 114, 115, 116]⟩
def dq2 : ByteArray := ⟨#[108, 97, 115, 116]⟩
def dq3 (l : List V) : V := match l.find? fun v => v.k != 0 with | some v => v | none => br5
def a0 (l : List V) : V := l.headD br5
def absV (a : V) : V := bif bs2 a then br2 (max (bs3 a) (0 - bs3 a)) (bs4 a) else br5
def fnF (g : Gr) (nm : ByteArray) (l : List V) : V :=
 bif eqS nm dp6 then dq3 l else
 bif eqS nm nmId then (bif (a0 l).k == 5 || (a0 l).k == 6 then br1 (a0 l).n else br5) else
 bif eqS nm dp7 then absV (a0 l) else
 bif eqS nm dp8 then (bif (a0 l).k != 0 then br3 (bs (txt (a0 l))) else br5) else
 bif eqS nm dm4 || (eqS nm dm5 || eqS nm dm6) then (bif do8 g (a0 l) then ofE nm (do7 g (a0 l)) else br5) else
 bif eqS nm dp9 then (bif do6 g (a0 l) then co7 ((do5 g (a0 l)).labels.map br3) else br5) else
 bif eqS nm dq0 then szF (a0 l) else
 bif eqS nm dm7 || (eqS nm dm8 || eqS nm dm9) then (bif (a0 l).k == 7 then dn3 nm (a0 l).l else br5) else
 bif eqS nm dq1 || eqS nm dq2 then (bif (a0 l).k == 8 && !((a0 l).l.isEmpty) then (bif eqS nm dq1 then (a0 l).l.headD br5 else (a0 l).l.getLastD br5) else br5) else br5
def dq4 (nm : ByteArray) (l : List V) : Prop := l ≠ [] ∧ l.length ≤ 2000000 ∧ (∀ x ∈ l, nar x = true) ∧ (eqS nm dp8 = true → (txt (a0 l)).length ≤ 1099511627776) ∧ (a0 l).l.length ≤ 2000000
set_option maxHeartbeats 8000000 in
theorem dq5 (g : Gr) (env : List Bd) (nm : ByteArray) (l : List V) (hg : do2 g) (hok : dq4 nm l) : EvS E 93 [.ptr 0 0, .d (.str nm), .d (.sl (bp7 l))] [evO g env] (.d (enc (fnF g nm l))) [evO g env] := by
 obtain ⟨hne, hmax, hnar, htx, hal⟩ := hok;have hle : (bp7 l).length = l.length := bq3 _
 obtain ⟨a, r, hl⟩ : ∃ a r, l = a :: r := by
  cases l with
  | nil => exact absurd rfl hne
  | cons a r => exact ⟨a, r, rfl⟩
 have ha0 : a0 l = a := by rw [hl]; rfl
 have hx0 : (bp7 l)[(0 : Int).toNat]? = some (enc a) := by rw [hl]; rfl
 have hna : nar a = true := hnar a (by rw [hl]; simp);obtain ⟨-, hnl⟩ := ck4 hna;have hkl : (kids a).length = a.l.length := bq2 a;rw [ha0] at htx hal;unfold fnF;rw [ha0]
 cases c0 : eqS nm dp6 with
 | true =>
  have c0' : (nm.toList == (⟨#[99, 111, 97, 108, 101, 115, 99, 101]⟩ : ByteArray).toList) = true := c0;simp only [cond_true];unfold dq3;refine yd func93 ntmps93 fun _ _ _ _=>?_
  repeat' (first | refine yz ?_ | refine yi (enc a) hx0 ?_ | refine yx ?_ | (refine yy ?_ ?_ <;> intro _) | exact zD | exact zL)
  refine ac7 (α := SFd l fun v => v.k != 0) (fun p => ⟨[(0, .ptr 0 0), (6, .ptr 1 0), (7, .ptr 2 0), (25, .d (.sl (bp7 l))), (26, .d (.int (bp7 l).length)), (27, .d (.int p.i))], [evO g env, dn9, .var 24 (.w (.d (enc a)))]⟩) (fun p => l.length - p.i) ⟨0, by omega, rfl⟩ (zle 3) ?_;rintro ⟨i, hi, ok⟩;dsimp only;rcases fk1 i l.length with hlt | hge
  ·have g1 : decide ((i : Int) < ((bp7 l).length : Int)) = true := by rw [hle]; simpa using hlt
   have hy0 := fk0 hlt;generalize l[i] = x at hy0;have hx : (bp7 l)[(i : Int).toNat]? = some (enc x) := bq1 (by rw [fl0]; exact hy0);rw [ok, cv5 hy0]
   cases hc : x.k != 0 with
   | true =>
    repeat' (first | refine yz ?_ | refine yi (enc x) hx ?_ | refine yr [0] ?_ | refine yt [0] ?_ | refine yx ?_ | (refine yy ?_ ?_ <;> intro _) | exact zD | exact zL)
   | false =>
    repeat' (first | refine yz ?_ | refine yi (enc x) hx ?_ | refine yx ?_ | (refine yy ?_ ?_ <;> intro _) | exact zD | exact zL)
    refine ac1 ?_;exact ⟨⟨i + 1, by omega, by rw [ok, cv5 hy0, hc]; rfl⟩, by dsimp only; omega, (zle 3)⟩
  ·have g1 : decide ((i : Int) < ((bp7 l).length : Int)) = false := by rw [hle]; simp; omega
   rw [ok, fl9 hge]
   repeat' (first | refine yz ?_ | refine yp b92 bx5 ?_ | refine yr [0] ?_ | refine yt [0] ?_ | refine yx ?_ | (refine yy ?_ ?_ <;> intro _) | exact zD | exact zL)
 | false =>
 have c0' : (nm.toList == (⟨#[99, 111, 97, 108, 101, 115, 99, 101]⟩ : ByteArray).toList) = false := c0
 cases c1 : eqS nm nmId with
 | true =>
  have c1' : (nm.toList == (⟨#[105, 100]⟩ : ByteArray).toList) = true := c1;simp only [cond_false, cond_true];have i1 := bx7 a.n
  cases k5 : a.k == 5 <;> cases k6 : a.k == 6
  all_goals
   refine yd func93 ntmps93 fun _ _ _ _=>?_
   repeat' (first | refine yz ?_ | refine yi (enc a) hx0 ?_ | refine yp bt8 i1 ?_ | refine yp b92 bx5 ?_ | refine yr [0] ?_ | refine yt [0] ?_ | refine yx ?_ | (refine yy ?_ ?_ <;> intro _) | exact zD | exact zL)
 | false =>
 have c1' : (nm.toList == (⟨#[105, 100]⟩ : ByteArray).toList) = false := c1
 cases c2 : eqS nm dp7 with
 | true =>
  have c2' : (nm.toList == (⟨#[97, 98, 115]⟩ : ByteArray).toList) = true := c2;simp only [cond_false, cond_true];have n1 := ca8 cc1 a;have r1 := by0 (max (bs3 a) (0 - bs3 a)) (bs4 a);unfold absV
  cases hn : bs2 a with
  | true =>
   rw [hn] at n1;obtain ⟨-, f2, -⟩ := ct4 (dm0 hn);refine yd func93 ntmps93 fun _ _ _ _=>?_
   repeat' (first | refine yz ?_ | refine yi (enc a) hx0 ?_ | refine yp bt9 n1 ?_ | refine yp bu0 r1 ?_ | refine yr [0] ?_ | refine yt [0] ?_ | refine yx ?_ | (refine yy ?_ ?_ <;> intro _) | exact zD | exact zL)
  | false =>
   rw [hn] at n1;refine yd func93 ntmps93 fun _ _ _ _=>?_
   repeat' (first | refine yz ?_ | refine yi (enc a) hx0 ?_ | refine yp bt9 n1 ?_ | refine yp b92 bx5 ?_ | refine yr [0] ?_ | refine yt [0] ?_ | refine yx ?_ | (refine yy ?_ ?_ <;> intro _) | exact zD | exact zL)
 | false =>
 have c2' : (nm.toList == (⟨#[97, 98, 115]⟩ : ByteArray).toList) = false := c2
 cases c3 : eqS nm dp8 with
 | true =>
  have c3' : (nm.toList == (⟨#[116, 101, 120, 116]⟩ : ByteArray).toList) = true := c3;simp only [cond_false, cond_true];have t1 := ck1 a (htx c3);have s1 := bx8 (bs (txt a))
  cases k0 : a.k != 0
  all_goals
   refine yd func93 ntmps93 fun _ _ _ _=>?_
   repeat' (first | refine yz ?_ | refine yi (enc a) hx0 ?_ | refine yp b148 t1 ?_ | refine yp bu1 s1 ?_ | refine yp b92 bx5 ?_ | refine yr [0] ?_ | refine yt [0] ?_ | refine yx ?_ | (refine yy ?_ ?_ <;> intro _) | exact zD | exact zL)
 | false =>
 have c3' : (nm.toList == (⟨#[116, 101, 120, 116]⟩ : ByteArray).toList) = false := c3
 cases c4 : eqS nm dm4 with
 | true =>
  have c4' : (nm.toList == (⟨#[116, 121, 112, 101]⟩ : ByteArray).toList) = true := c4;simp only [fn8, fo2, fn1, fo0, cond_false, cond_true];have h1 := dp0 g env a hg;have o1 := dn0 nm (do7 g a)
  cases hb : do8 g a <;> rw [hb] at h1
  all_goals
   refine yd func93 ntmps93 fun _ _ _ _=>?_
   repeat' (first | refine yz ?_ | refine yi (enc a) hx0 ?_ | refine yc [0] bu2 (h1) ?_ | refine yp b150 o1 ?_ | refine yp b92 bx5 ?_ | refine yr [0] ?_ | refine yt [0] ?_ | refine yx ?_ | (refine yy ?_ ?_ <;> intro _) | exact zD | exact zL)
 | false =>
 have c4' : (nm.toList == (⟨#[116, 121, 112, 101]⟩ : ByteArray).toList) = false := c4
 cases c5 : eqS nm dm5 with
 | true =>
  have c5' : (nm.toList == (⟨#[115, 116, 97, 114, 116]⟩ : ByteArray).toList) = true := c5;simp only [fn8, fo2, fn1, fo0, cond_false, cond_true];have h1 := dp0 g env a hg;have o1 := dn0 nm (do7 g a)
  cases hb : do8 g a <;> rw [hb] at h1
  all_goals
   refine yd func93 ntmps93 fun _ _ _ _=>?_
   repeat' (first | refine yz ?_ | refine yi (enc a) hx0 ?_ | refine yc [0] bu2 (h1) ?_ | refine yp b150 o1 ?_ | refine yp b92 bx5 ?_ | refine yr [0] ?_ | refine yt [0] ?_ | refine yx ?_ | (refine yy ?_ ?_ <;> intro _) | exact zD | exact zL)
 | false =>
 have c5' : (nm.toList == (⟨#[115, 116, 97, 114, 116]⟩ : ByteArray).toList) = false := c5
 cases c6 : eqS nm dm6 with
 | true =>
  have c6' : (nm.toList == (⟨#[101, 110, 100]⟩ : ByteArray).toList) = true := c6;simp only [fn8, fo2, fn1, fo0, cond_false, cond_true];have h1 := dp0 g env a hg;have o1 := dn0 nm (do7 g a)
  cases hb : do8 g a <;> rw [hb] at h1
  all_goals
   refine yd func93 ntmps93 fun _ _ _ _=>?_
   repeat' (first | refine yz ?_ | refine yi (enc a) hx0 ?_ | refine yc [0] bu2 (h1) ?_ | refine yp b150 o1 ?_ | refine yp b92 bx5 ?_ | refine yr [0] ?_ | refine yt [0] ?_ | refine yx ?_ | (refine yy ?_ ?_ <;> intro _) | exact zD | exact zL)
 | false =>
 have c6' : (nm.toList == (⟨#[101, 110, 100]⟩ : ByteArray).toList) = false := c6
 cases c7 : eqS nm dp9 with
 | true =>
  have c7' : (nm.toList == (⟨#[108, 97, 98, 101, 108, 115]⟩ : ByteArray).toList) = true := c7;simp only [fq2, cond_false, cond_true];have h1 := do9 g env a hg;have hnn := dp2 hg a
  cases hb : do6 g a with
  | false =>
   rw [hb] at h1;refine yd func93 ntmps93 fun _ _ _ _=>?_
   repeat' (first | refine yz ?_ | refine yi (enc a) hx0 ?_ | refine yc [0] bu3 (h1) ?_ | refine yp b92 bx5 ?_ | refine yr [0] ?_ | refine yt [0] ?_ | refine yx ?_ | (refine yy ?_ ?_ <;> intro _) | exact zD | exact zL)
  | true =>
   rw [hb] at h1;obtain ⟨hln, -⟩ := hnn;generalize do5 g a = nd at h1 hln ⊢
   have hL := co8 (nd.labels.map br3) (dn7 (by simpa using hln) fun x hx => by
    obtain ⟨s, -, rfl⟩ := fo8.1 hx;rfl)
   have hll0 : (nd.labels.map D.str).length = nd.labels.length := by simp
   refine yd func93 ntmps93 fun _ _ _ _=>?_
   repeat' (first | refine yz ?_ | refine yi (enc a) hx0 ?_ | refine yc [0] bu3 (h1) ?_ | refine yx ?_ | (refine yy ?_ ?_ <;> intro _) | exact zD | exact zL)
   refine ac7 (α := Fin (nd.labels.length + 1)) (fun p => ⟨[(6, .ptr 1 0), (16, bi6 2 (bp7 ((nd.labels.take p.val).map br3))), (99, .d (.sl (nd.labels.map .str))), (100, .d (.int (nd.labels.map D.str).length)), (101, .d (.int p.val))], [evO g env, dn9] ++ ay5 24 5 (bp7 ((nd.labels.take p.val).map br3))⟩) (fun p => nd.labels.length - p.val) ⟨0, by omega⟩ (zle 2) ?_;rintro ⟨i, hi⟩;dsimp only;rcases fk1 i nd.labels.length with hlt | hge
   ·have g1 : decide ((i : Int) < ((nd.labels.map D.str).length : Int)) = true := by rw [hll0]; simpa using hlt
    have hy0 := fk0 hlt;have htk : nd.labels.take (i + 1) = nd.labels.take i ++ [nd.labels[i]] := by rw [fs7 hlt]
    generalize nd.labels[i] = x at hy0 htk;have hx := cv2 (f := D.str) hy0;have s1 := bx8 x;have hta : bp7 ((nd.labels.take (i + 1)).map br3) = bp7 ((nd.labels.take i).map br3) ++ [enc (br3 x)] := by rw [htk, fo1, fl5, fm9, dn8]
    have hll : (bp7 ((nd.labels.take i).map br3)).length ≤ i := by rw [bq3]; simp; omega
    match ho' : bp7 ((nd.labels.take i).map br3), hll with
    | [], hll =>
     dsimp only [bi6, ay5, List.append, HAppend.hAppend, Append.append]
     repeat' (first | refine yz ?_ | refine yi (.str x) hx ?_ | refine yp bu1 s1 ?_ | (refine qS rfl ⟨by simp, do0 (br3 x), by (show (0 + 1) * 64 ≤ 140737488355328; omega), by (show 0 + 1 ≤ 9223372036854775807; omega)⟩ ?_) | refine yx ?_ | (refine yy ?_ ?_ <;> intro _) | exact zD | exact zL)
     refine ac1 ?_;refine ⟨⟨i + 1, by omega⟩, by dsimp only; omega, ?_⟩;dsimp only;rw [hta, ho'];exact (bj9 [0, 1, 2])
    | b :: q, hll =>
     dsimp only [bi6, ay5, List.append, HAppend.hAppend, Append.append]
     repeat' (first | refine yz ?_ | refine yi (.str x) hx ?_ | refine yp bu1 s1 ?_ | (refine qS rfl ⟨by simp, do0 (br3 x), by (show ((b :: q).length + 1) * 64 ≤ 140737488355328; omega), by (show (b :: q).length + 1 ≤ 9223372036854775807; omega)⟩ ?_) | refine yx ?_ | (refine yy ?_ ?_ <;> intro _) | exact zD | exact zL)
     refine ac1 ?_;refine ⟨⟨i + 1, by omega⟩, by dsimp only; omega, ?_⟩;dsimp only;rw [hta, ho'];exact (bj9 [0, 1, 3])
   ·have g1 : decide ((i : Int) < ((nd.labels.map D.str).length : Int)) = false := by rw [hll0]; simp; omega
    rw [fn4 hge]
    match ho' : bp7 (nd.labels.map br3), hL with
    | [], hL =>
     dsimp only [bi6, ay5, List.append, HAppend.hAppend, Append.append]
     repeat' (first | refine yz ?_ | refine yp bu4 hL ?_ | refine yr [0] ?_ | refine yt [0] ?_ | refine yx ?_ | (refine yy ?_ ?_ <;> intro _) | exact zD | exact zL)
    | b :: q, hL =>
     dsimp only [bi6, ay5, List.append, HAppend.hAppend, Append.append];refine qA ?_;refine au6 2 rfl ?_
     repeat' (first | refine yz ?_ | refine yp bu4 hL ?_ | refine yr [0] ?_ | refine yt [0] ?_ | refine yx ?_ | (refine yy ?_ ?_ <;> intro _) | exact zD | exact zL)
 | false =>
 have c7' : (nm.toList == (⟨#[108, 97, 98, 101, 108, 115]⟩ : ByteArray).toList) = false := c7
 cases c8 : eqS nm dq0 with
 | true =>
  have c8' : (nm.toList == (⟨#[115, 105, 122, 101]⟩ : ByteArray).toList) = true := c8;simp only [fq2, cond_false, cond_true];have z1 := dm3 a;refine yd func93 ntmps93 fun _ _ _ _=>?_
  repeat' (first | refine yz ?_ | refine yi (enc a) hx0 ?_ | refine yp b153 z1 ?_ | refine yr [0] ?_ | refine yt [0] ?_ | refine yx ?_ | (refine yy ?_ ?_ <;> intro _) | exact zD | exact zL)
 | false =>
 have c8' : (nm.toList == (⟨#[115, 105, 122, 101]⟩ : ByteArray).toList) = false := c8
 cases c9 : eqS nm dm7 with
 | true =>
  have c9' : (nm.toList == (⟨#[108, 101, 110, 103, 116, 104]⟩ : ByteArray).toList) = true := c9;simp only [fn8, fo2, fn1, fo0, fq2, cond_false, cond_true];have p1 := do1 nm a.l hal (ck3 hnl);rw [← dp1] at p1
  cases k7 : a.k == 7
  all_goals
   refine yd func93 ntmps93 fun _ _ _ _=>?_
   repeat' (first | refine yz ?_ | refine yi (enc a) hx0 ?_ | refine yp b154 p1 ?_ | refine yp b92 bx5 ?_ | refine yr [0] ?_ | refine yt [0] ?_ | refine yx ?_ | (refine yy ?_ ?_ <;> intro _) | exact zD | exact zL)
 | false =>
 have c9' : (nm.toList == (⟨#[108, 101, 110, 103, 116, 104]⟩ : ByteArray).toList) = false := c9
 cases c10 : eqS nm dm8 with
 | true =>
  have c10' : (nm.toList == (⟨#[110, 111, 100, 101, 115]⟩ : ByteArray).toList) = true := c10;simp only [fn8, fo2, fn1, fo0, fq2, cond_false, cond_true];have p1 := do1 nm a.l hal (ck3 hnl);rw [← dp1] at p1
  cases k7 : a.k == 7
  all_goals
   refine yd func93 ntmps93 fun _ _ _ _=>?_
   repeat' (first | refine yz ?_ | refine yi (enc a) hx0 ?_ | refine yp b154 p1 ?_ | refine yp b92 bx5 ?_ | refine yr [0] ?_ | refine yt [0] ?_ | refine yx ?_ | (refine yy ?_ ?_ <;> intro _) | exact zD | exact zL)
 | false =>
 have c10' : (nm.toList == (⟨#[110, 111, 100, 101, 115]⟩ : ByteArray).toList) = false := c10
 cases c11 : eqS nm dm9 with
 | true =>
  have c11' : (nm.toList == (⟨#[101, 100, 103, 101, 115]⟩ : ByteArray).toList) = true := c11;simp only [fn8, fo2, fn1, fo0, fq2, cond_false, cond_true];have p1 := do1 nm a.l hal (ck3 hnl);rw [← dp1] at p1
  cases k7 : a.k == 7
  all_goals
   refine yd func93 ntmps93 fun _ _ _ _=>?_
   repeat' (first | refine yz ?_ | refine yi (enc a) hx0 ?_ | refine yp b154 p1 ?_ | refine yp b92 bx5 ?_ | refine yr [0] ?_ | refine yt [0] ?_ | refine yx ?_ | (refine yy ?_ ?_ <;> intro _) | exact zD | exact zL)
 | false =>
 have c11' : (nm.toList == (⟨#[101, 100, 103, 101, 115]⟩ : ByteArray).toList) = false := c11
 cases c12 : eqS nm dq1 with
 | true =>
  have c12' : (nm.toList == (⟨#[102, 105, 114, 115, 116]⟩ : ByteArray).toList) = true := c12;simp only [fn8, fo2, fn1, fo0, fq2, cond_false, cond_true]
  cases k8 : a.k == 8 with
  | false =>
   refine yd func93 ntmps93 fun _ _ _ _=>?_
   repeat' (first | refine yz ?_ | refine yi (enc a) hx0 ?_ | refine yp b92 bx5 ?_ | refine yr [0] ?_ | refine yt [0] ?_ | refine yx ?_ | (refine yy ?_ ?_ <;> intro _) | exact zD | exact zL)
  | true =>
   cases he : a.l with
   | nil =>
    have hk0 : kids a = [] := by rw [bp9, he]; rfl
    have g0 : decide (((kids a).length : Int) > 0) = false := by rw [hk0]; rfl
    refine yd func93 ntmps93 fun _ _ _ _=>?_
    repeat' (first | refine yz ?_ | refine yi (enc a) hx0 ?_ | refine yp b92 bx5 ?_ | refine yr [0] ?_ | refine yt [0] ?_ | refine yx ?_ | (refine yy ?_ ?_ <;> intro _) | exact zD | exact zL)
   | cons b q =>
    have hpos : 1 ≤ (kids a).length := by rw [hkl, he]; simp
    have g0 : decide (((kids a).length : Int) > 0) = true := by simp; omega
    have hb0 : (kids a)[(0 : Int).toNat]? = some (enc b) := bq0 (by rw [he]; rfl);refine yd func93 ntmps93 fun _ _ _ _=>?_
    repeat' (first | refine yz ?_ | refine yi (enc a) hx0 ?_ | refine yi (enc b) hb0 ?_ | refine yr [0] ?_ | refine yt [0] ?_ | refine yx ?_ | (refine yy ?_ ?_ <;> intro _) | exact zD | exact zL)
 | false =>
 have c12' : (nm.toList == (⟨#[102, 105, 114, 115, 116]⟩ : ByteArray).toList) = false := c12
 cases c13 : eqS nm dq2 with
 | true =>
  have c13' : (nm.toList == (⟨#[108, 97, 115, 116]⟩ : ByteArray).toList) = true := c13;simp only [fn8, fo2, fn1, fo0, fq2, cond_false, cond_true]
  cases k8 : a.k == 8 with
  | false =>
   refine yd func93 ntmps93 fun _ _ _ _=>?_
   repeat' (first | refine yz ?_ | refine yi (enc a) hx0 ?_ | refine yp b92 bx5 ?_ | refine yr [0] ?_ | refine yt [0] ?_ | refine yx ?_ | (refine yy ?_ ?_ <;> intro _) | exact zD | exact zL)
  | true =>
   cases he : a.l with
   | nil =>
    have hk0 : kids a = [] := by rw [bp9, he]; rfl
    have g0 : decide (((kids a).length : Int) > 0) = false := by rw [hk0]; rfl
    refine yd func93 ntmps93 fun _ _ _ _=>?_
    repeat' (first | refine yz ?_ | refine yi (enc a) hx0 ?_ | refine yp b92 bx5 ?_ | refine yr [0] ?_ | refine yt [0] ?_ | refine yx ?_ | (refine yy ?_ ?_ <;> intro _) | exact zD | exact zL)
   | cons b q =>
    have hpos : 1 ≤ (kids a).length := by rw [hkl, he]; simp
    have g0 : decide (((kids a).length : Int) > 0) = true := by simp; omega
    have hbl : (kids a)[((((kids a).length : Int) - 1)).toNat]? = some (enc ((b :: q).getLastD br5)) := by
     refine bq0 ?_;rw [hkl, he, show (((b :: q).length : Int) - 1).toNat = (b :: q).length - 1 by simp, List.getLastD_cons];rw [← List.getLast?_eq_getElem?];simp [List.getLast?_cons]
    refine yd func93 ntmps93 fun _ _ _ _=>?_
    repeat' (first | refine yz ?_ | refine yi (enc a) hx0 ?_ | refine qI (enc ((b :: q).getLastD br5)) rfl (ap2 rfl) rfl rfl rfl rfl rfl rfl (by first | omega | decide) hbl ?_ | refine yr [0] ?_ | refine yt [0] ?_ | refine yx ?_ | (refine yy ?_ ?_ <;> intro _) | exact zD | exact zL)
 | false =>
 have c13' : (nm.toList == (⟨#[108, 97, 115, 116]⟩ : ByteArray).toList) = false := c13;simp only [fq2, cond_false];refine yd func93 ntmps93 fun _ _ _ _=>?_
 repeat' (first | refine yz ?_ | refine yi (enc a) hx0 ?_ | refine yp b92 bx5 ?_ | refine yr [0] ?_ | refine yt [0] ?_ | refine yx ?_ | (refine yy ?_ ?_ <;> intro _) | exact zD | exact zL)
def a1 (l : List V) : V := (l.drop 1).headD br5
def apF (g : Gr) (env : List Bd) (op : Int) (v : V) (nm : ByteArray) (l : List V) : V :=
 bif op == 1 then v else bif op == 2 then do3 env nm else bif op == 3 then dp4 g (a0 l) nm else
 bif op == 4 then (bif do6 g (a0 l) then br0 (cv9 (do5 g (a0 l)).labels nm) else br5) else
 bif op == 5 then bs6 (2 - kn (bs5 (a0 l))) else
 bif op == 18 then bs6 (min (kn (bs5 (a0 l))) (kn (bs5 (a1 l)))) else bif op == 19 then bs6 (max (kn (bs5 (a0 l))) (kn (bs5 (a1 l)))) else
 bif op == 6 then (bif bs2 (a0 l) then br2 (0 - bs3 (a0 l)) (bs4 (a0 l)) else br5) else
 bif decide (7 ≤ op) && decide (op ≤ 11) then arF op (a0 l) (a1 l) else
 bif op == 21 then br0 ((a0 l).k == 0) else bif op == 22 then co7 l else bif op == 23 then fnF g nm l else bif op == 24 then br5 else bs6 (dl5 op (a0 l) (a1 l))
def giv (v : V) : V := bif Val.okV v then v else br5
theorem dq6 (v : V) : Val.okV (giv v) = true := by
 unfold giv
 cases h : Val.okV v with
 | true => exact h
 | false => show Val.okV br5 = true; decide +kernel
def shp (op : Int) (n : Nat) : Prop := (1 ≤ op ∧ op ≤ 24) ∧ ((op = 3 ∨ op = 4 ∨ op = 5 ∨ op = 6 ∨ op = 21) → n = 1) ∧ ((7 ≤ op ∧ op ≤ 20) → n = 2) ∧ (op = 23 → 1 ≤ n)
theorem dq7 : ∀ (m : Nat) (v : V), okN m v = true → nar v = true := by
 have hp : ∀ (k n d : Int) (s : ByteArray) (l : List V), br7 (.mk k n d s l) = true → l = [] := by
  intro k n d s l h;unfold br7 at h;simp only [V.l, fm4, fk3, beq_iff_eq] at h
  cases l with
  | nil => rfl
  | cons a r => simp at h
 have hstep : ∀ (l : List V) (i : Nat), br9 i l = true → ck2 l = true := by
  intro l
  induction l with
  | nil => intro i _; rfl
  | cons a r ih =>
   intro i h;simp only [br9, fk3] at h;obtain ⟨k, n, d, s, l⟩ := a
   have h2 : br7 (.mk k n d s l) = true := by
    have := h.1;unfold br8 at this;rw [fk3] at this;exact this.2
   obtain rfl := hp k n d s l h2;simp only [ck2, fk3];exact ⟨rfl, ih _ h.2⟩
 have hpath : ∀ l : List V, bs0 l = true → decide (l.length ≤ 2000000) = true ∧ ck2 l = true := by
  intro l h;unfold bs0 at h;simp only [fk3, decide_eq_true_eq] at h;exact ⟨by simp; omega, hstep l 0 h.2⟩
 intro m
 induction m with
 | zero =>
  rintro ⟨k, n, d, s, l⟩ h;simp only [okN, fm4, fk3] at h;simp only [nar, fk3];rcases h with h | h
  ·obtain rfl := hp k n d s l h; exact ⟨rfl, rfl⟩
  ·exact hpath l h.2.2
 | succ m ih =>
  rintro ⟨k, n, d, s, l⟩ h;simp only [okN, fm4, fk3] at h;simp only [nar, fk3];rcases h with (h | h) | h
  ·obtain rfl := hp k n d s l h; exact ⟨rfl, rfl⟩
  ·exact hpath l h.2.2
  ·obtain ⟨⟨-, h2⟩, h3⟩ := h.2;refine ⟨?_, dn6 fun x hx => ih x (fm2.1 h3 x hx)⟩;have := of_decide_eq_true h2;simp only [V.l] at this;simp; omega
theorem dq8 {v : V} (h : Val.okV v = true) : nar v = true := dq7 8 v h
set_option maxHeartbeats 4000000 in
theorem dq9 (g : Gr) (env : List Bd) (v : V) (nm : ByteArray) (ds : Bool) (ks : List Ex) (l : List V) (hg : do2 g) (henv : env.length ≤ 2000000) (hs : shp 1 l.length) (hlen : l.length ≤ 2000000) (hv : ∀ x ∈ l, Val.okV x = true) (hfn : (1 : Int) = 23 → dq4 nm l) :
  EvS E 155 [.ptr 0 0, .d (cy3 (.mk 1 v nm ds ks)), .d (.sl (bp7 l))] [evO g env] (.d (enc (apF g env 1 v nm l))) [evO g env] := by
 have hun : l.length = 1 → ∃ a, l = [a] := fun h => by
  match l, h with
  | [a], _ => exact ⟨a, rfl⟩
 have hbi : l.length = 2 → ∃ a b, l = [a, b] := fun h => by
  match l, h with
  | [a, b], _ => exact ⟨a, b, rfl⟩
 obtain ⟨-, hu, hb, -⟩ := hs;rw [show apF g env 1 v nm l = v from rfl];refine yd func155 ntmps155 fun _ _ _ _=>?_
 repeat' (first | refine yz ?_ | refine yr [0] ?_ | refine yt [0] ?_ | refine yr [0] ?_ | refine yt [0] ?_ | refine yx ?_ | (refine yy ?_ ?_ <;> intro _) | exact zD | exact zL)
set_option maxHeartbeats 4000000 in
theorem dr0 (g : Gr) (env : List Bd) (v : V) (nm : ByteArray) (ds : Bool) (ks : List Ex) (l : List V) (hg : do2 g) (henv : env.length ≤ 2000000) (hs : shp 2 l.length) (hlen : l.length ≤ 2000000) (hv : ∀ x ∈ l, Val.okV x = true) (hfn : (2 : Int) = 23 → dq4 nm l) :
  EvS E 155 [.ptr 0 0, .d (cy3 (.mk 2 v nm ds ks)), .d (.sl (bp7 l))] [evO g env] (.d (enc (apF g env 2 v nm l))) [evO g env] := by
 have hun : l.length = 1 → ∃ a, l = [a] := fun h => by
  match l, h with
  | [a], _ => exact ⟨a, rfl⟩
 have hbi : l.length = 2 → ∃ a b, l = [a, b] := fun h => by
  match l, h with
  | [a, b], _ => exact ⟨a, b, rfl⟩
 obtain ⟨-, hu, hb, -⟩ := hs;rw [show apF g env 2 v nm l = do3 env nm from rfl];have h1 := do4 g env nm henv;refine yd func155 ntmps155 fun _ _ _ _=>?_
 repeat' (first | refine yz ?_ | refine yc [0] b204 (h1) ?_ | refine yr [0] ?_ | refine yt [0] ?_ | refine yx ?_ | (refine yy ?_ ?_ <;> intro _) | exact zD | exact zL)
set_option maxHeartbeats 4000000 in
theorem dr1 (g : Gr) (env : List Bd) (v : V) (nm : ByteArray) (ds : Bool) (ks : List Ex) (l : List V) (hg : do2 g) (henv : env.length ≤ 2000000) (hs : shp 3 l.length) (hlen : l.length ≤ 2000000) (hv : ∀ x ∈ l, Val.okV x = true) (hfn : (3 : Int) = 23 → dq4 nm l) :
  EvS E 155 [.ptr 0 0, .d (cy3 (.mk 3 v nm ds ks)), .d (.sl (bp7 l))] [evO g env] (.d (enc (apF g env 3 v nm l))) [evO g env] := by
 have hun : l.length = 1 → ∃ a, l = [a] := fun h => by
  match l, h with
  | [a], _ => exact ⟨a, rfl⟩
 have hbi : l.length = 2 → ∃ a b, l = [a, b] := fun h => by
  match l, h with
  | [a, b], _ => exact ⟨a, b, rfl⟩
 obtain ⟨-, hu, hb, -⟩ := hs;obtain ⟨a, rfl⟩ := hun (hu (by omega));have hx0 : (bp7 [a])[(0 : Int).toNat]? = some (enc a) := rfl;have oa := hv a (by simp);rw [show apF g env 3 v nm [a] = dp4 g a nm from rfl];have h1 := dp5 g env a nm hg;refine yd func155 ntmps155 fun _ _ _ _=>?_
 repeat' (first | refine yq 7 [6,7] ?_ | refine yf 7 0 6 ?_ | refine yw ?_ | refine rgN ?_ | refine yv ?_ | refine yz ?_ | refine bi4 [0] (id := 7) (i := 6) rfl rfl rfl rfl rfl (FnX.plain _) b205 (h1) rfl rfl rfl rfl rfl (by repeat (first | exact trivial | refine ⟨⟨rfl, rfl⟩, ?_⟩ | refine ⟨trivial, ?_⟩)) ?_ | refine yi (enc a) hx0 ?_ | refine yr [0] ?_ | refine yt [0] ?_ | refine yx ?_ | (refine yy ?_ ?_ <;> intro _) | exact zD | exact zL)
set_option maxHeartbeats 4000000 in
theorem dr2 (g : Gr) (env : List Bd) (v : V) (nm : ByteArray) (ds : Bool) (ks : List Ex) (l : List V) (hg : do2 g) (henv : env.length ≤ 2000000) (hs : shp 4 l.length) (hlen : l.length ≤ 2000000) (hv : ∀ x ∈ l, Val.okV x = true) (hfn : (4 : Int) = 23 → dq4 nm l) :
  EvS E 155 [.ptr 0 0, .d (cy3 (.mk 4 v nm ds ks)), .d (.sl (bp7 l))] [evO g env] (.d (enc (apF g env 4 v nm l))) [evO g env] := by
 have hun : l.length = 1 → ∃ a, l = [a] := fun h => by
  match l, h with
  | [a], _ => exact ⟨a, rfl⟩
 have hbi : l.length = 2 → ∃ a b, l = [a, b] := fun h => by
  match l, h with
  | [a, b], _ => exact ⟨a, b, rfl⟩
 obtain ⟨-, hu, hb, -⟩ := hs;obtain ⟨a, rfl⟩ := hun (hu (by omega));have hx0 : (bp7 [a])[(0 : Int).toNat]? = some (enc a) := rfl;have oa := hv a (by simp);rw [show apF g env 4 v nm [a] = bif do6 g a then br0 (cv9 (do5 g a).labels nm) else br5 from rfl];have h1 := do9 g env a hg;have h2 := cw7 (do5 g a) nm;have h3 := bx6 (cv9 (do5 g a).labels nm)
 cases hn : do6 g a <;> rw [hn] at h1
 all_goals
  refine yd func155 ntmps155 fun _ _ _ _=>?_
  repeat' (first | refine yz ?_ | refine yc [0] bu3 (h1) ?_ | refine yi (enc a) hx0 ?_ | refine yp b207 h2 ?_ | refine yp b206 h3 ?_ | refine yp b92 bx5 ?_ | refine yr [0] ?_ | refine yt [0] ?_ | refine yx ?_ | (refine yy ?_ ?_ <;> intro _) | exact zD | exact zL)
set_option maxHeartbeats 4000000 in
theorem dr3 (g : Gr) (env : List Bd) (v : V) (nm : ByteArray) (ds : Bool) (ks : List Ex) (l : List V) (hg : do2 g) (henv : env.length ≤ 2000000) (hs : shp 5 l.length) (hlen : l.length ≤ 2000000) (hv : ∀ x ∈ l, Val.okV x = true) (hfn : (5 : Int) = 23 → dq4 nm l) :
  EvS E 155 [.ptr 0 0, .d (cy3 (.mk 5 v nm ds ks)), .d (.sl (bp7 l))] [evO g env] (.d (enc (apF g env 5 v nm l))) [evO g env] := by
 have hun : l.length = 1 → ∃ a, l = [a] := fun h => by
  match l, h with
  | [a], _ => exact ⟨a, rfl⟩
 have hbi : l.length = 2 → ∃ a b, l = [a, b] := fun h => by
  match l, h with
  | [a, b], _ => exact ⟨a, b, rfl⟩
 obtain ⟨-, hu, hb, -⟩ := hs;obtain ⟨a, rfl⟩ := hun (hu (by omega));have hx0 : (bp7 [a])[(0 : Int).toNat]? = some (enc a) := rfl;have oa := hv a (by simp);rw [show apF g env 5 v nm [a] = bs6 (2 - kn (bs5 a)) from rfl];have t1 := cb0 cc1 a;have t2 := bx2 (bs5 a);have t3 := by3 (2 - kn (bs5 a));refine yd func155 ntmps155 fun _ _ _ _=>?_
 repeat' (first | refine yz ?_ | refine yi (enc a) hx0 ?_ | refine yp bu9 t1 ?_ | refine yp b209 t2 ?_ | refine yp bu8 t3 ?_ | refine yr [0] ?_ | refine yt [0] ?_ | refine yx ?_ | (refine yy ?_ ?_ <;> intro _) | exact zD | exact zL)
set_option maxHeartbeats 4000000 in
theorem dr4 (g : Gr) (env : List Bd) (v : V) (nm : ByteArray) (ds : Bool) (ks : List Ex) (l : List V) (hg : do2 g) (henv : env.length ≤ 2000000) (hs : shp 6 l.length) (hlen : l.length ≤ 2000000) (hv : ∀ x ∈ l, Val.okV x = true) (hfn : (6 : Int) = 23 → dq4 nm l) :
  EvS E 155 [.ptr 0 0, .d (cy3 (.mk 6 v nm ds ks)), .d (.sl (bp7 l))] [evO g env] (.d (enc (apF g env 6 v nm l))) [evO g env] := by
 have hun : l.length = 1 → ∃ a, l = [a] := fun h => by
  match l, h with
  | [a], _ => exact ⟨a, rfl⟩
 have hbi : l.length = 2 → ∃ a b, l = [a, b] := fun h => by
  match l, h with
  | [a, b], _ => exact ⟨a, b, rfl⟩
 obtain ⟨-, hu, hb, -⟩ := hs;obtain ⟨a, rfl⟩ := hun (hu (by omega));have hx0 : (bp7 [a])[(0 : Int).toNat]? = some (enc a) := rfl;have oa := hv a (by simp);rw [show apF g env 6 v nm [a] = bif bs2 a then br2 (0 - bs3 a) (bs4 a) else br5 from rfl];have n1 := ca8 cc1 a;have r1 := by0 (0 - bs3 a) (bs4 a)
 cases hn : bs2 a with
 | true =>
  rw [hn] at n1;obtain ⟨-, f2, -⟩ := ct4 (dm0 hn);refine yd func155 ntmps155 fun _ _ _ _=>?_
  repeat' (first | refine yz ?_ | refine yi (enc a) hx0 ?_ | refine yp bt9 n1 ?_ | refine yp bu0 r1 ?_ | refine yr [0] ?_ | refine yt [0] ?_ | refine yx ?_ | (refine yy ?_ ?_ <;> intro _) | exact zD | exact zL)
 | false =>
  rw [hn] at n1;refine yd func155 ntmps155 fun _ _ _ _=>?_
  repeat' (first | refine yz ?_ | refine yi (enc a) hx0 ?_ | refine yp bt9 n1 ?_ | refine yp b92 bx5 ?_ | refine yr [0] ?_ | refine yt [0] ?_ | refine yx ?_ | (refine yy ?_ ?_ <;> intro _) | exact zD | exact zL)
set_option maxHeartbeats 4000000 in
theorem dr5 (g : Gr) (env : List Bd) (v : V) (nm : ByteArray) (ds : Bool) (ks : List Ex) (l : List V) (hg : do2 g) (henv : env.length ≤ 2000000) (hs : shp 7 l.length) (hlen : l.length ≤ 2000000) (hv : ∀ x ∈ l, Val.okV x = true) (hfn : (7 : Int) = 23 → dq4 nm l) :
  EvS E 155 [.ptr 0 0, .d (cy3 (.mk 7 v nm ds ks)), .d (.sl (bp7 l))] [evO g env] (.d (enc (apF g env 7 v nm l))) [evO g env] := by
 have hun : l.length = 1 → ∃ a, l = [a] := fun h => by
  match l, h with
  | [a], _ => exact ⟨a, rfl⟩
 have hbi : l.length = 2 → ∃ a b, l = [a, b] := fun h => by
  match l, h with
  | [a, b], _ => exact ⟨a, b, rfl⟩
 obtain ⟨-, hu, hb, -⟩ := hs;obtain ⟨a, b, rfl⟩ := hbi (hb (by omega));have hx0 : (bp7 [a, b])[(0 : Int).toNat]? = some (enc a) := rfl;have hx1 : (bp7 [a, b])[(1 : Int).toNat]? = some (enc b) := rfl;have oa := hv a (by simp);have ob := hv b (by simp);rw [show apF g env 7 v nm [a, b] = arF 7 a b from rfl];have h1 := dm2 7 a b (by omega) oa ob;refine yd func155 ntmps155 fun _ _ _ _=>?_
 repeat' (first | refine yq 29 [9] ?_ | refine yf 29 0 9 ?_ | refine yw ?_ | refine rgN ?_ | refine yv ?_ | refine yz ?_ | refine yi (enc a) hx0 ?_ | refine yi (enc b) hx1 ?_ | refine yp bv0 h1 ?_ | refine yr [0] ?_ | refine yt [0] ?_ | refine yx ?_ | (refine yy ?_ ?_ <;> intro _) | exact zD | exact zL)
set_option maxHeartbeats 4000000 in
theorem dr6 (g : Gr) (env : List Bd) (v : V) (nm : ByteArray) (ds : Bool) (ks : List Ex) (l : List V) (hg : do2 g) (henv : env.length ≤ 2000000) (hs : shp 8 l.length) (hlen : l.length ≤ 2000000) (hv : ∀ x ∈ l, Val.okV x = true) (hfn : (8 : Int) = 23 → dq4 nm l) :
  EvS E 155 [.ptr 0 0, .d (cy3 (.mk 8 v nm ds ks)), .d (.sl (bp7 l))] [evO g env] (.d (enc (apF g env 8 v nm l))) [evO g env] := by
 have hun : l.length = 1 → ∃ a, l = [a] := fun h => by
  match l, h with
  | [a], _ => exact ⟨a, rfl⟩
 have hbi : l.length = 2 → ∃ a b, l = [a, b] := fun h => by
  match l, h with
  | [a, b], _ => exact ⟨a, b, rfl⟩
 obtain ⟨-, hu, hb, -⟩ := hs;obtain ⟨a, b, rfl⟩ := hbi (hb (by omega));have hx0 : (bp7 [a, b])[(0 : Int).toNat]? = some (enc a) := rfl;have hx1 : (bp7 [a, b])[(1 : Int).toNat]? = some (enc b) := rfl;have oa := hv a (by simp);have ob := hv b (by simp);rw [show apF g env 8 v nm [a, b] = arF 8 a b from rfl];have h1 := dm2 8 a b (by omega) oa ob;refine yd func155 ntmps155 fun _ _ _ _=>?_
 repeat' (first | refine yq 29 [9] ?_ | refine yf 29 0 9 ?_ | refine yw ?_ | refine rgN ?_ | refine yv ?_ | refine yz ?_ | refine yi (enc a) hx0 ?_ | refine yi (enc b) hx1 ?_ | refine yp bv0 h1 ?_ | refine yr [0] ?_ | refine yt [0] ?_ | refine yx ?_ | (refine yy ?_ ?_ <;> intro _) | exact zD | exact zL)
set_option maxHeartbeats 4000000 in
theorem dr7 (g : Gr) (env : List Bd) (v : V) (nm : ByteArray) (ds : Bool) (ks : List Ex) (l : List V) (hg : do2 g) (henv : env.length ≤ 2000000) (hs : shp 9 l.length) (hlen : l.length ≤ 2000000) (hv : ∀ x ∈ l, Val.okV x = true) (hfn : (9 : Int) = 23 → dq4 nm l) :
  EvS E 155 [.ptr 0 0, .d (cy3 (.mk 9 v nm ds ks)), .d (.sl (bp7 l))] [evO g env] (.d (enc (apF g env 9 v nm l))) [evO g env] := by
 have hun : l.length = 1 → ∃ a, l = [a] := fun h => by
  match l, h with
  | [a], _ => exact ⟨a, rfl⟩
 have hbi : l.length = 2 → ∃ a b, l = [a, b] := fun h => by
  match l, h with
  | [a, b], _ => exact ⟨a, b, rfl⟩
 obtain ⟨-, hu, hb, -⟩ := hs;obtain ⟨a, b, rfl⟩ := hbi (hb (by omega));have hx0 : (bp7 [a, b])[(0 : Int).toNat]? = some (enc a) := rfl;have hx1 : (bp7 [a, b])[(1 : Int).toNat]? = some (enc b) := rfl;have oa := hv a (by simp);have ob := hv b (by simp);rw [show apF g env 9 v nm [a, b] = arF 9 a b from rfl];have h1 := dm2 9 a b (by omega) oa ob;refine yd func155 ntmps155 fun _ _ _ _=>?_
 repeat' (first | refine yq 29 [9] ?_ | refine yf 29 0 9 ?_ | refine yw ?_ | refine rgN ?_ | refine yv ?_ | refine yz ?_ | refine yi (enc a) hx0 ?_ | refine yi (enc b) hx1 ?_ | refine yp bv0 h1 ?_ | refine yr [0] ?_ | refine yt [0] ?_ | refine yx ?_ | (refine yy ?_ ?_ <;> intro _) | exact zD | exact zL)
set_option maxHeartbeats 4000000 in
theorem dr8 (g : Gr) (env : List Bd) (v : V) (nm : ByteArray) (ds : Bool) (ks : List Ex) (l : List V) (hg : do2 g) (henv : env.length ≤ 2000000) (hs : shp 10 l.length) (hlen : l.length ≤ 2000000) (hv : ∀ x ∈ l, Val.okV x = true) (hfn : (10 : Int) = 23 → dq4 nm l) :
  EvS E 155 [.ptr 0 0, .d (cy3 (.mk 10 v nm ds ks)), .d (.sl (bp7 l))] [evO g env] (.d (enc (apF g env 10 v nm l))) [evO g env] := by
 have hun : l.length = 1 → ∃ a, l = [a] := fun h => by
  match l, h with
  | [a], _ => exact ⟨a, rfl⟩
 have hbi : l.length = 2 → ∃ a b, l = [a, b] := fun h => by
  match l, h with
  | [a, b], _ => exact ⟨a, b, rfl⟩
 obtain ⟨-, hu, hb, -⟩ := hs;obtain ⟨a, b, rfl⟩ := hbi (hb (by omega));have hx0 : (bp7 [a, b])[(0 : Int).toNat]? = some (enc a) := rfl;have hx1 : (bp7 [a, b])[(1 : Int).toNat]? = some (enc b) := rfl;have oa := hv a (by simp);have ob := hv b (by simp);rw [show apF g env 10 v nm [a, b] = arF 10 a b from rfl];have h1 := dm2 10 a b (by omega) oa ob;refine yd func155 ntmps155 fun _ _ _ _=>?_
 repeat' (first | refine yq 29 [9] ?_ | refine yf 29 0 9 ?_ | refine yw ?_ | refine rgN ?_ | refine yv ?_ | refine yz ?_ | refine yi (enc a) hx0 ?_ | refine yi (enc b) hx1 ?_ | refine yp bv0 h1 ?_ | refine yr [0] ?_ | refine yt [0] ?_ | refine yx ?_ | (refine yy ?_ ?_ <;> intro _) | exact zD | exact zL)
set_option maxHeartbeats 4000000 in
theorem dr9 (g : Gr) (env : List Bd) (v : V) (nm : ByteArray) (ds : Bool) (ks : List Ex) (l : List V) (hg : do2 g) (henv : env.length ≤ 2000000) (hs : shp 11 l.length) (hlen : l.length ≤ 2000000) (hv : ∀ x ∈ l, Val.okV x = true) (hfn : (11 : Int) = 23 → dq4 nm l) :
  EvS E 155 [.ptr 0 0, .d (cy3 (.mk 11 v nm ds ks)), .d (.sl (bp7 l))] [evO g env] (.d (enc (apF g env 11 v nm l))) [evO g env] := by
 have hun : l.length = 1 → ∃ a, l = [a] := fun h => by
  match l, h with
  | [a], _ => exact ⟨a, rfl⟩
 have hbi : l.length = 2 → ∃ a b, l = [a, b] := fun h => by
  match l, h with
  | [a, b], _ => exact ⟨a, b, rfl⟩
 obtain ⟨-, hu, hb, -⟩ := hs;obtain ⟨a, b, rfl⟩ := hbi (hb (by omega));have hx0 : (bp7 [a, b])[(0 : Int).toNat]? = some (enc a) := rfl;have hx1 : (bp7 [a, b])[(1 : Int).toNat]? = some (enc b) := rfl;have oa := hv a (by simp);have ob := hv b (by simp);rw [show apF g env 11 v nm [a, b] = arF 11 a b from rfl];have h1 := dm2 11 a b (by omega) oa ob;refine yd func155 ntmps155 fun _ _ _ _=>?_
 repeat' (first | refine yq 29 [9] ?_ | refine yf 29 0 9 ?_ | refine yw ?_ | refine rgN ?_ | refine yv ?_ | refine yz ?_ | refine yi (enc a) hx0 ?_ | refine yi (enc b) hx1 ?_ | refine yp bv0 h1 ?_ | refine yr [0] ?_ | refine yt [0] ?_ | refine yx ?_ | (refine yy ?_ ?_ <;> intro _) | exact zD | exact zL)
set_option maxHeartbeats 4000000 in
theorem ds0 (g : Gr) (env : List Bd) (v : V) (nm : ByteArray) (ds : Bool) (ks : List Ex) (l : List V) (hg : do2 g) (henv : env.length ≤ 2000000) (hs : shp 12 l.length) (hlen : l.length ≤ 2000000) (hv : ∀ x ∈ l, Val.okV x = true) (hfn : (12 : Int) = 23 → dq4 nm l) :
  EvS E 155 [.ptr 0 0, .d (cy3 (.mk 12 v nm ds ks)), .d (.sl (bp7 l))] [evO g env] (.d (enc (apF g env 12 v nm l))) [evO g env] := by
 have hun : l.length = 1 → ∃ a, l = [a] := fun h => by
  match l, h with
  | [a], _ => exact ⟨a, rfl⟩
 have hbi : l.length = 2 → ∃ a b, l = [a, b] := fun h => by
  match l, h with
  | [a, b], _ => exact ⟨a, b, rfl⟩
 obtain ⟨-, hu, hb, -⟩ := hs;obtain ⟨a, b, rfl⟩ := hbi (hb (by omega));have hx0 : (bp7 [a, b])[(0 : Int).toNat]? = some (enc a) := rfl;have hx1 : (bp7 [a, b])[(1 : Int).toNat]? = some (enc b) := rfl;have oa := hv a (by simp);have ob := hv b (by simp);rw [show apF g env 12 v nm [a, b] = bs6 (dl5 12 a b) from rfl];have h1 := dl7 12 a b;have h2 := by3 (dl5 12 a b);refine yd func155 ntmps155 fun _ _ _ _=>?_
 repeat' (first | refine yq 38 [10] ?_ | refine yf 38 0 10 ?_ | refine yw ?_ | refine rgN ?_ | refine yv ?_ | refine yz ?_ | refine yi (enc a) hx0 ?_ | refine yi (enc b) hx1 ?_ | refine yp bv1 h1 ?_ | refine yp bu8 h2 ?_ | refine yr [0] ?_ | refine yt [0] ?_ | refine yx ?_ | (refine yy ?_ ?_ <;> intro _) | exact zD | exact zL)
set_option maxHeartbeats 4000000 in
theorem ds1 (g : Gr) (env : List Bd) (v : V) (nm : ByteArray) (ds : Bool) (ks : List Ex) (l : List V) (hg : do2 g) (henv : env.length ≤ 2000000) (hs : shp 13 l.length) (hlen : l.length ≤ 2000000) (hv : ∀ x ∈ l, Val.okV x = true) (hfn : (13 : Int) = 23 → dq4 nm l) :
  EvS E 155 [.ptr 0 0, .d (cy3 (.mk 13 v nm ds ks)), .d (.sl (bp7 l))] [evO g env] (.d (enc (apF g env 13 v nm l))) [evO g env] := by
 have hun : l.length = 1 → ∃ a, l = [a] := fun h => by
  match l, h with
  | [a], _ => exact ⟨a, rfl⟩
 have hbi : l.length = 2 → ∃ a b, l = [a, b] := fun h => by
  match l, h with
  | [a, b], _ => exact ⟨a, b, rfl⟩
 obtain ⟨-, hu, hb, -⟩ := hs;obtain ⟨a, b, rfl⟩ := hbi (hb (by omega));have hx0 : (bp7 [a, b])[(0 : Int).toNat]? = some (enc a) := rfl;have hx1 : (bp7 [a, b])[(1 : Int).toNat]? = some (enc b) := rfl;have oa := hv a (by simp);have ob := hv b (by simp);rw [show apF g env 13 v nm [a, b] = bs6 (dl5 13 a b) from rfl];have h1 := dl7 13 a b;have h2 := by3 (dl5 13 a b);refine yd func155 ntmps155 fun _ _ _ _=>?_
 repeat' (first | refine yq 38 [10] ?_ | refine yf 38 0 10 ?_ | refine yw ?_ | refine rgN ?_ | refine yv ?_ | refine yz ?_ | refine yi (enc a) hx0 ?_ | refine yi (enc b) hx1 ?_ | refine yp bv1 h1 ?_ | refine yp bu8 h2 ?_ | refine yr [0] ?_ | refine yt [0] ?_ | refine yx ?_ | (refine yy ?_ ?_ <;> intro _) | exact zD | exact zL)
set_option maxHeartbeats 4000000 in
theorem ds2 (g : Gr) (env : List Bd) (v : V) (nm : ByteArray) (ds : Bool) (ks : List Ex) (l : List V) (hg : do2 g) (henv : env.length ≤ 2000000) (hs : shp 14 l.length) (hlen : l.length ≤ 2000000) (hv : ∀ x ∈ l, Val.okV x = true) (hfn : (14 : Int) = 23 → dq4 nm l) :
  EvS E 155 [.ptr 0 0, .d (cy3 (.mk 14 v nm ds ks)), .d (.sl (bp7 l))] [evO g env] (.d (enc (apF g env 14 v nm l))) [evO g env] := by
 have hun : l.length = 1 → ∃ a, l = [a] := fun h => by
  match l, h with
  | [a], _ => exact ⟨a, rfl⟩
 have hbi : l.length = 2 → ∃ a b, l = [a, b] := fun h => by
  match l, h with
  | [a, b], _ => exact ⟨a, b, rfl⟩
 obtain ⟨-, hu, hb, -⟩ := hs;obtain ⟨a, b, rfl⟩ := hbi (hb (by omega));have hx0 : (bp7 [a, b])[(0 : Int).toNat]? = some (enc a) := rfl;have hx1 : (bp7 [a, b])[(1 : Int).toNat]? = some (enc b) := rfl;have oa := hv a (by simp);have ob := hv b (by simp);rw [show apF g env 14 v nm [a, b] = bs6 (dl5 14 a b) from rfl];have h1 := dl7 14 a b;have h2 := by3 (dl5 14 a b);refine yd func155 ntmps155 fun _ _ _ _=>?_
 repeat' (first | refine yq 38 [10] ?_ | refine yf 38 0 10 ?_ | refine yw ?_ | refine rgN ?_ | refine yv ?_ | refine yz ?_ | refine yi (enc a) hx0 ?_ | refine yi (enc b) hx1 ?_ | refine yp bv1 h1 ?_ | refine yp bu8 h2 ?_ | refine yr [0] ?_ | refine yt [0] ?_ | refine yx ?_ | (refine yy ?_ ?_ <;> intro _) | exact zD | exact zL)
set_option maxHeartbeats 4000000 in
theorem ds3 (g : Gr) (env : List Bd) (v : V) (nm : ByteArray) (ds : Bool) (ks : List Ex) (l : List V) (hg : do2 g) (henv : env.length ≤ 2000000) (hs : shp 15 l.length) (hlen : l.length ≤ 2000000) (hv : ∀ x ∈ l, Val.okV x = true) (hfn : (15 : Int) = 23 → dq4 nm l) :
  EvS E 155 [.ptr 0 0, .d (cy3 (.mk 15 v nm ds ks)), .d (.sl (bp7 l))] [evO g env] (.d (enc (apF g env 15 v nm l))) [evO g env] := by
 have hun : l.length = 1 → ∃ a, l = [a] := fun h => by
  match l, h with
  | [a], _ => exact ⟨a, rfl⟩
 have hbi : l.length = 2 → ∃ a b, l = [a, b] := fun h => by
  match l, h with
  | [a, b], _ => exact ⟨a, b, rfl⟩
 obtain ⟨-, hu, hb, -⟩ := hs;obtain ⟨a, b, rfl⟩ := hbi (hb (by omega));have hx0 : (bp7 [a, b])[(0 : Int).toNat]? = some (enc a) := rfl;have hx1 : (bp7 [a, b])[(1 : Int).toNat]? = some (enc b) := rfl;have oa := hv a (by simp);have ob := hv b (by simp);rw [show apF g env 15 v nm [a, b] = bs6 (dl5 15 a b) from rfl];have h1 := dl7 15 a b;have h2 := by3 (dl5 15 a b);refine yd func155 ntmps155 fun _ _ _ _=>?_
 repeat' (first | refine yq 38 [10] ?_ | refine yf 38 0 10 ?_ | refine yw ?_ | refine rgN ?_ | refine yv ?_ | refine yz ?_ | refine yi (enc a) hx0 ?_ | refine yi (enc b) hx1 ?_ | refine yp bv1 h1 ?_ | refine yp bu8 h2 ?_ | refine yr [0] ?_ | refine yt [0] ?_ | refine yx ?_ | (refine yy ?_ ?_ <;> intro _) | exact zD | exact zL)
set_option maxHeartbeats 4000000 in
theorem ds4 (g : Gr) (env : List Bd) (v : V) (nm : ByteArray) (ds : Bool) (ks : List Ex) (l : List V) (hg : do2 g) (henv : env.length ≤ 2000000) (hs : shp 16 l.length) (hlen : l.length ≤ 2000000) (hv : ∀ x ∈ l, Val.okV x = true) (hfn : (16 : Int) = 23 → dq4 nm l) :
  EvS E 155 [.ptr 0 0, .d (cy3 (.mk 16 v nm ds ks)), .d (.sl (bp7 l))] [evO g env] (.d (enc (apF g env 16 v nm l))) [evO g env] := by
 have hun : l.length = 1 → ∃ a, l = [a] := fun h => by
  match l, h with
  | [a], _ => exact ⟨a, rfl⟩
 have hbi : l.length = 2 → ∃ a b, l = [a, b] := fun h => by
  match l, h with
  | [a, b], _ => exact ⟨a, b, rfl⟩
 obtain ⟨-, hu, hb, -⟩ := hs;obtain ⟨a, b, rfl⟩ := hbi (hb (by omega));have hx0 : (bp7 [a, b])[(0 : Int).toNat]? = some (enc a) := rfl;have hx1 : (bp7 [a, b])[(1 : Int).toNat]? = some (enc b) := rfl;have oa := hv a (by simp);have ob := hv b (by simp);rw [show apF g env 16 v nm [a, b] = bs6 (dl5 16 a b) from rfl];have h1 := dl7 16 a b;have h2 := by3 (dl5 16 a b);refine yd func155 ntmps155 fun _ _ _ _=>?_
 repeat' (first | refine yq 38 [10] ?_ | refine yf 38 0 10 ?_ | refine yw ?_ | refine rgN ?_ | refine yv ?_ | refine yz ?_ | refine yi (enc a) hx0 ?_ | refine yi (enc b) hx1 ?_ | refine yp bv1 h1 ?_ | refine yp bu8 h2 ?_ | refine yr [0] ?_ | refine yt [0] ?_ | refine yx ?_ | (refine yy ?_ ?_ <;> intro _) | exact zD | exact zL)
set_option maxHeartbeats 4000000 in
theorem ds5 (g : Gr) (env : List Bd) (v : V) (nm : ByteArray) (ds : Bool) (ks : List Ex) (l : List V) (hg : do2 g) (henv : env.length ≤ 2000000) (hs : shp 17 l.length) (hlen : l.length ≤ 2000000) (hv : ∀ x ∈ l, Val.okV x = true) (hfn : (17 : Int) = 23 → dq4 nm l) :
  EvS E 155 [.ptr 0 0, .d (cy3 (.mk 17 v nm ds ks)), .d (.sl (bp7 l))] [evO g env] (.d (enc (apF g env 17 v nm l))) [evO g env] := by
 have hun : l.length = 1 → ∃ a, l = [a] := fun h => by
  match l, h with
  | [a], _ => exact ⟨a, rfl⟩
 have hbi : l.length = 2 → ∃ a b, l = [a, b] := fun h => by
  match l, h with
  | [a, b], _ => exact ⟨a, b, rfl⟩
 obtain ⟨-, hu, hb, -⟩ := hs;obtain ⟨a, b, rfl⟩ := hbi (hb (by omega));have hx0 : (bp7 [a, b])[(0 : Int).toNat]? = some (enc a) := rfl;have hx1 : (bp7 [a, b])[(1 : Int).toNat]? = some (enc b) := rfl;have oa := hv a (by simp);have ob := hv b (by simp);rw [show apF g env 17 v nm [a, b] = bs6 (dl5 17 a b) from rfl];have h1 := dl7 17 a b;have h2 := by3 (dl5 17 a b);refine yd func155 ntmps155 fun _ _ _ _=>?_
 repeat' (first | refine yq 38 [10] ?_ | refine yf 38 0 10 ?_ | refine yw ?_ | refine rgN ?_ | refine yv ?_ | refine yz ?_ | refine yi (enc a) hx0 ?_ | refine yi (enc b) hx1 ?_ | refine yp bv1 h1 ?_ | refine yp bu8 h2 ?_ | refine yr [0] ?_ | refine yt [0] ?_ | refine yx ?_ | (refine yy ?_ ?_ <;> intro _) | exact zD | exact zL)
set_option maxHeartbeats 4000000 in
theorem ds6 (g : Gr) (env : List Bd) (v : V) (nm : ByteArray) (ds : Bool) (ks : List Ex) (l : List V) (hg : do2 g) (henv : env.length ≤ 2000000) (hs : shp 18 l.length) (hlen : l.length ≤ 2000000) (hv : ∀ x ∈ l, Val.okV x = true) (hfn : (18 : Int) = 23 → dq4 nm l) :
  EvS E 155 [.ptr 0 0, .d (cy3 (.mk 18 v nm ds ks)), .d (.sl (bp7 l))] [evO g env] (.d (enc (apF g env 18 v nm l))) [evO g env] := by
 have hun : l.length = 1 → ∃ a, l = [a] := fun h => by
  match l, h with
  | [a], _ => exact ⟨a, rfl⟩
 have hbi : l.length = 2 → ∃ a b, l = [a, b] := fun h => by
  match l, h with
  | [a, b], _ => exact ⟨a, b, rfl⟩
 obtain ⟨-, hu, hb, -⟩ := hs;obtain ⟨a, b, rfl⟩ := hbi (hb (by omega));have hx0 : (bp7 [a, b])[(0 : Int).toNat]? = some (enc a) := rfl;have hx1 : (bp7 [a, b])[(1 : Int).toNat]? = some (enc b) := rfl;have oa := hv a (by simp);have ob := hv b (by simp);rw [show apF g env 18 v nm [a, b] = bs6 (min (kn (bs5 a)) (kn (bs5 b))) from rfl];have t1 := cb0 cc1 a;have t2 := cb0 cc1 b;have t3 := bx3 (bs5 a) (bs5 b);have t4 := by3 (min (kn (bs5 a)) (kn (bs5 b)));refine yd func155 ntmps155 fun _ _ _ _=>?_
 repeat' (first | refine yq 16 [10] ?_ | refine yf 16 0 10 ?_ | refine yw ?_ | refine rgN ?_ | refine yv ?_ | refine yz ?_ | refine yi (enc a) hx0 ?_ | refine yi (enc b) hx1 ?_ | refine yp bu9 t1 ?_ | refine yp bu9 t2 ?_ | refine yp b211 t3 ?_ | refine yp bu8 t4 ?_ | refine yr [0] ?_ | refine yt [0] ?_ | refine yx ?_ | (refine yy ?_ ?_ <;> intro _) | exact zD | exact zL)
set_option maxHeartbeats 4000000 in
theorem ds7 (g : Gr) (env : List Bd) (v : V) (nm : ByteArray) (ds : Bool) (ks : List Ex) (l : List V) (hg : do2 g) (henv : env.length ≤ 2000000) (hs : shp 19 l.length) (hlen : l.length ≤ 2000000) (hv : ∀ x ∈ l, Val.okV x = true) (hfn : (19 : Int) = 23 → dq4 nm l) :
  EvS E 155 [.ptr 0 0, .d (cy3 (.mk 19 v nm ds ks)), .d (.sl (bp7 l))] [evO g env] (.d (enc (apF g env 19 v nm l))) [evO g env] := by
 have hun : l.length = 1 → ∃ a, l = [a] := fun h => by
  match l, h with
  | [a], _ => exact ⟨a, rfl⟩
 have hbi : l.length = 2 → ∃ a b, l = [a, b] := fun h => by
  match l, h with
  | [a, b], _ => exact ⟨a, b, rfl⟩
 obtain ⟨-, hu, hb, -⟩ := hs;obtain ⟨a, b, rfl⟩ := hbi (hb (by omega));have hx0 : (bp7 [a, b])[(0 : Int).toNat]? = some (enc a) := rfl;have hx1 : (bp7 [a, b])[(1 : Int).toNat]? = some (enc b) := rfl;have oa := hv a (by simp);have ob := hv b (by simp);rw [show apF g env 19 v nm [a, b] = bs6 (max (kn (bs5 a)) (kn (bs5 b))) from rfl];have t1 := cb0 cc1 a;have t2 := cb0 cc1 b;have t3 := bx4 (bs5 a) (bs5 b);have t4 := by3 (max (kn (bs5 a)) (kn (bs5 b)));refine yd func155 ntmps155 fun _ _ _ _=>?_
 repeat' (first | refine yq 18 [10] ?_ | refine yf 18 0 10 ?_ | refine yw ?_ | refine rgN ?_ | refine yv ?_ | refine yz ?_ | refine yi (enc a) hx0 ?_ | refine yi (enc b) hx1 ?_ | refine yp bu9 t1 ?_ | refine yp bu9 t2 ?_ | refine yp b212 t3 ?_ | refine yp bu8 t4 ?_ | refine yr [0] ?_ | refine yt [0] ?_ | refine yx ?_ | (refine yy ?_ ?_ <;> intro _) | exact zD | exact zL)
set_option maxHeartbeats 4000000 in
theorem ds8 (g : Gr) (env : List Bd) (v : V) (nm : ByteArray) (ds : Bool) (ks : List Ex) (l : List V) (hg : do2 g) (henv : env.length ≤ 2000000) (hs : shp 20 l.length) (hlen : l.length ≤ 2000000) (hv : ∀ x ∈ l, Val.okV x = true) (hfn : (20 : Int) = 23 → dq4 nm l) :
  EvS E 155 [.ptr 0 0, .d (cy3 (.mk 20 v nm ds ks)), .d (.sl (bp7 l))] [evO g env] (.d (enc (apF g env 20 v nm l))) [evO g env] := by
 have hun : l.length = 1 → ∃ a, l = [a] := fun h => by
  match l, h with
  | [a], _ => exact ⟨a, rfl⟩
 have hbi : l.length = 2 → ∃ a b, l = [a, b] := fun h => by
  match l, h with
  | [a, b], _ => exact ⟨a, b, rfl⟩
 obtain ⟨-, hu, hb, -⟩ := hs;obtain ⟨a, b, rfl⟩ := hbi (hb (by omega));have hx0 : (bp7 [a, b])[(0 : Int).toNat]? = some (enc a) := rfl;have hx1 : (bp7 [a, b])[(1 : Int).toNat]? = some (enc b) := rfl;have oa := hv a (by simp);have ob := hv b (by simp);rw [show apF g env 20 v nm [a, b] = bs6 (dl5 20 a b) from rfl];have h1 := dl7 20 a b;have h2 := by3 (dl5 20 a b);refine yd func155 ntmps155 fun _ _ _ _=>?_
 repeat' (first | refine yq 38 [10] ?_ | refine yf 38 0 10 ?_ | refine yw ?_ | refine rgN ?_ | refine yv ?_ | refine yz ?_ | refine yi (enc a) hx0 ?_ | refine yi (enc b) hx1 ?_ | refine yp bv1 h1 ?_ | refine yp bu8 h2 ?_ | refine yr [0] ?_ | refine yt [0] ?_ | refine yx ?_ | (refine yy ?_ ?_ <;> intro _) | exact zD | exact zL)
set_option maxHeartbeats 4000000 in
theorem ds9 (g : Gr) (env : List Bd) (v : V) (nm : ByteArray) (ds : Bool) (ks : List Ex) (l : List V) (hg : do2 g) (henv : env.length ≤ 2000000) (hs : shp 21 l.length) (hlen : l.length ≤ 2000000) (hv : ∀ x ∈ l, Val.okV x = true) (hfn : (21 : Int) = 23 → dq4 nm l) :
  EvS E 155 [.ptr 0 0, .d (cy3 (.mk 21 v nm ds ks)), .d (.sl (bp7 l))] [evO g env] (.d (enc (apF g env 21 v nm l))) [evO g env] := by
 have hun : l.length = 1 → ∃ a, l = [a] := fun h => by
  match l, h with
  | [a], _ => exact ⟨a, rfl⟩
 have hbi : l.length = 2 → ∃ a b, l = [a, b] := fun h => by
  match l, h with
  | [a, b], _ => exact ⟨a, b, rfl⟩
 obtain ⟨-, hu, hb, -⟩ := hs;obtain ⟨a, rfl⟩ := hun (hu (by omega));have hx0 : (bp7 [a])[(0 : Int).toNat]? = some (enc a) := rfl;have oa := hv a (by simp);rw [show apF g env 21 v nm [a] = br0 (a.k == 0) from rfl];have h1 := bx6 (a.k == 0);refine yd func155 ntmps155 fun _ _ _ _=>?_
 repeat' (first | refine yz ?_ | refine yi (enc a) hx0 ?_ | refine yp b206 h1 ?_ | refine yr [0] ?_ | refine yt [0] ?_ | refine yx ?_ | (refine yy ?_ ?_ <;> intro _) | exact zD | exact zL)
set_option maxHeartbeats 4000000 in
theorem dt0 (g : Gr) (env : List Bd) (v : V) (nm : ByteArray) (ds : Bool) (ks : List Ex) (l : List V) (hg : do2 g) (henv : env.length ≤ 2000000) (hs : shp 22 l.length) (hlen : l.length ≤ 2000000) (hv : ∀ x ∈ l, Val.okV x = true) (hfn : (22 : Int) = 23 → dq4 nm l) :
  EvS E 155 [.ptr 0 0, .d (cy3 (.mk 22 v nm ds ks)), .d (.sl (bp7 l))] [evO g env] (.d (enc (apF g env 22 v nm l))) [evO g env] := by
 have hun : l.length = 1 → ∃ a, l = [a] := fun h => by
  match l, h with
  | [a], _ => exact ⟨a, rfl⟩
 have hbi : l.length = 2 → ∃ a b, l = [a, b] := fun h => by
  match l, h with
  | [a, b], _ => exact ⟨a, b, rfl⟩
 obtain ⟨-, hu, hb, -⟩ := hs;rw [show apF g env 22 v nm l = co7 l from rfl];have h1 := co8 l (dn7 hlen fun x hx => dq8 (hv x hx));refine yd func155 ntmps155 fun _ _ _ _=>?_
 repeat' (first | refine yz ?_ | refine yp bu4 h1 ?_ | refine yr [0] ?_ | refine yt [0] ?_ | refine yx ?_ | (refine yy ?_ ?_ <;> intro _) | exact zD | exact zL)
set_option maxHeartbeats 4000000 in
theorem dt1 (g : Gr) (env : List Bd) (v : V) (nm : ByteArray) (ds : Bool) (ks : List Ex) (l : List V) (hg : do2 g) (henv : env.length ≤ 2000000) (hs : shp 23 l.length) (hlen : l.length ≤ 2000000) (hv : ∀ x ∈ l, Val.okV x = true) (hfn : (23 : Int) = 23 → dq4 nm l) :
  EvS E 155 [.ptr 0 0, .d (cy3 (.mk 23 v nm ds ks)), .d (.sl (bp7 l))] [evO g env] (.d (enc (apF g env 23 v nm l))) [evO g env] := by
 have hun : l.length = 1 → ∃ a, l = [a] := fun h => by
  match l, h with
  | [a], _ => exact ⟨a, rfl⟩
 have hbi : l.length = 2 → ∃ a b, l = [a, b] := fun h => by
  match l, h with
  | [a, b], _ => exact ⟨a, b, rfl⟩
 obtain ⟨-, hu, hb, -⟩ := hs;rw [show apF g env 23 v nm l = fnF g nm l from rfl];have h1 := dq5 g env nm l hg (hfn rfl);refine yd func155 ntmps155 fun _ _ _ _=>?_
 repeat' (first | refine yq 35 [7,8] ?_ | refine yf 35 0 7 ?_ | refine yw ?_ | refine rgN ?_ | refine yv ?_ | refine yz ?_ | refine bi5 [0] (id := 35) (i := 7) rfl rfl rfl rfl rfl rfl b93 (h1) rfl rfl rfl rfl rfl (by repeat (first | exact trivial | refine ⟨⟨rfl, rfl⟩, ?_⟩ | refine ⟨trivial, ?_⟩)) ?_ | refine yr [0] ?_ | refine yt [0] ?_ | refine yx ?_ | (refine yy ?_ ?_ <;> intro _) | exact zD | exact zL)
set_option maxHeartbeats 4000000 in
theorem dt2 (g : Gr) (env : List Bd) (v : V) (nm : ByteArray) (ds : Bool) (ks : List Ex) (l : List V) (hg : do2 g) (henv : env.length ≤ 2000000) (hs : shp 24 l.length) (hlen : l.length ≤ 2000000) (hv : ∀ x ∈ l, Val.okV x = true) (hfn : (24 : Int) = 23 → dq4 nm l) :
  EvS E 155 [.ptr 0 0, .d (cy3 (.mk 24 v nm ds ks)), .d (.sl (bp7 l))] [evO g env] (.d (enc (apF g env 24 v nm l))) [evO g env] := by
 have hun : l.length = 1 → ∃ a, l = [a] := fun h => by
  match l, h with
  | [a], _ => exact ⟨a, rfl⟩
 have hbi : l.length = 2 → ∃ a b, l = [a, b] := fun h => by
  match l, h with
  | [a, b], _ => exact ⟨a, b, rfl⟩
 obtain ⟨-, hu, hb, -⟩ := hs;rw [show apF g env 24 v nm l = br5 from rfl];refine yd func155 ntmps155 fun _ _ _ _=>?_
 repeat' (first | refine yz ?_ | refine yp b92 bx5 ?_ | refine yr [0] ?_ | refine yt [0] ?_ | refine yx ?_ | (refine yy ?_ ?_ <;> intro _) | exact zD | exact zL)
theorem dt3 (g : Gr) (env : List Bd) (op : Int) (v : V) (nm : ByteArray) (ds : Bool) (ks : List Ex) (l : List V) (hg : do2 g) (henv : env.length ≤ 2000000) (hs : shp op l.length) (hlen : l.length ≤ 2000000) (hv : ∀ x ∈ l, Val.okV x = true) (hfn : op = 23 → dq4 nm l) :
  EvS E 155 [.ptr 0 0, .d (cy3 (.mk op v nm ds ks)), .d (.sl (bp7 l))] [evO g env] (.d (enc (apF g env op v nm l))) [evO g env] := by
 have hop : op = 1 ∨ op = 2 ∨ op = 3 ∨ op = 4 ∨ op = 5 ∨ op = 6 ∨ op = 7 ∨ op = 8 ∨ op = 9 ∨ op = 10 ∨ op = 11 ∨ op = 12 ∨ op = 13 ∨ op = 14 ∨ op = 15 ∨ op = 16 ∨ op = 17 ∨ op = 18 ∨ op = 19 ∨ op = 20 ∨ op = 21 ∨ op = 22 ∨ op = 23 ∨ op = 24 := by have := hs.1; omega
 rcases hop with rfl | rfl | rfl | rfl | rfl | rfl | rfl | rfl | rfl | rfl | rfl | rfl | rfl | rfl | rfl | rfl | rfl | rfl | rfl | rfl | rfl | rfl | rfl | rfl
 ·exact dq9 g env v nm ds ks l hg henv hs hlen hv hfn
 ·exact dr0 g env v nm ds ks l hg henv hs hlen hv hfn
 ·exact dr1 g env v nm ds ks l hg henv hs hlen hv hfn
 ·exact dr2 g env v nm ds ks l hg henv hs hlen hv hfn
 ·exact dr3 g env v nm ds ks l hg henv hs hlen hv hfn
 ·exact dr4 g env v nm ds ks l hg henv hs hlen hv hfn
 ·exact dr5 g env v nm ds ks l hg henv hs hlen hv hfn
 ·exact dr6 g env v nm ds ks l hg henv hs hlen hv hfn
 ·exact dr7 g env v nm ds ks l hg henv hs hlen hv hfn
 ·exact dr8 g env v nm ds ks l hg henv hs hlen hv hfn
 ·exact dr9 g env v nm ds ks l hg henv hs hlen hv hfn
 ·exact ds0 g env v nm ds ks l hg henv hs hlen hv hfn
 ·exact ds1 g env v nm ds ks l hg henv hs hlen hv hfn
 ·exact ds2 g env v nm ds ks l hg henv hs hlen hv hfn
 ·exact ds3 g env v nm ds ks l hg henv hs hlen hv hfn
 ·exact ds4 g env v nm ds ks l hg henv hs hlen hv hfn
 ·exact ds5 g env v nm ds ks l hg henv hs hlen hv hfn
 ·exact ds6 g env v nm ds ks l hg henv hs hlen hv hfn
 ·exact ds7 g env v nm ds ks l hg henv hs hlen hv hfn
 ·exact ds8 g env v nm ds ks l hg henv hs hlen hv hfn
 ·exact ds9 g env v nm ds ks l hg henv hs hlen hv hfn
 ·exact dt0 g env v nm ds ks l hg henv hs hlen hv hfn
 ·exact dt1 g env v nm ds ks l hg henv hs hlen hv hfn
 ·exact dt2 g env v nm ds ks l hg henv hs hlen hv hfn
mutual
def evF (g : Gr) (env : List Bd) : Ex → V
 | .mk op v nm _ ks => giv (apF g env op v nm (evL g env ks))
def evL (g : Gr) (env : List Bd) : List Ex → List V
 | [] => []
 | x :: r => evF g env x :: evL g env r
end
theorem dt4 (g : Gr) (env : List Bd) (l : List Ex) : evL g env l = l.map (evF g env) := by
 induction l with
 | nil => simp [evL]
 | cons v r ih => simp [evL, ih]
theorem dt5 (g : Gr) (env : List Bd) (l : List Ex) : (evL g env l).length = l.length := by rw [dt4]; simp
theorem dt6 (g : Gr) (env : List Bd) (l : List Ex) : ∀ x ∈ evL g env l, Val.okV x = true := by
 intro x hx;rw [dt4] at hx;obtain ⟨e, -, rfl⟩ := fo8.1 hx
 cases e
 simp only [evF];exact dq6 _
mutual
def okE (g : Gr) (env : List Bd) : Ex → Prop
 | .mk op _ nm _ ks => shp op ks.length ∧ ks.length ≤ 2000000 ∧ (op = 23 → eqS nm dp8 = true → (txt (a0 (evL g env ks))).length ≤ 1099511627776) ∧ dt7 g env ks
def dt7 (g : Gr) (env : List Bd) : List Ex → Prop
 | [] => True
 | x :: r => okE g env x ∧ dt7 g env r
end
theorem dt8 {g : Gr} {env : List Bd} : ∀ {l : List Ex}, dt7 g env l → ∀ x ∈ l, okE g env x
 | [], _, x, h => by simp at h
 | a :: r, h, x, hx => by
  simp only [dt7] at h;rcases fl1.1 hx with rfl | hx
  ·exact h.1
  ·exact dt8 h.2 x hx
theorem fn_ok {g : Gr} {env : List Bd} {nm : ByteArray} {ks : List Ex} (h1 : 1 ≤ ks.length) (hl : ks.length ≤ 2000000) (ht : eqS nm dp8 = true → (txt (a0 (evL g env ks))).length ≤ 1099511627776) : dq4 nm (evL g env ks) := by
 refine ⟨fun h => ?_, by rw [dt5]; exact hl, fun x hx => dq8 (dt6 g env ks x hx), ht, ?_⟩
 ·have := congrArg List.length h;rw [dt5, fm6] at this;omega
 ·refine (ck4 (dq8 ?_)).1;unfold a0
  cases he : evL g env ks with
  | nil => decide +kernel
  | cons a r => exact dt6 g env ks a (by rw [he]; simp)
theorem dt9 {g : Gr} {env : List Bd} {ks : List Ex} {i : Nat} {x : Ex} (h : ks[i]? = some x) : bp7 (evL g env (ks.take (i + 1))) = bp7 (evL g env (ks.take i)) ++ [enc (evF g env x)] := by
 have hi := (fk2.1 h).1;rw [fs7 hi];rw [fk0 hi] at h
 cases h
 simp only [dt4, fo1, fl5, fm9, bp8]
set_option maxHeartbeats 4000000 in
theorem du0 (g : Gr) (env : List Bd) (hg : do2 g) (henv : env.length ≤ 2000000) (e : Ex) : okE g env e → EvS E 95 [.ptr 0 0, .d (cy3 e)] [evO g env] (.d (enc (evF g env e))) [evO g env] := by
 refine cz2 (P := fun e => okE g env e → EvS E 95 [.ptr 0 0, .d (cy3 e)] [evO g env] (.d (enc (evF g env e))) [evO g env]) (fun op v nm ds ks ih hok => ?_) e;simp only [okE] at hok;obtain ⟨hs, hmax, htx, hks⟩ := hok;have hlen : (cy1 (.mk op v nm ds ks)).length = ks.length := cy8 _;have hkg : ∀ (i : Nat) (x : Ex), ks[i]? = some x → (cy1 (.mk op v nm ds ks))[(i : Int).toNat]? = some (cy3 x) := fun i x h => cy6 (e := .mk op v nm ds ks) (by rw [fl0]; exact h)
 have hVal := ca6 cc1 (apF g env op v nm (evL g env ks));have hev : evF g env (.mk op v nm ds ks) = bif Val.okV (apF g env op v nm (evL g env ks)) then apF g env op v nm (evL g env ks) else br5 := by simp only [evF, giv]
 rw [hev];clear hev
 cases h24 : op != 24 with
 | false =>
  obtain rfl : op = 24 := by simpa using h24
  have hap := dt3 g env 24 v nm ds ks [] hg henv ⟨by omega, by omega, by omega, by omega⟩ (by simp) (by simp) (by omega);rw [show apF g env 24 v nm [] = br5 from rfl] at hap;rw [show apF g env 24 v nm (evL g env ks) = br5 from rfl] at hVal ⊢;have ho : Val.okV br5 = true := by decide +kernel
  rw [ho] at hVal ⊢;refine yd func95 ntmps95 fun _ _ _ _=>?_
  repeat' (first | refine yz ?_ | refine yc [0] b155 (hap) ?_ | refine yp bt7 hVal ?_ | refine yr [0] ?_ | exact zD)
 | true =>
  have hap := dt3 g env op v nm ds ks (evL g env ks) hg henv (by rw [dt5]; exact hs) (by rw [dt5]; exact hmax) (dt6 g env ks) (fun h => fn_ok (hs.2.2.2 h) hmax (htx h))
  cases hv : Val.okV (apF g env op v nm (evL g env ks)) <;> rw [hv] at hVal
  all_goals
   refine yd func95 ntmps95 fun _ _ _ _=>?_
   repeat' (refine yz ?_)
   refine ac7 (α := Fin (ks.length + 1)) (fun p => ⟨[(0, .ptr 0 0), (3, .ptr 1 0), (4, .ptr 2 0), (5, bi6 3 (bp7 (evL g env (ks.take p.val)))), (13, .d (.sl (cy1 (.mk op v nm ds ks)))), (14, .d (.int (cy1 (.mk op v nm ds ks)).length)), (15, .d (.int p.val))], [evO g env, .var 27 (.w (.d (cy3 (.mk op v nm ds ks)))), dn9] ++ ay5 24 5 (bp7 (evL g env (ks.take p.val)))⟩) (fun p => ks.length - p.val) ⟨0, by omega⟩ (zle 3) ?_;rintro ⟨i, hi⟩;dsimp only;rcases fk1 i ks.length with hlt | hge
   ·have g1 : decide ((i : Int) < ((cy1 (.mk op v nm ds ks)).length : Int)) = true := by rw [hlen]; simpa using hlt
    have hx0 := fk0 hlt;generalize ks[i] = x at hx0;have hx := hkg i x hx0;have hcx := ih x (fk4 hx0) (dt8 hks x (fk4 hx0));have hta := dt9 (g := g) (env := env) hx0;have hll : (bp7 (evL g env (ks.take i))).length ≤ i := by rw [bq3, dt5]; simp; omega
    match ho' : bp7 (evL g env (ks.take i)), hll with
    | [], hll =>
     dsimp only [bi6, ay5, List.append, HAppend.hAppend, Append.append]
     repeat' (first | refine yz ?_ | refine yi (cy3 x) hx ?_ | refine yc [0] b95 (hcx) ?_ | (refine qS rfl ⟨by simp, do0 _, by (show (0 + 1) * 64 ≤ 140737488355328; omega), by (show 0 + 1 ≤ 9223372036854775807; omega)⟩ ?_))
     refine ac1 ?_;refine ⟨⟨i + 1, by omega⟩, by dsimp only; omega, ?_⟩;dsimp only;rw [hta, ho'];exact (bj9 [0, 1, 2, 4])
    | b :: q, hll =>
     dsimp only [bi6, ay5, List.append, HAppend.hAppend, Append.append]
     repeat' (first | refine yz ?_ | refine yi (cy3 x) hx ?_ | refine yc [0] b95 (hcx) ?_ | (refine qS rfl ⟨by simp, do0 _, by (show ((b :: q).length + 1) * 64 ≤ 140737488355328; omega), by (show (b :: q).length + 1 ≤ 9223372036854775807; omega)⟩ ?_))
     refine ac1 ?_;refine ⟨⟨i + 1, by omega⟩, by dsimp only; omega, ?_⟩;dsimp only;rw [hta, ho'];exact (bj9 [0, 1, 2, 5])
   ·have g1 : decide ((i : Int) < ((cy1 (.mk op v nm ds ks)).length : Int)) = false := by rw [hlen]; simp; omega
    rw [fn4 hge]
    match ho' : bp7 (evL g env ks), hap with
    | [], hap =>
     dsimp only [bi6, ay5, List.append, HAppend.hAppend, Append.append]
     repeat' (first | refine yz ?_ | refine yc [0] b155 (hap) ?_ | refine yp bt7 hVal ?_ | refine yp b92 bx5 ?_ | refine yr [0] ?_ | exact zD)
    | b :: q, hap =>
     dsimp only [bi6, ay5, List.append, HAppend.hAppend, Append.append];refine qA ?_;refine au6 3 rfl ?_
     repeat' (first | refine yz ?_ | refine yc [0] b155 (hap) ?_ | refine yp bt7 hVal ?_ | refine yp b92 bx5 ?_ | refine yr [0] ?_ | exact zD)
end Go.Proofs.YtaiiailapeffgaaGreatDoor
