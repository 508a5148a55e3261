/- The values of expressions: what both texts compute; the program's operators and look-ups; The program's evaluator: what its methods answer; The program's evaluation of expressions; The program's apply, some operators; The program's apply, some operators; The program's apply, some operators; The program's apply, some operators; The program's evaluation of expressions. Conditions: each part's own, as it says. -/
import Derived.Test.YtibfalecohlngaaGreatDoorMD
import Derived.Test.YtibfalecohlngaaGreatDoorMC
import Derived.Test.YtibfalecohlngaaGreatDoorGC
set_option linter.unusedVariables false
set_option linter.unusedSimpArgs false
namespace Go.Proofs.YtibfalecohlngaaGreatDoor
set_option maxRecDepth 4000
open Go Go.Abs Go.Val Go.RowKit Go.Proofs.Tryz
attribute [local irreducible] go SGo an2 Ev aw0 EvO EvS binOp RGo
def dr5 (l q : Int) : Int := bif l == 2 || q == 2 then 2 else bif l == 0 && q == 0 then 0 else 1
theorem dr6 (l q : Int) : Ev E 266 [.int l, .int q] (.d (.int (dr5 l q))) := by
 unfold dr5
 cases h1 : l == 2 <;> cases h2 : q == 2 <;> cases h3 : l == 0 <;> cases h4 : q == 0
 all_goals
  refine ye2 func266 ntmps266 fun _ _ _=>?_
  repeat' (first | refine yz ?_ | refine yx ?_ | exact zD)
def inL (a : V) (l : List V) (t : Int) : Int := l.foldl (fun t x => max (kn t) (kn (eqF a x))) t
def dr7 (op : Int) (a b : V) : Int :=
 bif op == 12 then eqF a b else bif op == 13 then 2 - kn (eqF a b) else bif op == 14 then cu0 a b else bif op == 16 then cu0 b a else
 bif op == 15 then dr5 (cu0 a b) (eqF a b) else bif op == 17 then dr5 (cu0 b a) (eqF a b) else
 bif b.k != 8 then 1 else inL a b.l 0
structure SIn (a : V) (l : List V) where
 i : Nat
 t : Int
 hi : i ≤ l.length
 ok : inL a l 0 = inL a (l.drop i) t
theorem dr8 {a x : V} {l : List V} {i : Nat} {t : Int} (h : l[i]? = some x) : inL a (l.drop i) t = inL a (l.drop (i + 1)) (max (kn t) (kn (eqF a x))) := by
 rw [cd5 h]; rfl
theorem dr9 (op : Int) (a b : V) : Ev E 214 [.int op, enc a, enc b] (.d (.int (dr7 op a b))) := Ev.fit fun hfit => by
 obtain ⟨-, -, -, -, hmax, -⟩ := bo8 (v := b) (hfit _ (by simp));have e1 := ct9 a b;have e2 := ca4 (eqF a b);have l1 := cu2 a b;have l2 := cu2 b a;have m1 := dr6 (cu0 a b) (eqF a b);have m2 := dr6 (cu0 b a) (eqF a b);unfold dr7
 cases c12 : op == 12 with
 | true =>
  refine ye3 func214 ntmps214 fun _ _ _=>?_
  repeat' (first | refine yz ?_ | refine yp bu1 e1 ?_ | exact zD)
 | false =>
 cases c13 : op == 13 with
 | true =>
  refine ye3 func214 ntmps214 fun _ _ _=>?_
  repeat' (first | refine yz ?_ | refine yp bu1 e1 ?_ | refine yp b209 e2 ?_ | exact zD)
 | false =>
 cases c14 : op == 14 with
 | true =>
  refine ye3 func214 ntmps214 fun _ _ _=>?_
  repeat' (first | refine yz ?_ | refine yp b265 l1 ?_ | exact zD)
 | false =>
 cases c16 : op == 16 with
 | true =>
  refine ye3 func214 ntmps214 fun _ _ _=>?_
  repeat' (first | refine yz ?_ | refine yp b265 l2 ?_ | exact zD)
 | false =>
 cases c15 : op == 15 with
 | true =>
  refine ye3 func214 ntmps214 fun _ _ _=>?_
  repeat' (first | refine yz ?_ | refine yp b265 l1 ?_ | refine yp bu1 e1 ?_ | refine yp b266 m1 ?_ | exact zD)
 | false =>
 cases c17 : op == 17 with
 | true =>
  refine ye3 func214 ntmps214 fun _ _ _=>?_
  repeat' (first | refine yz ?_ | refine yp b265 l2 ?_ | refine yp bu1 e1 ?_ | refine yp b266 m2 ?_ | exact zD)
 | false =>
 cases c8 : b.k != 8 with
 | true =>
  refine ye3 func214 ntmps214 fun _ _ _=>?_
  repeat' (first | refine yz ?_ | exact zD)
 | false =>
  have hle : (kids b).length = b.l.length := bo6 b;refine ye3 func214 ntmps214 fun _ _ _=>?_
  repeat' (refine yz ?_)
  refine ac7 (α := SIn a b.l) (fun p => ⟨[(4, .ptr 0 0), (5, .ptr 1 0), (7, .d (.int p.t)), (54, .d (.sl (kids b))), (55, .d (.int (kids b).length)), (56, .d (.int p.i))], [.var 24 (.w (.d (enc a))), .var 24 (.w (.d (enc b)))]⟩) (fun p => b.l.length - p.i) ⟨0, 0, by omega, rfl⟩ (zle 2) ?_;rintro ⟨i, t, hi, ok⟩;dsimp only;rcases fg7 i b.l.length with hlt | hge
  ·have g1 : decide ((i : Int) < ((kids b).length : Int)) = true := by rw [hle]; simpa using hlt
   have hx0 := fg5 hlt;generalize b.l[i] = x at hx0;have hx : (kids b)[(i : Int).toNat]? = some (enc x) := by rw [fh0]; exact bo4 hx0
   have q1 := ct9 a x;have q2 := ca8 t (eqF a x);rw [ok, dr8 hx0]
   repeat' (first | refine yz ?_ | refine yi (enc x) hx ?_ | refine yp bu1 q1 ?_ | refine yp b212 q2 ?_)
   refine ac1 ?_;exact ⟨⟨i + 1, _, by omega, by rw [ok, dr8 hx0]⟩, by dsimp only; omega, (zle 2)⟩
  ·have g1 : decide ((i : Int) < ((kids b).length : Int)) = false := by rw [hle]; simp; omega
   rw [ok, fh6 hge];show go _ _ _ (an6 _ _ (.d (.int t)))
   repeat' (first | refine yz ?_ | exact zD)
def ds0 (b : Bool) (n d : Int) : V := bif b then bp6 n d else bp9
def ds1 (a b : V) : Bool := a.k == 4 && b.k == 4
def arF (op : Int) (a b : V) : V :=
 bif op == 7 && ds1 a b then bp7 (a.s ++ b.s) else
 bif !(bq5 a) || !(bq5 b) then bp9 else
 bif op == 7 then ds0 (cz5 (bq6 a) (bq7 a) (bq6 b) (bq7 b)) (cz6 (bq6 a) (bq7 a) (bq6 b) (bq7 b)) (cz7 (bq6 a) (bq7 a) (bq6 b) (bq7 b)) else
 bif op == 8 then ds0 (cz5 (bq6 a) (bq7 a) (0 - bq6 b) (bq7 b)) (cz6 (bq6 a) (bq7 a) (0 - bq6 b) (bq7 b)) (cz7 (bq6 a) (bq7 a) (0 - bq6 b) (bq7 b)) else
 bif op == 9 then ds0 (da6 (bq6 a) (bq7 a) (bq6 b) (bq7 b)) (muN (bq6 a) (bq7 a) (bq6 b) (bq7 b)) (muD (bq6 a) (bq7 a) (bq6 b) (bq7 b)) else
 bif op == 10 then ds0 (da9 (bq6 a) (bq7 a) (bq6 b) (bq7 b)) (db0 (bq6 a) (bq7 a) (bq6 b) (bq7 b)) (db1 (bq6 a) (bq7 a) (bq6 b) (bq7 b)) else
 bif cy9 a.n b.n && (a.k == 2 && b.k == 2) then bp5 (cz0 a.n b.n) else bp9
theorem ds2 {v : V} (h : bq5 v = true) : bp2 (bq6 v) (bq7 v) = true := by
 unfold bq5 at h;rw [fg6] at h;obtain ⟨h1, h2⟩ := h;have hn : bq5 v = true := by unfold bq5; rw [h1, h2]; rfl
 unfold bq6 bq7;rw [hn, cond_true];rw [fi1] at h1;obtain ⟨k, n, d, s, l⟩ := v;simp only [V.k, V.n, V.d] at h1 ⊢;rcases h1 with h1 | h1
 ·obtain rfl : k = 2 := by simpa using h1
  have := cv6 h2;simp only [beq_self_eq_true, cond_true];unfold bp2;rw [(bp0 n).2 (by have := (bp0 n).1 this; omega)];simp
 ·obtain rfl : k = 3 := by simpa using h1
  have := co6 h2;exact this.2
theorem ds3 {v : V} (h : Val.okV v = true) (hk : (v.k == 4) = true) : v.s.size ≤ 100 := by
 obtain ⟨k, n, d, s, l⟩ := v;simp only [V.k] at hk;obtain rfl : k = 4 := by simpa using hk
 exact co7 h
set_option maxHeartbeats 4000000 in
theorem ds4 (op : Int) (a b : V) (ho : 7 ≤ op ∧ op ≤ 11) (ha : Val.okV a = true) (hb : Val.okV b = true) : Ev E 213 [.int op, enc a, enc b] (.d (enc (arF op a b))) := by
 have n1 := cf0 cg4 a;have n2 := cf0 cg4 b;obtain rfl | rfl | rfl | rfl | rfl : op = 7 ∨ op = 8 ∨ op = 9 ∨ op = 10 ∨ op = 11 := by omega
 ·have e0 : arF 7 a b = bif ds1 a b then bp7 (a.s ++ b.s) else bif !(bq5 a) || !(bq5 b) then bp9 else ds0 (cz5 (bq6 a) (bq7 a) (bq6 b) (bq7 b)) (cz6 (bq6 a) (bq7 a) (bq6 b) (bq7 b)) (cz7 (bq6 a) (bq7 a) (bq6 b) (bq7 b)) := rfl;rw [e0];have a1 := db6 (bq6 a) (bq7 a) (bq6 b) (bq7 b);have r1 := cc0 (cz6 (bq6 a) (bq7 a) (bq6 b) (bq7 b)) (cz7 (bq6 a) (bq7 a) (bq6 b) (bq7 b));unfold ds1
  cases ka : a.k == 4 with
  | true =>
   have hna : bq5 a = false := by unfold bq5; have : a.k = 4 := (by simpa using ka); rw [this]; rfl
   rw [hna] at n1 ⊢
   cases kb : b.k == 4 with
   | true =>
    have z1 := ds3 ha ka;have z2 := ds3 hb kb;have s1 := cb6 (a.s ++ b.s);refine ye3 func213 ntmps213 fun _ _ _=>?_
    repeat' (first | refine yz ?_ | refine yp bs2 s1 ?_ | refine yx ?_ | exact zD)
   | false =>
    simp only [fk4, cond_false, fi7, fi8, cond_true];refine ye3 func213 ntmps213 fun _ _ _=>?_
    repeat' (first | refine yz ?_ | refine yp bs0 n1 ?_ | refine yp bs0 n2 ?_ | refine yp b86 cb0 ?_ | refine yx ?_ | exact zD)
  | false =>
   cases na : bq5 a with
   | false =>
    rw [na] at n1;simp only [fi6, cond_false, fi7, fi8, cond_true];refine ye3 func213 ntmps213 fun _ _ _=>?_
    repeat' (first | refine yz ?_ | refine yp bs0 n1 ?_ | refine yp bs0 n2 ?_ | refine yp b86 cb0 ?_ | refine yx ?_ | exact zD)
   | true =>
    rw [na] at n1
    cases nb : bq5 b with
    | false =>
     rw [nb] at n2;simp only [fi6, cond_false, fi7, fj4, cond_true];refine ye3 func213 ntmps213 fun _ _ _=>?_
     repeat' (first | refine yz ?_ | refine yp bs0 n1 ?_ | refine yp bs0 n2 ?_ | refine yp b86 cb0 ?_ | refine yx ?_ | exact zD)
    | true =>
     rw [nb] at n2;simp only [fi6, cond_false, fk6, fk5];unfold ds0
     cases hB : cz5 (bq6 a) (bq7 a) (bq6 b) (bq7 b) <;> rw [hB] at a1
     all_goals
      refine ye3 func213 ntmps213 fun _ _ _=>?_
      repeat' (first | refine yz ?_ | refine yp bs0 n1 ?_ | refine yp bs0 n2 ?_ | refine yp b86 cb0 ?_ | refine yp b260 a1 ?_ | refine yp bs1 r1 ?_ | refine yx ?_ | exact zD)
 ·have e0 : arF 8 a b = bif !(bq5 a) || !(bq5 b) then bp9 else ds0 (cz5 (bq6 a) (bq7 a) (0 - bq6 b) (bq7 b)) (cz6 (bq6 a) (bq7 a) (0 - bq6 b) (bq7 b)) (cz7 (bq6 a) (bq7 a) (0 - bq6 b) (bq7 b)) := rfl;rw [e0];have r1 := cc0 (cz6 (bq6 a) (bq7 a) (0 - bq6 b) (bq7 b)) (cz7 (bq6 a) (bq7 a) (0 - bq6 b) (bq7 b))
  cases na : bq5 a with
  | false =>
   rw [na] at n1;simp only [fi7, fi8, cond_true];refine ye3 func213 ntmps213 fun _ _ _=>?_
   repeat' (first | refine yz ?_ | refine yp bs0 n1 ?_ | refine yp bs0 n2 ?_ | refine yp b86 cb0 ?_ | exact zD)
  | true =>
   rw [na] at n1
   cases nb : bq5 b with
   | false =>
    rw [nb] at n2;simp only [fi7, fj4, cond_true];refine ye3 func213 ntmps213 fun _ _ _=>?_
    repeat' (first | refine yz ?_ | refine yp bs0 n1 ?_ | refine yp bs0 n2 ?_ | refine yp b86 cb0 ?_ | exact zD)
   | true =>
    rw [nb] at n2;have fb := ds2 nb;have a1 := db7 (bq6 a) (bq7 a) (bq6 b) (bq7 b) fb;simp only [fk6, fk5, cond_false];unfold ds0
    cases hB : (cz5 (bq6 a) (bq7 a) (0 - bq6 b) (bq7 b)) <;> rw [hB] at a1
    all_goals
     refine ye3 func213 ntmps213 fun _ _ _=>?_
     repeat' (first | refine yz ?_ | refine yp bs0 n1 ?_ | refine yp bs0 n2 ?_ | refine yp b86 cb0 ?_ | refine yp b261 a1 ?_ | refine yp bs1 r1 ?_ | exact zD)
 ·have e0 : arF 9 a b = bif !(bq5 a) || !(bq5 b) then bp9 else ds0 (da6 (bq6 a) (bq7 a) (bq6 b) (bq7 b)) (muN (bq6 a) (bq7 a) (bq6 b) (bq7 b)) (muD (bq6 a) (bq7 a) (bq6 b) (bq7 b)) := rfl;rw [e0];have r1 := cc0 (muN (bq6 a) (bq7 a) (bq6 b) (bq7 b)) (muD (bq6 a) (bq7 a) (bq6 b) (bq7 b))
  cases na : bq5 a with
  | false =>
   rw [na] at n1;simp only [fi7, fi8, cond_true];refine ye3 func213 ntmps213 fun _ _ _=>?_
   repeat' (first | refine yz ?_ | refine yp bs0 n1 ?_ | refine yp bs0 n2 ?_ | refine yp b86 cb0 ?_ | exact zD)
  | true =>
   rw [na] at n1
   cases nb : bq5 b with
   | false =>
    rw [nb] at n2;simp only [fi7, fj4, cond_true];refine ye3 func213 ntmps213 fun _ _ _=>?_
    repeat' (first | refine yz ?_ | refine yp bs0 n1 ?_ | refine yp bs0 n2 ?_ | refine yp b86 cb0 ?_ | exact zD)
   | true =>
    rw [nb] at n2;have fb := ds2 nb;have a1 := da8 (bq6 a) (bq7 a) (bq6 b) (bq7 b);simp only [fk6, fk5, cond_false];unfold ds0
    cases hB : (da6 (bq6 a) (bq7 a) (bq6 b) (bq7 b)) <;> rw [hB] at a1
    all_goals
     refine ye3 func213 ntmps213 fun _ _ _=>?_
     repeat' (first | refine yz ?_ | refine yp bs0 n1 ?_ | refine yp bs0 n2 ?_ | refine yp b86 cb0 ?_ | refine yp b262 a1 ?_ | refine yp bs1 r1 ?_ | exact zD)
 ·have e0 : arF 10 a b = bif !(bq5 a) || !(bq5 b) then bp9 else ds0 (da9 (bq6 a) (bq7 a) (bq6 b) (bq7 b)) (db0 (bq6 a) (bq7 a) (bq6 b) (bq7 b)) (db1 (bq6 a) (bq7 a) (bq6 b) (bq7 b)) := rfl;rw [e0];have r1 := cc0 (db0 (bq6 a) (bq7 a) (bq6 b) (bq7 b)) (db1 (bq6 a) (bq7 a) (bq6 b) (bq7 b))
  cases na : bq5 a with
  | false =>
   rw [na] at n1;simp only [fi7, fi8, cond_true];refine ye3 func213 ntmps213 fun _ _ _=>?_
   repeat' (first | refine yz ?_ | refine yp bs0 n1 ?_ | refine yp bs0 n2 ?_ | refine yp b86 cb0 ?_ | exact zD)
  | true =>
   rw [na] at n1
   cases nb : bq5 b with
   | false =>
    rw [nb] at n2;simp only [fi7, fj4, cond_true];refine ye3 func213 ntmps213 fun _ _ _=>?_
    repeat' (first | refine yz ?_ | refine yp bs0 n1 ?_ | refine yp bs0 n2 ?_ | refine yp b86 cb0 ?_ | exact zD)
   | true =>
    rw [nb] at n2;have fb := ds2 nb;have a1 := db2 (bq6 a) (bq7 a) (bq6 b) (bq7 b);simp only [fk6, fk5, cond_false];unfold ds0
    cases hB : (da9 (bq6 a) (bq7 a) (bq6 b) (bq7 b)) <;> rw [hB] at a1
    all_goals
     refine ye3 func213 ntmps213 fun _ _ _=>?_
     repeat' (first | refine yz ?_ | refine yp bs0 n1 ?_ | refine yp bs0 n2 ?_ | refine yp b86 cb0 ?_ | refine yp b263 a1 ?_ | refine yp bs1 r1 ?_ | exact zD)
 ·have m := cz1 a.n b.n;have i1 := cb4 (cz0 a.n b.n);have e0 : arF 11 a b = bif !(bq5 a) || !(bq5 b) then bp9 else bif cy9 a.n b.n && (a.k == 2 && b.k == 2) then bp5 (cz0 a.n b.n) else bp9 := rfl;have e1 : bq5 a = (a.k == 2 || a.k == 3) := by unfold bq5; rw [ha, fm4]
  have e2 : bq5 b = (b.k == 2 || b.k == 3) := by unfold bq5; rw [hb, fm4]
  rw [e0, e1, e2]
  cases hm : cy9 a.n b.n <;> cases k1 : a.k == 2 <;> cases k2 : b.k == 2 <;> rw [hm] at m
  all_goals simp only [fj6, fi8, fk6, fi6, fk4, fm4, fh3, cond_true, cond_false, fk5, fj4]
  all_goals try rw [Bool.cond_self]
  all_goals
   refine ye3 func213 ntmps213 fun _ _ _=>?_
   repeat' (first | refine yz ?_ | refine yp b259 m ?_ | refine yp b86 cb0 ?_ | refine yp br9 i1 ?_ | refine yx ?_ | exact zD)
def szF (a : V) : V := bif a.k == 4 then bp5 a.s.size else bif a.k == 8 then bp5 a.l.length else bp9
theorem ds5 (a : V) : Ev E 157 [enc a] (.d (enc (szF a))) := Ev.fit fun hfit => by
 obtain ⟨-, -, -, f1, f2, -⟩ := bo8 (v := a) (hfit _ (by simp));have i1 := cb4 a.s.size;have i2 := cb4 a.l.length;rw [← bo6] at i2;unfold szF;rw [← bo6]
 cases c4 : a.k == 4 with
 | true =>
  refine ye1 func157 ntmps157 fun _ _ _=>?_
  repeat' (first | refine yz ?_ | refine yp br9 i1 ?_ | exact zD)
 | false =>
 cases c8 : a.k == 8 with
 | true =>
  refine ye1 func157 ntmps157 fun _ _ _=>?_
  repeat' (first | refine yz ?_ | refine yp br9 i2 ?_ | exact zD)
 | false =>
  refine ye1 func157 ntmps157 fun _ _ _=>?_
  repeat' (first | refine yz ?_ | refine yp b86 cb0 ?_ | exact zD)
def ds6 : ByteArray := ⟨#[116, 121, 112, 101]⟩
def ds7 : ByteArray := ⟨#[115, 116, 97, 114, 116]⟩
def ds8 : ByteArray := ⟨#[101, 110, 100]⟩
def ds9 : ByteArray := ⟨#[108, 101, 110, 103, 116, 104]⟩
def dt0 : ByteArray := ⟨#[110, 111, 100, 101, 115]⟩
def dt1 : ByteArray := ⟨#[101, 100, 103, 101, 115]⟩
def eqS (s t : ByteArray) : Bool := s.toList == t.toList
def ofE (nm : ByteArray) (e : Ed) : V := bif eqS nm ds6 then bp7 e.ty else bif eqS nm ds7 then bp8 e.src else bp8 e.dst
theorem dt2 (nm : ByteArray) (e : Ed) : Ev E 154 [.str nm, dc2 e] (.d (enc (ofE nm e))) := by
 have i1 := cb6 e.ty;have i2 := cb8 e.src;have i3 := cb8 e.dst;unfold ofE
 cases c1 : eqS nm ds6 with
 | true =>
  have c1' : (nm.toList == (⟨#[116, 121, 112, 101]⟩ : ByteArray).toList) = true := c1;refine ye2 func154 ntmps154 fun _ _ _=>?_
  repeat' (first | refine yz ?_ | refine yp bs2 i1 ?_ | exact zD)
 | false =>
 have c1' : (nm.toList == (⟨#[116, 121, 112, 101]⟩ : ByteArray).toList) = false := c1
 cases c2 : eqS nm ds7 with
 | true =>
  have c2' : (nm.toList == (⟨#[115, 116, 97, 114, 116]⟩ : ByteArray).toList) = true := c2;refine ye2 func154 ntmps154 fun _ _ _=>?_
  repeat' (first | refine yz ?_ | refine yp b201 i2 ?_ | exact zD)
 | false =>
  have c2' : (nm.toList == (⟨#[115, 116, 97, 114, 116]⟩ : ByteArray).toList) = false := c2;refine ye2 func154 ntmps154 fun _ _ _=>?_
  repeat' (first | refine yz ?_ | refine yp b201 i3 ?_ | exact zD)
def dt3 {α : Type} : List α → List α
 | [] => []
 | [x] => [x]
 | x :: _ :: r => x :: dt3 r
theorem dt4 {α : Type} {l : List α} {i : Nat} {x : α} (h : l[i]? = some x) : dt3 (l.drop i) = x :: dt3 (l.drop (i + 2)) := by
 rw [cd5 h]
 cases hd : l.drop (i + 1) with
 | nil =>
  have hlen : l.length ≤ i + 1 := by
   have := congrArg List.length hd;simp at this;omega
  rw [fh6 (by omega)];rfl
 | cons y r =>
  have : l.drop (i + 2) = r := by
   have e : l.drop (i + 2) = (l.drop (i + 1)).drop 1 := by rw [List.drop_drop]
   rw [e, hd]; rfl
  rw [this];rfl
def dt5 (nm : ByteArray) (l : List V) : V := bif eqS nm ds9 then bp5 ((l.length : Int) / 2) else cu3 (dt3 (l.drop (bif eqS nm dt1 then 1 else 0)))
theorem dt6 {α : Type} : ∀ l : List α, (dt3 l).length ≤ l.length
 | [] => fh5 _
 | [_] => fh5 _
 | x :: y :: r => by have := dt6 r; simp [dt3]; omega
theorem dt7 {α : Type} : ∀ {l : List α} {x : α}, x ∈ dt3 l → x ∈ l
 | [y], x, h => h
 | a :: b :: r, x, h => by
  simp only [dt3, fh7] at h;rcases h with h | h
  ·simp [h]
  ·have := dt7 h; simp [this]
theorem dt8 : ∀ {l : List V}, (∀ x ∈ l, nar x = true) → cp6 l = true
 | [], _ => rfl
 | v :: r, h => by
  simp only [cp6, fg6];exact ⟨h v (by simp), dt8 fun x hx => h x (by simp [hx])⟩
theorem dt9 {l : List V} (hl : l.length ≤ 2000000) (h : ∀ x ∈ l, nar x = true) : nar (cu3 l) = true := by
 simp only [cu3, nar, fg6, decide_eq_true_eq];exact ⟨hl, dt8 h⟩
structure SPh (l : List V) (st : Nat) where
 i : Nat
 out : List V
 hi : i ≤ l.length + 1
 ho : out.length ≤ i
 ok : dt3 (l.drop st) = out ++ dt3 (l.drop i)
theorem du0 (l : List V) (x : V) : bo1 (l ++ [x]) = bo1 l ++ [enc x] := by simp [bo2]
abbrev du1 : aa5 := .var 24 (.cs [.d (.int 0), .d (.int 0), .d (.int 0), .d (.str ⟨#[]⟩), .nilS])
theorem du2 (v : V) : ∀ d ∈ [enc v], d.cells.length = 5 := fun d hd => by obtain rfl := fl4.1 hd; rfl
set_option maxHeartbeats 4000000 in
theorem du3 (nm : ByteArray) (l : List V) (hl : l.length ≤ 2000000) (hn : ∀ x ∈ l, nar x = true) : Ev E 158 [.str nm, .sl (bo1 l)] (.d (enc (dt5 nm l))) := by
 have hle : (bo1 l).length = l.length := bo7 _;unfold dt5
 cases c1 : eqS nm ds9 with
 | true =>
  have c1' : (nm.toList == (⟨#[108, 101, 110, 103, 116, 104]⟩ : ByteArray).toList) = true := c1;have i1 := cb4 (Int.tdiv ((bo1 l).length : Int) 2);have e : ((l.length : Int) / 2) = Int.tdiv ((bo1 l).length : Int) 2 := by rw [hle, fm1 (by omega)]
  have w1 : (2 : Int) ≠ 0 ∧ inR .i64 (Int.tdiv ((bo1 l).length : Int) 2) := by rw [← e]; refine ⟨by omega, ?_⟩; simp only [inR]; omega
  rw [e];refine ye2 func158 ntmps158 fun _ _ _=>?_
  repeat' (first | refine yz ?_ | refine yp br9 i1 ?_ | exact zD)
 | false =>
  have c1' : (nm.toList == (⟨#[108, 101, 110, 103, 116, 104]⟩ : ByteArray).toList) = false := c1;obtain ⟨st, hst, hst1⟩ : ∃ st : Nat, (bif eqS nm dt1 then 1 else 0) = st ∧ st ≤ 1 := ⟨_, rfl, by cases eqS nm dt1 <;> decide⟩;rw [hst, cond_false];have hL := cu4 (dt3 (l.drop st)) (dt9 (by have := dt6 (l.drop st); simp at this; omega) fun x hx => hn x (fn8 (dt7 hx)))
  cases c2 : eqS nm dt1 with
  | true =>
   have c2' : (nm.toList == (⟨#[101, 100, 103, 101, 115]⟩ : ByteArray).toList) = true := c2;rw [c2] at hst;obtain rfl : 1 = st := hst;refine ye2 func158 ntmps158 fun _ _ _=>?_
   repeat' (refine yz ?_)
   refine ac7 (α := SPh l 1) (fun p => ⟨[(1, .d (.sl (bo1 l))), (4, .ptr 0 0), (6, bi6 1 (bo1 p.out)), (7, .d (.int p.i))], du1 :: ay5 24 5 (bo1 p.out)⟩) (fun p => l.length + 2 - p.i) ⟨1, [], by omega, by simp, rfl⟩ (zle 1) ?_;rintro ⟨i, out, hi, ho, ok⟩;dsimp only;rcases fg7 i l.length with hlt | hge
   ·have g1 : decide ((i : Int) < ((bo1 l).length : Int)) = true := by rw [hle]; simpa using hlt
    have hx0 := fg5 hlt;generalize l[i] = x at hx0;have hx : (bo1 l)[(i : Int).toNat]? = some (enc x) := bo5 (by rw [fh0]; exact hx0);have hta := du0 out x;have hll : (bo1 out).length ≤ i := by rw [bo7]; omega
    rw [dt4 hx0] at ok
    match ho' : bo1 out, hll with
    | [], hll =>
     dsimp only [bi6, ay5]
     repeat' (first | refine yz ?_ | refine yi (enc x) hx ?_ | (refine qS rfl ⟨by simp, du2 x, by (show (0 + 1) * 64 ≤ 140737488355328; omega), by (show 0 + 1 ≤ 9223372036854775807; omega)⟩ ?_))
     refine ac1 ?_;refine ⟨⟨i + 2, out ++ [x], by omega, by simp; omega, by rw [ok]; simp⟩, by dsimp only; omega, ?_⟩;dsimp only;rw [hta, ho'];exact (bj8 [0, 1])
    | a :: q, hll =>
     dsimp only [bi6, ay5]
     repeat' (first | refine yz ?_ | refine yi (enc x) hx ?_ | (refine qS rfl ⟨by simp, du2 x, by (show ((a :: q).length + 1) * 64 ≤ 140737488355328; omega), by (show (a :: q).length + 1 ≤ 9223372036854775807; omega)⟩ ?_))
     refine ac1 ?_;refine ⟨⟨i + 2, out ++ [x], by omega, by simp; omega, by rw [ok]; simp⟩, by dsimp only; omega, ?_⟩;dsimp only;rw [hta, ho'];exact (bj8 [0, 2])
   ·have g1 : decide ((i : Int) < ((bo1 l).length : Int)) = false := by rw [hle]; simp; omega
    rw [fh6 hge] at ok;have ok' : dt3 (l.drop 1) = out := by rw [ok]; simp [dt3]
    rw [ok'] at hL ⊢
    match ho' : bo1 out, hL with
    | [], hL =>
     dsimp only [bi6, ay5]
     repeat' (first | refine yz ?_ | refine yp bs5 hL ?_ | exact zD)
    | a :: q, hL =>
     dsimp only [bi6, ay5]
     repeat' (refine yz ?_)
     refine be7 1 rfl ?_
     repeat' (first | refine yz ?_ | refine yp bs5 hL ?_ | exact zD)
  | false =>
   have c2' : (nm.toList == (⟨#[101, 100, 103, 101, 115]⟩ : ByteArray).toList) = false := c2;rw [c2] at hst;obtain rfl : 0 = st := hst;refine ye2 func158 ntmps158 fun _ _ _=>?_
   repeat' (refine yz ?_)
   refine ac7 (α := SPh l 0) (fun p => ⟨[(1, .d (.sl (bo1 l))), (4, .ptr 0 0), (6, bi6 1 (bo1 p.out)), (7, .d (.int p.i))], du1 :: ay5 24 5 (bo1 p.out)⟩) (fun p => l.length + 2 - p.i) ⟨0, [], by omega, by simp, rfl⟩ (zle 1) ?_;rintro ⟨i, out, hi, ho, ok⟩;dsimp only;rcases fg7 i l.length with hlt | hge
   ·have g1 : decide ((i : Int) < ((bo1 l).length : Int)) = true := by rw [hle]; simpa using hlt
    have hx0 := fg5 hlt;generalize l[i] = x at hx0;have hx : (bo1 l)[(i : Int).toNat]? = some (enc x) := bo5 (by rw [fh0]; exact hx0);have hta := du0 out x;have hll : (bo1 out).length ≤ i := by rw [bo7]; omega
    rw [dt4 hx0] at ok
    match ho' : bo1 out, hll with
    | [], hll =>
     dsimp only [bi6, ay5]
     repeat' (first | refine yz ?_ | refine yi (enc x) hx ?_ | (refine qS rfl ⟨by simp, du2 x, by (show (0 + 1) * 64 ≤ 140737488355328; omega), by (show 0 + 1 ≤ 9223372036854775807; omega)⟩ ?_))
     refine ac1 ?_;refine ⟨⟨i + 2, out ++ [x], by omega, by simp; omega, by rw [ok]; simp⟩, by dsimp only; omega, ?_⟩;dsimp only;rw [hta, ho'];exact (bj8 [0, 1])
    | a :: q, hll =>
     dsimp only [bi6, ay5]
     repeat' (first | refine yz ?_ | refine yi (enc x) hx ?_ | (refine qS rfl ⟨by simp, du2 x, by (show ((a :: q).length + 1) * 64 ≤ 140737488355328; omega), by (show (a :: q).length + 1 ≤ 9223372036854775807; omega)⟩ ?_))
     refine ac1 ?_;refine ⟨⟨i + 2, out ++ [x], by omega, by simp; omega, by rw [ok]; simp⟩, by dsimp only; omega, ?_⟩;dsimp only;rw [hta, ho'];exact (bj8 [0, 2])
   ·have g1 : decide ((i : Int) < ((bo1 l).length : Int)) = false := by rw [hle]; simp; omega
    rw [fh6 hge] at ok;have ok' : dt3 (l.drop 0) = out := by rw [ok]; simp [dt3]
    rw [ok'] at hL ⊢
    match ho' : bo1 out, hL with
    | [], hL =>
     dsimp only [bi6, ay5]
     repeat' (first | refine yz ?_ | refine yp bs5 hL ?_ | exact zD)
    | a :: q, hL =>
     dsimp only [bi6, ay5]
     repeat' (refine yz ?_)
     refine be7 1 rfl ?_
     repeat' (first | refine yz ?_ | refine yp bs5 hL ?_ | exact zD)
abbrev evO (g : Gr) (env : List Bd) : aa5 := .var 106 (.cs [.d (.sl (g.nodes.map dc1)), .d (.sl (g.edges.map dc2)), .d (.int g.nn), .d (.int g.ne), .d (.sl (env.map dc4)), .bnd 87 [.ptr 0 0]])
def du4 (g : Gr) : Prop := (∀ n ∈ g.nodes, narN n) ∧ ∀ e ∈ g.edges, df3 e.props
def du5 (env : List Bd) (nm : ByteArray) : V := match env.find? fun b => b.name.toList == nm.toList with | some b => b.v | none => bp9
theorem du6 (g : Gr) (env : List Bd) (nm : ByteArray) : env.length ≤ 2000000 → EvS E 204 [.ptr 0 0, .d (.str nm)] [evO g env] (.d (enc (du5 env nm))) [evO g env] := by
 intro hmax;have hle : (env.map dc4).length = env.length := by simp
 unfold du5;refine yd func204 ntmps204 fun _ _ _ _=>?_
 repeat' (first | refine yz ?_ | refine yx ?_ | (refine yy ?_ ?_ <;> intro _) | exact zD | exact zL)
 refine ac7 (α := SFd env fun b => b.name.toList == nm.toList) (fun p => ⟨[(0, .ptr 0 0), (1, .d (.str nm)), (4, .ptr 1 0), (10, .d (.sl (env.map dc4))), (11, .d (.int (env.map dc4).length)), (12, .d (.int p.i))], [evO g env, du1]⟩) (fun p => env.length - p.i) ⟨0, by omega, rfl⟩ (zle 2) ?_;rintro ⟨i, hi, ok⟩;dsimp only;rcases fg7 i env.length with hlt | hge
 ·have g1 : decide ((i : Int) < ((env.map dc4).length : Int)) = true := by rw [hle]; simpa using hlt
  have hx0 := fg5 hlt;generalize env[i] = x at hx0;have hx := dc5 (f := dc4) hx0;rw [ok, dc8 hx0]
  cases hc : x.name.toList == nm.toList with
  | true =>
   repeat' (first | refine yz ?_ | refine yi (dc4 x) hx ?_ | refine yr [0] ?_ | refine yt [0] ?_ | refine yx ?_ | (refine yy ?_ ?_ <;> intro _) | exact zD | exact zL)
  | false =>
   repeat' (first | refine yz ?_ | refine yi (dc4 x) hx ?_ | refine yx ?_ | (refine yy ?_ ?_ <;> intro _) | exact zD | exact zL)
   refine ac1 ?_;exact ⟨⟨i + 1, by omega, by rw [ok, dc8 hx0, hc]; rfl⟩, by dsimp only; omega, (zle 2)⟩
 ·have g1 : decide ((i : Int) < ((env.map dc4).length : Int)) = false := by rw [hle]; simp; omega
  rw [ok, fh6 hge]
  repeat' (first | refine yz ?_ | refine yp b86 cb0 ?_ | refine yr [0] ?_ | refine yt [0] ?_ | refine yx ?_ | (refine yy ?_ ?_ <;> intro _) | exact zD | exact zL)
def du7 (g : Gr) (a : V) : Nd := bif a.k == 5 then (dc9 g.nodes a.n).getD nd0 else nd0
def du8 (g : Gr) (a : V) : Bool := a.k == 5 && (dc9 g.nodes a.n).isSome
def du9 (g : Gr) (a : V) : Ed := bif a.k == 6 then (dd0 g.edges a.n).getD ed0 else ed0
def dv0 (g : Gr) (a : V) : Bool := a.k == 6 && (dd0 g.edges a.n).isSome
theorem dv1 (g : Gr) (env : List Bd) (a : V) (hg : du4 g) : EvS E 155 [.ptr 0 0, .d (enc a)] [evO g env] (.tup [dc1 (du7 g a), .bool (du8 g a)]) [evO g env] := by
 have h := df6 g a.n hg.1;unfold du7 du8
 cases hk : a.k == 5 with
 | true =>
  have hk' : (a.k != 5) = false := by rw [bne, hk]; rfl
  refine yd func155 ntmps155 fun _ _ _ _=>?_
  repeat' (first | refine yq 3 [9] ?_ | refine yf 3 0 9 ?_ | refine yw ?_ | refine yf 3 10 1 ?_ | refine rgN ?_ | refine yv ?_ | refine yz ?_ | refine yp b202 h ?_ | refine yr [0] ?_ | refine yt [0] ?_ | refine yx ?_ | (refine yy ?_ ?_ <;> intro _) | exact zD | exact zL)
 | false =>
  have hk' : (a.k != 5) = true := by rw [bne, hk]; rfl
  refine yd func155 ntmps155 fun _ _ _ _=>?_
  repeat' (first | refine yz ?_ | refine yr [0] ?_ | refine yt [0] ?_ | refine yx ?_ | (refine yy ?_ ?_ <;> intro _) | exact zD | exact zL)
theorem dv2 (g : Gr) (env : List Bd) (a : V) (hg : du4 g) : EvS E 153 [.ptr 0 0, .d (enc a)] [evO g env] (.tup [dc2 (du9 g a), .bool (dv0 g a)]) [evO g env] := by
 have h := df7 g a.n hg.2;unfold du9 dv0
 cases hk : a.k == 6 with
 | true =>
  have hk' : (a.k != 6) = false := by rw [bne, hk]; rfl
  refine yd func153 ntmps153 fun _ _ _ _=>?_
  repeat' (first | refine yq 3 [9] ?_ | refine yf 3 0 9 ?_ | refine yw ?_ | refine yf 3 10 1 ?_ | refine rgN ?_ | refine yv ?_ | refine yz ?_ | refine yp b200 h ?_ | refine yr [0] ?_ | refine yt [0] ?_ | refine yx ?_ | (refine yy ?_ ?_ <;> intro _) | exact zD | exact zL)
 | false =>
  have hk' : (a.k != 6) = true := by rw [bne, hk]; rfl
  refine yd func153 ntmps153 fun _ _ _ _=>?_
  repeat' (first | refine yz ?_ | refine yr [0] ?_ | refine yt [0] ?_ | refine yx ?_ | (refine yy ?_ ?_ <;> intro _) | exact zD | exact zL)
theorem dv3 (v : V) : kids v = bo1 v.l := by rw [bo3, bo2]
theorem dv4 {g : Gr} (hg : du4 g) (a : V) : narN (du7 g a) := by
 have h0 : narN nd0 := ⟨by decide, by decide, fun p hp => by simp [nd0] at hp⟩;unfold du7
 cases a.k == 5 with
 | false => exact h0
 | true =>
  rw [cond_true]
  cases hf : dc9 g.nodes a.n with
  | none => exact h0
  | some n => exact hg.1 n (fp6 hf)
theorem dv5 {g : Gr} (hg : du4 g) (a : V) : df3 (du9 g a).props := by
 have h0 : df3 ed0.props := ⟨by decide, fun p hp => by simp [ed0] at hp⟩;unfold du9
 cases a.k == 6 with
 | false => exact h0
 | true =>
  rw [cond_true]
  cases hf : dd0 g.edges a.n with
  | none => exact h0
  | some n => exact hg.2 n (fp6 hf)
def dv6 (g : Gr) (a : V) (key : ByteArray) : V := bif du8 g a then dd1 (du7 g a).props key else bif dv0 g a then dd1 (du9 g a).props key else bp9
theorem dv7 (g : Gr) (env : List Bd) (a : V) (key : ByteArray) (hg : du4 g) : EvS E 205 [.ptr 0 0, .d (enc a), .d (.str key)] [evO g env] (.d (enc (dv6 g a key))) [evO g env] := by
 have h1 := dv1 g env a hg;have h2 := dv2 g env a hg;have p1 := df5 (du7 g a).props key (dv4 hg a).2;have p2 := df5 (du9 g a).props key (dv5 hg a);unfold dv6
 cases c1 : du8 g a with
 | true =>
  rw [c1] at h1;refine yd func205 ntmps205 fun _ _ _ _=>?_
  repeat' (first | refine yz ?_ | refine yc [0] bs4 (h1) ?_ | refine yp b256 p1 ?_ | refine yr [0] ?_ | refine yt [0] ?_ | refine yx ?_ | (refine yy ?_ ?_ <;> intro _) | exact zD | exact zL)
 | false =>
  rw [c1] at h1
  cases c2 : dv0 g a with
  | true =>
   rw [c2] at h2;refine yd func205 ntmps205 fun _ _ _ _=>?_
   repeat' (first | refine yz ?_ | refine yc [0] bs4 (h1) ?_ | refine yc [0] bs3 (h2) ?_ | refine yp b256 p2 ?_ | refine yr [0] ?_ | refine yt [0] ?_ | refine yx ?_ | (refine yy ?_ ?_ <;> intro _) | exact zD | exact zL)
  | false =>
   rw [c2] at h2;refine yd func205 ntmps205 fun _ _ _ _=>?_
   repeat' (first | refine yz ?_ | refine yc [0] bs4 (h1) ?_ | refine yc [0] bs3 (h2) ?_ | refine yp b86 cb0 ?_ | refine yr [0] ?_ | refine yt [0] ?_ | refine yx ?_ | (refine yy ?_ ?_ <;> intro _) | exact zD | exact zL)
def dv8 : ByteArray := ⟨#[99, 111, 97, 108, 101, 115, 99, 101]⟩
def nmId : ByteArray := ⟨#[105, 100]⟩
def dv9 : ByteArray := ⟨#[97, 98, 115]⟩
def dw0 : ByteArray := ⟨#[116, 101, 120, 116]⟩
def dw1 : ByteArray := ⟨#[108, 97, 98, 101, 108, 115]⟩
def dw2 : ByteArray := ⟨#[115, 105, 122, 101]⟩
def dw3 : ByteArray := ⟨#[102, 105, 114, 115, 116]⟩
def dw4 : ByteArray := ⟨#[108, 97, 115, 116]⟩
def dw5 (l : List V) : V := match l.find? fun v => v.k != 0 with | some v => v | none => bp9
def a0 (l : List V) : V := l.headD bp9
def dw6 (a : V) : V := bif bq5 a then bp6 (max (bq6 a) (0 - bq6 a)) (bq7 a) else bp9
def fnF (g : Gr) (nm : ByteArray) (l : List V) : V :=
 bif eqS nm dv8 then dw5 l else
 bif eqS nm nmId then (bif (a0 l).k == 5 || (a0 l).k == 6 then bp5 (a0 l).n else bp9) else
 bif eqS nm dv9 then dw6 (a0 l) else
 bif eqS nm dw0 then (bif (a0 l).k != 0 then bp7 (bs (txt (a0 l))) else bp9) else
 bif eqS nm ds6 || (eqS nm ds7 || eqS nm ds8) then (bif dv0 g (a0 l) then ofE nm (du9 g (a0 l)) else bp9) else
 bif eqS nm dw1 then (bif du8 g (a0 l) then cu3 ((du7 g (a0 l)).labels.map bp7) else bp9) else
 bif eqS nm dw2 then szF (a0 l) else
 bif eqS nm ds9 || (eqS nm dt0 || eqS nm dt1) then (bif (a0 l).k == 7 then dt5 nm (a0 l).l else bp9) else
 bif eqS nm dw3 || eqS nm dw4 then (bif (a0 l).k == 8 && !((a0 l).l.isEmpty) then (bif eqS nm dw3 then (a0 l).l.headD bp9 else (a0 l).l.getLastD bp9) else bp9) else bp9
def dw7 (nm : ByteArray) (l : List V) : Prop := l ≠ [] ∧ l.length ≤ 2000000 ∧ (∀ x ∈ l, nar x = true) ∧ (eqS nm dw0 = true → (txt (a0 l)).length ≤ 1099511627776) ∧ (a0 l).l.length ≤ 2000000
set_option maxHeartbeats 8000000 in
theorem dw8 (g : Gr) (env : List Bd) (nm : ByteArray) (l : List V) (hg : du4 g) (hok : dw7 nm l) : EvS E 87 [.ptr 0 0, .d (.str nm), .d (.sl (bo1 l))] [evO g env] (.d (enc (fnF g nm l))) [evO g env] := by
 obtain ⟨hne, hmax, hnar, htx, hal⟩ := hok;have hle : (bo1 l).length = l.length := bo7 _
 obtain ⟨a, r, hl⟩ : ∃ a r, l = a :: r := by
  cases l with
  | nil => exact absurd rfl hne
  | cons a r => exact ⟨a, r, rfl⟩
 have ha0 : a0 l = a := by rw [hl]; rfl
 have hx0 : (bo1 l)[(0 : Int).toNat]? = some (enc a) := by rw [hl]; rfl
 have hna : nar a = true := hnar a (by rw [hl]; simp);obtain ⟨-, hnl⟩ := cp8 hna;have hkl : (kids a).length = a.l.length := bo6 a;rw [ha0] at htx hal;unfold fnF;rw [ha0]
 cases c0 : eqS nm dv8 with
 | true =>
  have c0' : (nm.toList == (⟨#[99, 111, 97, 108, 101, 115, 99, 101]⟩ : ByteArray).toList) = true := c0;simp only [cond_true];unfold dw5;refine yd func87 ntmps87 fun _ _ _ _=>?_
  repeat' (first | refine yz ?_ | refine yi (enc a) hx0 ?_ | refine yx ?_ | (refine yy ?_ ?_ <;> intro _) | exact zD | exact zL)
  refine ac7 (α := SFd l fun v => v.k != 0) (fun p => ⟨[(0, .ptr 0 0), (6, .ptr 1 0), (7, .ptr 2 0), (25, .d (.sl (bo1 l))), (26, .d (.int (bo1 l).length)), (27, .d (.int p.i))], [evO g env, du1, .var 24 (.w (.d (enc a)))]⟩) (fun p => l.length - p.i) ⟨0, by omega, rfl⟩ (zle 3) ?_;rintro ⟨i, hi, ok⟩;dsimp only;rcases fg7 i l.length with hlt | hge
  ·have g1 : decide ((i : Int) < ((bo1 l).length : Int)) = true := by rw [hle]; simpa using hlt
   have hy0 := fg5 hlt;generalize l[i] = x at hy0;have hx : (bo1 l)[(i : Int).toNat]? = some (enc x) := bo5 (by rw [fh0]; exact hy0);rw [ok, dc8 hy0]
   cases hc : x.k != 0 with
   | true =>
    repeat' (first | refine yz ?_ | refine yi (enc x) hx ?_ | refine yr [0] ?_ | refine yt [0] ?_ | refine yx ?_ | (refine yy ?_ ?_ <;> intro _) | exact zD | exact zL)
   | false =>
    repeat' (first | refine yz ?_ | refine yi (enc x) hx ?_ | refine yx ?_ | (refine yy ?_ ?_ <;> intro _) | exact zD | exact zL)
    refine ac1 ?_;exact ⟨⟨i + 1, by omega, by rw [ok, dc8 hy0, hc]; rfl⟩, by dsimp only; omega, (zle 3)⟩
  ·have g1 : decide ((i : Int) < ((bo1 l).length : Int)) = false := by rw [hle]; simp; omega
   rw [ok, fh6 hge]
   repeat' (first | refine yz ?_ | refine yp b86 cb0 ?_ | refine yr [0] ?_ | refine yt [0] ?_ | refine yx ?_ | (refine yy ?_ ?_ <;> intro _) | exact zD | exact zL)
 | false =>
 have c0' : (nm.toList == (⟨#[99, 111, 97, 108, 101, 115, 99, 101]⟩ : ByteArray).toList) = false := c0
 cases c1 : eqS nm nmId with
 | true =>
  have c1' : (nm.toList == (⟨#[105, 100]⟩ : ByteArray).toList) = true := c1;simp only [cond_false, cond_true];have i1 := cb4 a.n
  cases k5 : a.k == 5 <;> cases k6 : a.k == 6
  all_goals
   refine yd func87 ntmps87 fun _ _ _ _=>?_
   repeat' (first | refine yz ?_ | refine yi (enc a) hx0 ?_ | refine yp br9 i1 ?_ | refine yp b86 cb0 ?_ | refine yr [0] ?_ | refine yt [0] ?_ | refine yx ?_ | (refine yy ?_ ?_ <;> intro _) | exact zD | exact zL)
 | false =>
 have c1' : (nm.toList == (⟨#[105, 100]⟩ : ByteArray).toList) = false := c1
 cases c2 : eqS nm dv9 with
 | true =>
  have c2' : (nm.toList == (⟨#[97, 98, 115]⟩ : ByteArray).toList) = true := c2;simp only [cond_false, cond_true];have n1 := cf0 cg4 a;have r1 := cc0 (max (bq6 a) (0 - bq6 a)) (bq7 a);unfold dw6
  cases hn : bq5 a with
  | true =>
   rw [hn] at n1;obtain ⟨-, f2, -⟩ := cz8 (ds2 hn);refine yd func87 ntmps87 fun _ _ _ _=>?_
   repeat' (first | refine yz ?_ | refine yi (enc a) hx0 ?_ | refine yp bs0 n1 ?_ | refine yp bs1 r1 ?_ | refine yr [0] ?_ | refine yt [0] ?_ | refine yx ?_ | (refine yy ?_ ?_ <;> intro _) | exact zD | exact zL)
  | false =>
   rw [hn] at n1;refine yd func87 ntmps87 fun _ _ _ _=>?_
   repeat' (first | refine yz ?_ | refine yi (enc a) hx0 ?_ | refine yp bs0 n1 ?_ | refine yp b86 cb0 ?_ | refine yr [0] ?_ | refine yt [0] ?_ | refine yx ?_ | (refine yy ?_ ?_ <;> intro _) | exact zD | exact zL)
 | false =>
 have c2' : (nm.toList == (⟨#[97, 98, 115]⟩ : ByteArray).toList) = false := c2
 cases c3 : eqS nm dw0 with
 | true =>
  have c3' : (nm.toList == (⟨#[116, 101, 120, 116]⟩ : ByteArray).toList) = true := c3;simp only [cond_false, cond_true];have t1 := cp5 a (htx c3);have s1 := cb6 (bs (txt a))
  cases k0 : a.k != 0
  all_goals
   refine yd func87 ntmps87 fun _ _ _ _=>?_
   repeat' (first | refine yz ?_ | refine yi (enc a) hx0 ?_ | refine yp b152 t1 ?_ | refine yp bs2 s1 ?_ | refine yp b86 cb0 ?_ | refine yr [0] ?_ | refine yt [0] ?_ | refine yx ?_ | (refine yy ?_ ?_ <;> intro _) | exact zD | exact zL)
 | false =>
 have c3' : (nm.toList == (⟨#[116, 101, 120, 116]⟩ : ByteArray).toList) = false := c3
 cases c4 : eqS nm ds6 with
 | true =>
  have c4' : (nm.toList == (⟨#[116, 121, 112, 101]⟩ : ByteArray).toList) = true := c4;simp only [fi8, fj4, fj6, fk1, cond_false, cond_true];have h1 := dv2 g env a hg;have o1 := dt2 nm (du9 g a)
  cases hb : dv0 g a <;> rw [hb] at h1
  all_goals
   refine yd func87 ntmps87 fun _ _ _ _=>?_
   repeat' (first | refine yz ?_ | refine yi (enc a) hx0 ?_ | refine yc [0] bs3 (h1) ?_ | refine yp b154 o1 ?_ | refine yp b86 cb0 ?_ | refine yr [0] ?_ | refine yt [0] ?_ | refine yx ?_ | (refine yy ?_ ?_ <;> intro _) | exact zD | exact zL)
 | false =>
 have c4' : (nm.toList == (⟨#[116, 121, 112, 101]⟩ : ByteArray).toList) = false := c4
 cases c5 : eqS nm ds7 with
 | true =>
  have c5' : (nm.toList == (⟨#[115, 116, 97, 114, 116]⟩ : ByteArray).toList) = true := c5;simp only [fi8, fj4, fj6, fk1, cond_false, cond_true];have h1 := dv2 g env a hg;have o1 := dt2 nm (du9 g a)
  cases hb : dv0 g a <;> rw [hb] at h1
  all_goals
   refine yd func87 ntmps87 fun _ _ _ _=>?_
   repeat' (first | refine yz ?_ | refine yi (enc a) hx0 ?_ | refine yc [0] bs3 (h1) ?_ | refine yp b154 o1 ?_ | refine yp b86 cb0 ?_ | refine yr [0] ?_ | refine yt [0] ?_ | refine yx ?_ | (refine yy ?_ ?_ <;> intro _) | exact zD | exact zL)
 | false =>
 have c5' : (nm.toList == (⟨#[115, 116, 97, 114, 116]⟩ : ByteArray).toList) = false := c5
 cases c6 : eqS nm ds8 with
 | true =>
  have c6' : (nm.toList == (⟨#[101, 110, 100]⟩ : ByteArray).toList) = true := c6;simp only [fi8, fj4, fj6, fk1, cond_false, cond_true];have h1 := dv2 g env a hg;have o1 := dt2 nm (du9 g a)
  cases hb : dv0 g a <;> rw [hb] at h1
  all_goals
   refine yd func87 ntmps87 fun _ _ _ _=>?_
   repeat' (first | refine yz ?_ | refine yi (enc a) hx0 ?_ | refine yc [0] bs3 (h1) ?_ | refine yp b154 o1 ?_ | refine yp b86 cb0 ?_ | refine yr [0] ?_ | refine yt [0] ?_ | refine yx ?_ | (refine yy ?_ ?_ <;> intro _) | exact zD | exact zL)
 | false =>
 have c6' : (nm.toList == (⟨#[101, 110, 100]⟩ : ByteArray).toList) = false := c6
 cases c7 : eqS nm dw1 with
 | true =>
  have c7' : (nm.toList == (⟨#[108, 97, 98, 101, 108, 115]⟩ : ByteArray).toList) = true := c7;simp only [fk5, cond_false, cond_true];have h1 := dv1 g env a hg;have hnn := dv4 hg a
  cases hb : du8 g a with
  | false =>
   rw [hb] at h1;refine yd func87 ntmps87 fun _ _ _ _=>?_
   repeat' (first | refine yz ?_ | refine yi (enc a) hx0 ?_ | refine yc [0] bs4 (h1) ?_ | refine yp b86 cb0 ?_ | refine yr [0] ?_ | refine yt [0] ?_ | refine yx ?_ | (refine yy ?_ ?_ <;> intro _) | exact zD | exact zL)
  | true =>
   rw [hb] at h1;obtain ⟨hln, -⟩ := hnn;generalize du7 g a = nd at h1 hln ⊢
   have hL := cu4 (nd.labels.map bp7) (dt9 (by simpa using hln) fun x hx => by
    obtain ⟨s, -, rfl⟩ := fk8.1 hx;rfl)
   have hll0 : (nd.labels.map D.str).length = nd.labels.length := by simp
   refine yd func87 ntmps87 fun _ _ _ _=>?_
   repeat' (first | refine yz ?_ | refine yi (enc a) hx0 ?_ | refine yc [0] bs4 (h1) ?_ | refine yx ?_ | (refine yy ?_ ?_ <;> intro _) | exact zD | exact zL)
   refine ac7 (α := Fin (nd.labels.length + 1)) (fun p => ⟨[(6, .ptr 1 0), (16, bi6 2 (bo1 ((nd.labels.take p.val).map bp7))), (99, .d (.sl (nd.labels.map .str))), (100, .d (.int (nd.labels.map D.str).length)), (101, .d (.int p.val))], [evO g env, du1] ++ ay5 24 5 (bo1 ((nd.labels.take p.val).map bp7))⟩) (fun p => nd.labels.length - p.val) ⟨0, by omega⟩ (zle 2) ?_;rintro ⟨i, hi⟩;dsimp only;rcases fg7 i nd.labels.length with hlt | hge
   ·have g1 : decide ((i : Int) < ((nd.labels.map D.str).length : Int)) = true := by rw [hll0]; simpa using hlt
    have hy0 := fg5 hlt;have htk : nd.labels.take (i + 1) = nd.labels.take i ++ [nd.labels[i]] := by rw [fo5 hlt]
    generalize nd.labels[i] = x at hy0 htk;have hx := dc5 (f := D.str) hy0;have s1 := cb6 x;have hta : bo1 ((nd.labels.take (i + 1)).map bp7) = bo1 ((nd.labels.take i).map bp7) ++ [enc (bp7 x)] := by rw [htk, fm7, fj0, fn5, du0]
    have hll : (bo1 ((nd.labels.take i).map bp7)).length ≤ i := by rw [bo7]; simp; omega
    match ho' : bo1 ((nd.labels.take i).map bp7), hll with
    | [], hll =>
     dsimp only [bi6, ay5, List.append, HAppend.hAppend, Append.append]
     repeat' (first | refine yz ?_ | refine yi (.str x) hx ?_ | refine yp bs2 s1 ?_ | (refine qS rfl ⟨by simp, du2 (bp7 x), by (show (0 + 1) * 64 ≤ 140737488355328; omega), by (show 0 + 1 ≤ 9223372036854775807; omega)⟩ ?_) | refine yx ?_ | (refine yy ?_ ?_ <;> intro _) | exact zD | exact zL)
     refine ac1 ?_;refine ⟨⟨i + 1, by omega⟩, by dsimp only; omega, ?_⟩;dsimp only;rw [hta, ho'];exact (bj8 [0, 1, 2])
    | b :: q, hll =>
     dsimp only [bi6, ay5, List.append, HAppend.hAppend, Append.append]
     repeat' (first | refine yz ?_ | refine yi (.str x) hx ?_ | refine yp bs2 s1 ?_ | (refine qS rfl ⟨by simp, du2 (bp7 x), by (show ((b :: q).length + 1) * 64 ≤ 140737488355328; omega), by (show (b :: q).length + 1 ≤ 9223372036854775807; omega)⟩ ?_) | refine yx ?_ | (refine yy ?_ ?_ <;> intro _) | exact zD | exact zL)
     refine ac1 ?_;refine ⟨⟨i + 1, by omega⟩, by dsimp only; omega, ?_⟩;dsimp only;rw [hta, ho'];exact (bj8 [0, 1, 3])
   ·have g1 : decide ((i : Int) < ((nd.labels.map D.str).length : Int)) = false := by rw [hll0]; simp; omega
    rw [fk9 hge]
    match ho' : bo1 (nd.labels.map bp7), hL with
    | [], hL =>
     dsimp only [bi6, ay5, List.append, HAppend.hAppend, Append.append]
     repeat' (first | refine yz ?_ | refine yp bs5 hL ?_ | refine yr [0] ?_ | refine yt [0] ?_ | refine yx ?_ | (refine yy ?_ ?_ <;> intro _) | exact zD | exact zL)
    | b :: q, hL =>
     dsimp only [bi6, ay5, List.append, HAppend.hAppend, Append.append];refine qA ?_;refine au6 2 rfl ?_
     repeat' (first | refine yz ?_ | refine yp bs5 hL ?_ | refine yr [0] ?_ | refine yt [0] ?_ | refine yx ?_ | (refine yy ?_ ?_ <;> intro _) | exact zD | exact zL)
 | false =>
 have c7' : (nm.toList == (⟨#[108, 97, 98, 101, 108, 115]⟩ : ByteArray).toList) = false := c7
 cases c8 : eqS nm dw2 with
 | true =>
  have c8' : (nm.toList == (⟨#[115, 105, 122, 101]⟩ : ByteArray).toList) = true := c8;simp only [fk5, cond_false, cond_true];have z1 := ds5 a;refine yd func87 ntmps87 fun _ _ _ _=>?_
  repeat' (first | refine yz ?_ | refine yi (enc a) hx0 ?_ | refine yp b157 z1 ?_ | refine yr [0] ?_ | refine yt [0] ?_ | refine yx ?_ | (refine yy ?_ ?_ <;> intro _) | exact zD | exact zL)
 | false =>
 have c8' : (nm.toList == (⟨#[115, 105, 122, 101]⟩ : ByteArray).toList) = false := c8
 cases c9 : eqS nm ds9 with
 | true =>
  have c9' : (nm.toList == (⟨#[108, 101, 110, 103, 116, 104]⟩ : ByteArray).toList) = true := c9;simp only [fi8, fj4, fj6, fk1, fk5, cond_false, cond_true];have p1 := du3 nm a.l hal (cp7 hnl);rw [← dv3] at p1
  cases k7 : a.k == 7
  all_goals
   refine yd func87 ntmps87 fun _ _ _ _=>?_
   repeat' (first | refine yz ?_ | refine yi (enc a) hx0 ?_ | refine yp b158 p1 ?_ | refine yp b86 cb0 ?_ | refine yr [0] ?_ | refine yt [0] ?_ | refine yx ?_ | (refine yy ?_ ?_ <;> intro _) | exact zD | exact zL)
 | false =>
 have c9' : (nm.toList == (⟨#[108, 101, 110, 103, 116, 104]⟩ : ByteArray).toList) = false := c9
 cases c10 : eqS nm dt0 with
 | true =>
  have c10' : (nm.toList == (⟨#[110, 111, 100, 101, 115]⟩ : ByteArray).toList) = true := c10;simp only [fi8, fj4, fj6, fk1, fk5, cond_false, cond_true];have p1 := du3 nm a.l hal (cp7 hnl);rw [← dv3] at p1
  cases k7 : a.k == 7
  all_goals
   refine yd func87 ntmps87 fun _ _ _ _=>?_
   repeat' (first | refine yz ?_ | refine yi (enc a) hx0 ?_ | refine yp b158 p1 ?_ | refine yp b86 cb0 ?_ | refine yr [0] ?_ | refine yt [0] ?_ | refine yx ?_ | (refine yy ?_ ?_ <;> intro _) | exact zD | exact zL)
 | false =>
 have c10' : (nm.toList == (⟨#[110, 111, 100, 101, 115]⟩ : ByteArray).toList) = false := c10
 cases c11 : eqS nm dt1 with
 | true =>
  have c11' : (nm.toList == (⟨#[101, 100, 103, 101, 115]⟩ : ByteArray).toList) = true := c11;simp only [fi8, fj4, fj6, fk1, fk5, cond_false, cond_true];have p1 := du3 nm a.l hal (cp7 hnl);rw [← dv3] at p1
  cases k7 : a.k == 7
  all_goals
   refine yd func87 ntmps87 fun _ _ _ _=>?_
   repeat' (first | refine yz ?_ | refine yi (enc a) hx0 ?_ | refine yp b158 p1 ?_ | refine yp b86 cb0 ?_ | refine yr [0] ?_ | refine yt [0] ?_ | refine yx ?_ | (refine yy ?_ ?_ <;> intro _) | exact zD | exact zL)
 | false =>
 have c11' : (nm.toList == (⟨#[101, 100, 103, 101, 115]⟩ : ByteArray).toList) = false := c11
 cases c12 : eqS nm dw3 with
 | true =>
  have c12' : (nm.toList == (⟨#[102, 105, 114, 115, 116]⟩ : ByteArray).toList) = true := c12;simp only [fi8, fj4, fj6, fk1, fk5, cond_false, cond_true]
  cases k8 : a.k == 8 with
  | false =>
   refine yd func87 ntmps87 fun _ _ _ _=>?_
   repeat' (first | refine yz ?_ | refine yi (enc a) hx0 ?_ | refine yp b86 cb0 ?_ | refine yr [0] ?_ | refine yt [0] ?_ | refine yx ?_ | (refine yy ?_ ?_ <;> intro _) | exact zD | exact zL)
  | true =>
   cases he : a.l with
   | nil =>
    have hk0 : kids a = [] := by rw [bo3, he]; rfl
    have g0 : decide (((kids a).length : Int) > 0) = false := by rw [hk0]; rfl
    refine yd func87 ntmps87 fun _ _ _ _=>?_
    repeat' (first | refine yz ?_ | refine yi (enc a) hx0 ?_ | refine yp b86 cb0 ?_ | refine yr [0] ?_ | refine yt [0] ?_ | refine yx ?_ | (refine yy ?_ ?_ <;> intro _) | exact zD | exact zL)
   | cons b q =>
    have hpos : 1 ≤ (kids a).length := by rw [hkl, he]; simp
    have g0 : decide (((kids a).length : Int) > 0) = true := by simp; omega
    have hb0 : (kids a)[(0 : Int).toNat]? = some (enc b) := bo4 (by rw [he]; rfl);refine yd func87 ntmps87 fun _ _ _ _=>?_
    repeat' (first | refine yz ?_ | refine yi (enc a) hx0 ?_ | refine yi (enc b) hb0 ?_ | refine yr [0] ?_ | refine yt [0] ?_ | refine yx ?_ | (refine yy ?_ ?_ <;> intro _) | exact zD | exact zL)
 | false =>
 have c12' : (nm.toList == (⟨#[102, 105, 114, 115, 116]⟩ : ByteArray).toList) = false := c12
 cases c13 : eqS nm dw4 with
 | true =>
  have c13' : (nm.toList == (⟨#[108, 97, 115, 116]⟩ : ByteArray).toList) = true := c13;simp only [fi8, fj4, fj6, fk1, fk5, cond_false, cond_true]
  cases k8 : a.k == 8 with
  | false =>
   refine yd func87 ntmps87 fun _ _ _ _=>?_
   repeat' (first | refine yz ?_ | refine yi (enc a) hx0 ?_ | refine yp b86 cb0 ?_ | refine yr [0] ?_ | refine yt [0] ?_ | refine yx ?_ | (refine yy ?_ ?_ <;> intro _) | exact zD | exact zL)
  | true =>
   cases he : a.l with
   | nil =>
    have hk0 : kids a = [] := by rw [bo3, he]; rfl
    have g0 : decide (((kids a).length : Int) > 0) = false := by rw [hk0]; rfl
    refine yd func87 ntmps87 fun _ _ _ _=>?_
    repeat' (first | refine yz ?_ | refine yi (enc a) hx0 ?_ | refine yp b86 cb0 ?_ | refine yr [0] ?_ | refine yt [0] ?_ | refine yx ?_ | (refine yy ?_ ?_ <;> intro _) | exact zD | exact zL)
   | cons b q =>
    have hpos : 1 ≤ (kids a).length := by rw [hkl, he]; simp
    have g0 : decide (((kids a).length : Int) > 0) = true := by simp; omega
    have hbl : (kids a)[((((kids a).length : Int) - 1)).toNat]? = some (enc ((b :: q).getLastD bp9)) := by
     refine bo4 ?_;rw [hkl, he, show (((b :: q).length : Int) - 1).toNat = (b :: q).length - 1 by simp, List.getLastD_cons];rw [← List.getLast?_eq_getElem?];simp [List.getLast?_cons]
    refine yd func87 ntmps87 fun _ _ _ _=>?_
    repeat' (first | refine yz ?_ | refine yi (enc a) hx0 ?_ | refine qI (enc ((b :: q).getLastD bp9)) rfl (ap2 rfl) rfl rfl rfl rfl rfl rfl (by first | omega | decide) hbl ?_ | refine yr [0] ?_ | refine yt [0] ?_ | refine yx ?_ | (refine yy ?_ ?_ <;> intro _) | exact zD | exact zL)
 | false =>
 have c13' : (nm.toList == (⟨#[108, 97, 115, 116]⟩ : ByteArray).toList) = false := c13;simp only [fk5, cond_false];refine yd func87 ntmps87 fun _ _ _ _=>?_
 repeat' (first | refine yz ?_ | refine yi (enc a) hx0 ?_ | refine yp b86 cb0 ?_ | refine yr [0] ?_ | refine yt [0] ?_ | refine yx ?_ | (refine yy ?_ ?_ <;> intro _) | exact zD | exact zL)
def a1 (l : List V) : V := (l.drop 1).headD bp9
def apF (g : Gr) (env : List Bd) (op : Int) (v : V) (nm : ByteArray) (l : List V) : V :=
 bif op == 1 then v else bif op == 2 then du5 env nm else bif op == 3 then dv6 g (a0 l) nm else
 bif op == 4 then (bif du8 g (a0 l) then bp4 (dd4 (du7 g (a0 l)).labels nm) else bp9) else
 bif op == 5 then bq9 (2 - kn (bq8 (a0 l))) else
 bif op == 18 then bq9 (min (kn (bq8 (a0 l))) (kn (bq8 (a1 l)))) else bif op == 19 then bq9 (max (kn (bq8 (a0 l))) (kn (bq8 (a1 l)))) else
 bif op == 6 then (bif bq5 (a0 l) then bp6 (0 - bq6 (a0 l)) (bq7 (a0 l)) else bp9) else
 bif decide (7 ≤ op) && decide (op ≤ 11) then arF op (a0 l) (a1 l) else
 bif op == 21 then bp4 ((a0 l).k == 0) else bif op == 22 then cu3 l else bif op == 23 then fnF g nm l else bif op == 24 then bp9 else bq9 (dr7 op (a0 l) (a1 l))
def giv (v : V) : V := bif Val.okV v then v else bp9
theorem dw9 (v : V) : Val.okV (giv v) = true := by
 unfold giv
 cases h : Val.okV v with
 | true => exact h
 | false => show Val.okV bp9 = true; decide +kernel
def shp (op : Int) (n : Nat) : Prop := (1 ≤ op ∧ op ≤ 24) ∧ ((op = 3 ∨ op = 4 ∨ op = 5 ∨ op = 6 ∨ op = 21) → n = 1) ∧ ((7 ≤ op ∧ op ≤ 20) → n = 2) ∧ (op = 23 → 1 ≤ n)
theorem dx0 : ∀ (m : Nat) (v : V), okN m v = true → nar v = true := by
 have hp : ∀ (k n d : Int) (s : ByteArray) (l : List V), bq1 (.mk k n d s l) = true → l = [] := by
  intro k n d s l h;unfold bq1 at h;simp only [V.l, fi1, fg6, beq_iff_eq] at h
  cases l with
  | nil => rfl
  | cons a r => simp at h
 have hstep : ∀ (l : List V) (i : Nat), bq3 i l = true → cp6 l = true := by
  intro l
  induction l with
  | nil => intro i _; rfl
  | cons a r ih =>
   intro i h;simp only [bq3, fg6] at h;obtain ⟨k, n, d, s, l⟩ := a
   have h2 : bq1 (.mk k n d s l) = true := by
    have := h.1;unfold bq2 at this;rw [fg6] at this;exact this.2
   obtain rfl := hp k n d s l h2;simp only [cp6, fg6];exact ⟨rfl, ih _ h.2⟩
 have hpath : ∀ l : List V, bq4 l = true → decide (l.length ≤ 2000000) = true ∧ cp6 l = true := by
  intro l h;unfold bq4 at h;simp only [fg6, decide_eq_true_eq] at h;exact ⟨by simp; omega, hstep l 0 h.2⟩
 intro m
 induction m with
 | zero =>
  rintro ⟨k, n, d, s, l⟩ h;simp only [okN, fi1, fg6] at h;simp only [nar, fg6];rcases h with h | h
  ·obtain rfl := hp k n d s l h; exact ⟨rfl, rfl⟩
  ·exact hpath l h.2.2
 | succ m ih =>
  rintro ⟨k, n, d, s, l⟩ h;simp only [okN, fi1, fg6] at h;simp only [nar, fg6];rcases h with (h | h) | h
  ·obtain rfl := hp k n d s l h; exact ⟨rfl, rfl⟩
  ·exact hpath l h.2.2
  ·obtain ⟨⟨-, h2⟩, h3⟩ := h.2;refine ⟨?_, dt8 fun x hx => ih x (fi5.1 h3 x hx)⟩;have := of_decide_eq_true h2;simp only [V.l] at this;simp; omega
theorem dx1 {v : V} (h : Val.okV v = true) : nar v = true := dx0 8 v h
set_option maxHeartbeats 4000000 in
theorem dx2 (g : Gr) (env : List Bd) (v : V) (nm : ByteArray) (ds : Bool) (ks : List Ex) (l : List V) (hg : du4 g) (henv : env.length ≤ 2000000) (hs : shp 1 l.length) (hlen : l.length ≤ 2000000) (hv : ∀ x ∈ l, Val.okV x = true) (hfn : (1 : Int) = 23 → dw7 nm l) :
  EvS E 159 [.ptr 0 0, .d (dg0 (.mk 1 v nm ds ks)), .d (.sl (bo1 l))] [evO g env] (.d (enc (apF g env 1 v nm l))) [evO g env] := by
 have hun : l.length = 1 → ∃ a, l = [a] := fun h => by
  match l, h with
  | [a], _ => exact ⟨a, rfl⟩
 have hbi : l.length = 2 → ∃ a b, l = [a, b] := fun h => by
  match l, h with
  | [a, b], _ => exact ⟨a, b, rfl⟩
 obtain ⟨-, hu, hb, -⟩ := hs;rw [show apF g env 1 v nm l = v from rfl];refine yd func159 ntmps159 fun _ _ _ _=>?_
 repeat' (first | refine yz ?_ | refine yr [0] ?_ | refine yt [0] ?_ | refine yr [0] ?_ | refine yt [0] ?_ | refine yx ?_ | (refine yy ?_ ?_ <;> intro _) | exact zD | exact zL)
set_option maxHeartbeats 4000000 in
theorem dx3 (g : Gr) (env : List Bd) (v : V) (nm : ByteArray) (ds : Bool) (ks : List Ex) (l : List V) (hg : du4 g) (henv : env.length ≤ 2000000) (hs : shp 2 l.length) (hlen : l.length ≤ 2000000) (hv : ∀ x ∈ l, Val.okV x = true) (hfn : (2 : Int) = 23 → dw7 nm l) :
  EvS E 159 [.ptr 0 0, .d (dg0 (.mk 2 v nm ds ks)), .d (.sl (bo1 l))] [evO g env] (.d (enc (apF g env 2 v nm l))) [evO g env] := by
 have hun : l.length = 1 → ∃ a, l = [a] := fun h => by
  match l, h with
  | [a], _ => exact ⟨a, rfl⟩
 have hbi : l.length = 2 → ∃ a b, l = [a, b] := fun h => by
  match l, h with
  | [a, b], _ => exact ⟨a, b, rfl⟩
 obtain ⟨-, hu, hb, -⟩ := hs;rw [show apF g env 2 v nm l = du5 env nm from rfl];have h1 := du6 g env nm henv;refine yd func159 ntmps159 fun _ _ _ _=>?_
 repeat' (first | refine yz ?_ | refine yc [0] b204 (h1) ?_ | refine yr [0] ?_ | refine yt [0] ?_ | refine yx ?_ | (refine yy ?_ ?_ <;> intro _) | exact zD | exact zL)
set_option maxHeartbeats 4000000 in
theorem dx4 (g : Gr) (env : List Bd) (v : V) (nm : ByteArray) (ds : Bool) (ks : List Ex) (l : List V) (hg : du4 g) (henv : env.length ≤ 2000000) (hs : shp 3 l.length) (hlen : l.length ≤ 2000000) (hv : ∀ x ∈ l, Val.okV x = true) (hfn : (3 : Int) = 23 → dw7 nm l) :
  EvS E 159 [.ptr 0 0, .d (dg0 (.mk 3 v nm ds ks)), .d (.sl (bo1 l))] [evO g env] (.d (enc (apF g env 3 v nm l))) [evO g env] := by
 have hun : l.length = 1 → ∃ a, l = [a] := fun h => by
  match l, h with
  | [a], _ => exact ⟨a, rfl⟩
 have hbi : l.length = 2 → ∃ a b, l = [a, b] := fun h => by
  match l, h with
  | [a, b], _ => exact ⟨a, b, rfl⟩
 obtain ⟨-, hu, hb, -⟩ := hs;obtain ⟨a, rfl⟩ := hun (hu (by omega));have hx0 : (bo1 [a])[(0 : Int).toNat]? = some (enc a) := rfl;have oa := hv a (by simp);rw [show apF g env 3 v nm [a] = dv6 g a nm from rfl];have h1 := dv7 g env a nm hg;refine yd func159 ntmps159 fun _ _ _ _=>?_
 repeat' (first | refine yq 7 [6,7] ?_ | refine yf 7 0 6 ?_ | refine yw ?_ | refine rgN ?_ | refine yv ?_ | refine yz ?_ | refine bi4 [0] (id := 7) (i := 6) rfl rfl rfl rfl rfl (FnX.plain _) b205 (h1) rfl rfl rfl rfl rfl (by repeat (first | exact trivial | refine ⟨⟨rfl, rfl⟩, ?_⟩ | refine ⟨trivial, ?_⟩)) ?_ | refine yi (enc a) hx0 ?_ | refine yr [0] ?_ | refine yt [0] ?_ | refine yx ?_ | (refine yy ?_ ?_ <;> intro _) | exact zD | exact zL)
set_option maxHeartbeats 4000000 in
theorem dx5 (g : Gr) (env : List Bd) (v : V) (nm : ByteArray) (ds : Bool) (ks : List Ex) (l : List V) (hg : du4 g) (henv : env.length ≤ 2000000) (hs : shp 4 l.length) (hlen : l.length ≤ 2000000) (hv : ∀ x ∈ l, Val.okV x = true) (hfn : (4 : Int) = 23 → dw7 nm l) :
  EvS E 159 [.ptr 0 0, .d (dg0 (.mk 4 v nm ds ks)), .d (.sl (bo1 l))] [evO g env] (.d (enc (apF g env 4 v nm l))) [evO g env] := by
 have hun : l.length = 1 → ∃ a, l = [a] := fun h => by
  match l, h with
  | [a], _ => exact ⟨a, rfl⟩
 have hbi : l.length = 2 → ∃ a b, l = [a, b] := fun h => by
  match l, h with
  | [a, b], _ => exact ⟨a, b, rfl⟩
 obtain ⟨-, hu, hb, -⟩ := hs;obtain ⟨a, rfl⟩ := hun (hu (by omega));have hx0 : (bo1 [a])[(0 : Int).toNat]? = some (enc a) := rfl;have oa := hv a (by simp);rw [show apF g env 4 v nm [a] = bif du8 g a then bp4 (dd4 (du7 g a).labels nm) else bp9 from rfl];have h1 := dv1 g env a hg;have h2 := de4 (du7 g a) nm;have h3 := cb2 (dd4 (du7 g a).labels nm)
 cases hn : du8 g a <;> rw [hn] at h1
 all_goals
  refine yd func159 ntmps159 fun _ _ _ _=>?_
  repeat' (first | refine yz ?_ | refine yc [0] bs4 (h1) ?_ | refine yi (enc a) hx0 ?_ | refine yp b207 h2 ?_ | refine yp b206 h3 ?_ | refine yp b86 cb0 ?_ | refine yr [0] ?_ | refine yt [0] ?_ | refine yx ?_ | (refine yy ?_ ?_ <;> intro _) | exact zD | exact zL)
set_option maxHeartbeats 4000000 in
theorem dx6 (g : Gr) (env : List Bd) (v : V) (nm : ByteArray) (ds : Bool) (ks : List Ex) (l : List V) (hg : du4 g) (henv : env.length ≤ 2000000) (hs : shp 5 l.length) (hlen : l.length ≤ 2000000) (hv : ∀ x ∈ l, Val.okV x = true) (hfn : (5 : Int) = 23 → dw7 nm l) :
  EvS E 159 [.ptr 0 0, .d (dg0 (.mk 5 v nm ds ks)), .d (.sl (bo1 l))] [evO g env] (.d (enc (apF g env 5 v nm l))) [evO g env] := by
 have hun : l.length = 1 → ∃ a, l = [a] := fun h => by
  match l, h with
  | [a], _ => exact ⟨a, rfl⟩
 have hbi : l.length = 2 → ∃ a b, l = [a, b] := fun h => by
  match l, h with
  | [a, b], _ => exact ⟨a, b, rfl⟩
 obtain ⟨-, hu, hb, -⟩ := hs;obtain ⟨a, rfl⟩ := hun (hu (by omega));have hx0 : (bo1 [a])[(0 : Int).toNat]? = some (enc a) := rfl;have oa := hv a (by simp);rw [show apF g env 5 v nm [a] = bq9 (2 - kn (bq8 a)) from rfl];have t1 := cf2 cg4 a;have t2 := ca4 (bq8 a);have t3 := cc4 (2 - kn (bq8 a));refine yd func159 ntmps159 fun _ _ _ _=>?_
 repeat' (first | refine yz ?_ | refine yi (enc a) hx0 ?_ | refine yp bt2 t1 ?_ | refine yp b209 t2 ?_ | refine yp bt1 t3 ?_ | refine yr [0] ?_ | refine yt [0] ?_ | refine yx ?_ | (refine yy ?_ ?_ <;> intro _) | exact zD | exact zL)
set_option maxHeartbeats 4000000 in
theorem dx7 (g : Gr) (env : List Bd) (v : V) (nm : ByteArray) (ds : Bool) (ks : List Ex) (l : List V) (hg : du4 g) (henv : env.length ≤ 2000000) (hs : shp 6 l.length) (hlen : l.length ≤ 2000000) (hv : ∀ x ∈ l, Val.okV x = true) (hfn : (6 : Int) = 23 → dw7 nm l) :
  EvS E 159 [.ptr 0 0, .d (dg0 (.mk 6 v nm ds ks)), .d (.sl (bo1 l))] [evO g env] (.d (enc (apF g env 6 v nm l))) [evO g env] := by
 have hun : l.length = 1 → ∃ a, l = [a] := fun h => by
  match l, h with
  | [a], _ => exact ⟨a, rfl⟩
 have hbi : l.length = 2 → ∃ a b, l = [a, b] := fun h => by
  match l, h with
  | [a, b], _ => exact ⟨a, b, rfl⟩
 obtain ⟨-, hu, hb, -⟩ := hs;obtain ⟨a, rfl⟩ := hun (hu (by omega));have hx0 : (bo1 [a])[(0 : Int).toNat]? = some (enc a) := rfl;have oa := hv a (by simp);rw [show apF g env 6 v nm [a] = bif bq5 a then bp6 (0 - bq6 a) (bq7 a) else bp9 from rfl];have n1 := cf0 cg4 a;have r1 := cc0 (0 - bq6 a) (bq7 a)
 cases hn : bq5 a with
 | true =>
  rw [hn] at n1;obtain ⟨-, f2, -⟩ := cz8 (ds2 hn);refine yd func159 ntmps159 fun _ _ _ _=>?_
  repeat' (first | refine yz ?_ | refine yi (enc a) hx0 ?_ | refine yp bs0 n1 ?_ | refine yp bs1 r1 ?_ | refine yr [0] ?_ | refine yt [0] ?_ | refine yx ?_ | (refine yy ?_ ?_ <;> intro _) | exact zD | exact zL)
 | false =>
  rw [hn] at n1;refine yd func159 ntmps159 fun _ _ _ _=>?_
  repeat' (first | refine yz ?_ | refine yi (enc a) hx0 ?_ | refine yp bs0 n1 ?_ | refine yp b86 cb0 ?_ | refine yr [0] ?_ | refine yt [0] ?_ | refine yx ?_ | (refine yy ?_ ?_ <;> intro _) | exact zD | exact zL)
set_option maxHeartbeats 4000000 in
theorem dx8 (g : Gr) (env : List Bd) (v : V) (nm : ByteArray) (ds : Bool) (ks : List Ex) (l : List V) (hg : du4 g) (henv : env.length ≤ 2000000) (hs : shp 7 l.length) (hlen : l.length ≤ 2000000) (hv : ∀ x ∈ l, Val.okV x = true) (hfn : (7 : Int) = 23 → dw7 nm l) :
  EvS E 159 [.ptr 0 0, .d (dg0 (.mk 7 v nm ds ks)), .d (.sl (bo1 l))] [evO g env] (.d (enc (apF g env 7 v nm l))) [evO g env] := by
 have hun : l.length = 1 → ∃ a, l = [a] := fun h => by
  match l, h with
  | [a], _ => exact ⟨a, rfl⟩
 have hbi : l.length = 2 → ∃ a b, l = [a, b] := fun h => by
  match l, h with
  | [a, b], _ => exact ⟨a, b, rfl⟩
 obtain ⟨-, hu, hb, -⟩ := hs;obtain ⟨a, b, rfl⟩ := hbi (hb (by omega));have hx0 : (bo1 [a, b])[(0 : Int).toNat]? = some (enc a) := rfl;have hx1 : (bo1 [a, b])[(1 : Int).toNat]? = some (enc b) := rfl;have oa := hv a (by simp);have ob := hv b (by simp);rw [show apF g env 7 v nm [a, b] = arF 7 a b from rfl];have h1 := ds4 7 a b (by omega) oa ob;refine yd func159 ntmps159 fun _ _ _ _=>?_
 repeat' (first | refine yq 29 [9] ?_ | refine yf 29 0 9 ?_ | refine yw ?_ | refine rgN ?_ | refine yv ?_ | refine yz ?_ | refine yi (enc a) hx0 ?_ | refine yi (enc b) hx1 ?_ | refine yp bt3 h1 ?_ | refine yr [0] ?_ | refine yt [0] ?_ | refine yx ?_ | (refine yy ?_ ?_ <;> intro _) | exact zD | exact zL)
set_option maxHeartbeats 4000000 in
theorem dx9 (g : Gr) (env : List Bd) (v : V) (nm : ByteArray) (ds : Bool) (ks : List Ex) (l : List V) (hg : du4 g) (henv : env.length ≤ 2000000) (hs : shp 8 l.length) (hlen : l.length ≤ 2000000) (hv : ∀ x ∈ l, Val.okV x = true) (hfn : (8 : Int) = 23 → dw7 nm l) :
  EvS E 159 [.ptr 0 0, .d (dg0 (.mk 8 v nm ds ks)), .d (.sl (bo1 l))] [evO g env] (.d (enc (apF g env 8 v nm l))) [evO g env] := by
 have hun : l.length = 1 → ∃ a, l = [a] := fun h => by
  match l, h with
  | [a], _ => exact ⟨a, rfl⟩
 have hbi : l.length = 2 → ∃ a b, l = [a, b] := fun h => by
  match l, h with
  | [a, b], _ => exact ⟨a, b, rfl⟩
 obtain ⟨-, hu, hb, -⟩ := hs;obtain ⟨a, b, rfl⟩ := hbi (hb (by omega));have hx0 : (bo1 [a, b])[(0 : Int).toNat]? = some (enc a) := rfl;have hx1 : (bo1 [a, b])[(1 : Int).toNat]? = some (enc b) := rfl;have oa := hv a (by simp);have ob := hv b (by simp);rw [show apF g env 8 v nm [a, b] = arF 8 a b from rfl];have h1 := ds4 8 a b (by omega) oa ob;refine yd func159 ntmps159 fun _ _ _ _=>?_
 repeat' (first | refine yq 29 [9] ?_ | refine yf 29 0 9 ?_ | refine yw ?_ | refine rgN ?_ | refine yv ?_ | refine yz ?_ | refine yi (enc a) hx0 ?_ | refine yi (enc b) hx1 ?_ | refine yp bt3 h1 ?_ | refine yr [0] ?_ | refine yt [0] ?_ | refine yx ?_ | (refine yy ?_ ?_ <;> intro _) | exact zD | exact zL)
set_option maxHeartbeats 4000000 in
theorem dy0 (g : Gr) (env : List Bd) (v : V) (nm : ByteArray) (ds : Bool) (ks : List Ex) (l : List V) (hg : du4 g) (henv : env.length ≤ 2000000) (hs : shp 9 l.length) (hlen : l.length ≤ 2000000) (hv : ∀ x ∈ l, Val.okV x = true) (hfn : (9 : Int) = 23 → dw7 nm l) :
  EvS E 159 [.ptr 0 0, .d (dg0 (.mk 9 v nm ds ks)), .d (.sl (bo1 l))] [evO g env] (.d (enc (apF g env 9 v nm l))) [evO g env] := by
 have hun : l.length = 1 → ∃ a, l = [a] := fun h => by
  match l, h with
  | [a], _ => exact ⟨a, rfl⟩
 have hbi : l.length = 2 → ∃ a b, l = [a, b] := fun h => by
  match l, h with
  | [a, b], _ => exact ⟨a, b, rfl⟩
 obtain ⟨-, hu, hb, -⟩ := hs;obtain ⟨a, b, rfl⟩ := hbi (hb (by omega));have hx0 : (bo1 [a, b])[(0 : Int).toNat]? = some (enc a) := rfl;have hx1 : (bo1 [a, b])[(1 : Int).toNat]? = some (enc b) := rfl;have oa := hv a (by simp);have ob := hv b (by simp);rw [show apF g env 9 v nm [a, b] = arF 9 a b from rfl];have h1 := ds4 9 a b (by omega) oa ob;refine yd func159 ntmps159 fun _ _ _ _=>?_
 repeat' (first | refine yq 29 [9] ?_ | refine yf 29 0 9 ?_ | refine yw ?_ | refine rgN ?_ | refine yv ?_ | refine yz ?_ | refine yi (enc a) hx0 ?_ | refine yi (enc b) hx1 ?_ | refine yp bt3 h1 ?_ | refine yr [0] ?_ | refine yt [0] ?_ | refine yx ?_ | (refine yy ?_ ?_ <;> intro _) | exact zD | exact zL)
set_option maxHeartbeats 4000000 in
theorem dy1 (g : Gr) (env : List Bd) (v : V) (nm : ByteArray) (ds : Bool) (ks : List Ex) (l : List V) (hg : du4 g) (henv : env.length ≤ 2000000) (hs : shp 10 l.length) (hlen : l.length ≤ 2000000) (hv : ∀ x ∈ l, Val.okV x = true) (hfn : (10 : Int) = 23 → dw7 nm l) :
  EvS E 159 [.ptr 0 0, .d (dg0 (.mk 10 v nm ds ks)), .d (.sl (bo1 l))] [evO g env] (.d (enc (apF g env 10 v nm l))) [evO g env] := by
 have hun : l.length = 1 → ∃ a, l = [a] := fun h => by
  match l, h with
  | [a], _ => exact ⟨a, rfl⟩
 have hbi : l.length = 2 → ∃ a b, l = [a, b] := fun h => by
  match l, h with
  | [a, b], _ => exact ⟨a, b, rfl⟩
 obtain ⟨-, hu, hb, -⟩ := hs;obtain ⟨a, b, rfl⟩ := hbi (hb (by omega));have hx0 : (bo1 [a, b])[(0 : Int).toNat]? = some (enc a) := rfl;have hx1 : (bo1 [a, b])[(1 : Int).toNat]? = some (enc b) := rfl;have oa := hv a (by simp);have ob := hv b (by simp);rw [show apF g env 10 v nm [a, b] = arF 10 a b from rfl];have h1 := ds4 10 a b (by omega) oa ob;refine yd func159 ntmps159 fun _ _ _ _=>?_
 repeat' (first | refine yq 29 [9] ?_ | refine yf 29 0 9 ?_ | refine yw ?_ | refine rgN ?_ | refine yv ?_ | refine yz ?_ | refine yi (enc a) hx0 ?_ | refine yi (enc b) hx1 ?_ | refine yp bt3 h1 ?_ | refine yr [0] ?_ | refine yt [0] ?_ | refine yx ?_ | (refine yy ?_ ?_ <;> intro _) | exact zD | exact zL)
set_option maxHeartbeats 4000000 in
theorem dy2 (g : Gr) (env : List Bd) (v : V) (nm : ByteArray) (ds : Bool) (ks : List Ex) (l : List V) (hg : du4 g) (henv : env.length ≤ 2000000) (hs : shp 11 l.length) (hlen : l.length ≤ 2000000) (hv : ∀ x ∈ l, Val.okV x = true) (hfn : (11 : Int) = 23 → dw7 nm l) :
  EvS E 159 [.ptr 0 0, .d (dg0 (.mk 11 v nm ds ks)), .d (.sl (bo1 l))] [evO g env] (.d (enc (apF g env 11 v nm l))) [evO g env] := by
 have hun : l.length = 1 → ∃ a, l = [a] := fun h => by
  match l, h with
  | [a], _ => exact ⟨a, rfl⟩
 have hbi : l.length = 2 → ∃ a b, l = [a, b] := fun h => by
  match l, h with
  | [a, b], _ => exact ⟨a, b, rfl⟩
 obtain ⟨-, hu, hb, -⟩ := hs;obtain ⟨a, b, rfl⟩ := hbi (hb (by omega));have hx0 : (bo1 [a, b])[(0 : Int).toNat]? = some (enc a) := rfl;have hx1 : (bo1 [a, b])[(1 : Int).toNat]? = some (enc b) := rfl;have oa := hv a (by simp);have ob := hv b (by simp);rw [show apF g env 11 v nm [a, b] = arF 11 a b from rfl];have h1 := ds4 11 a b (by omega) oa ob;refine yd func159 ntmps159 fun _ _ _ _=>?_
 repeat' (first | refine yq 29 [9] ?_ | refine yf 29 0 9 ?_ | refine yw ?_ | refine rgN ?_ | refine yv ?_ | refine yz ?_ | refine yi (enc a) hx0 ?_ | refine yi (enc b) hx1 ?_ | refine yp bt3 h1 ?_ | refine yr [0] ?_ | refine yt [0] ?_ | refine yx ?_ | (refine yy ?_ ?_ <;> intro _) | exact zD | exact zL)
set_option maxHeartbeats 4000000 in
theorem dy3 (g : Gr) (env : List Bd) (v : V) (nm : ByteArray) (ds : Bool) (ks : List Ex) (l : List V) (hg : du4 g) (henv : env.length ≤ 2000000) (hs : shp 12 l.length) (hlen : l.length ≤ 2000000) (hv : ∀ x ∈ l, Val.okV x = true) (hfn : (12 : Int) = 23 → dw7 nm l) :
  EvS E 159 [.ptr 0 0, .d (dg0 (.mk 12 v nm ds ks)), .d (.sl (bo1 l))] [evO g env] (.d (enc (apF g env 12 v nm l))) [evO g env] := by
 have hun : l.length = 1 → ∃ a, l = [a] := fun h => by
  match l, h with
  | [a], _ => exact ⟨a, rfl⟩
 have hbi : l.length = 2 → ∃ a b, l = [a, b] := fun h => by
  match l, h with
  | [a, b], _ => exact ⟨a, b, rfl⟩
 obtain ⟨-, hu, hb, -⟩ := hs;obtain ⟨a, b, rfl⟩ := hbi (hb (by omega));have hx0 : (bo1 [a, b])[(0 : Int).toNat]? = some (enc a) := rfl;have hx1 : (bo1 [a, b])[(1 : Int).toNat]? = some (enc b) := rfl;have oa := hv a (by simp);have ob := hv b (by simp);rw [show apF g env 12 v nm [a, b] = bq9 (dr7 12 a b) from rfl];have h1 := dr9 12 a b;have h2 := cc4 (dr7 12 a b);refine yd func159 ntmps159 fun _ _ _ _=>?_
 repeat' (first | refine yq 38 [10] ?_ | refine yf 38 0 10 ?_ | refine yw ?_ | refine rgN ?_ | refine yv ?_ | refine yz ?_ | refine yi (enc a) hx0 ?_ | refine yi (enc b) hx1 ?_ | refine yp bt4 h1 ?_ | refine yp bt1 h2 ?_ | refine yr [0] ?_ | refine yt [0] ?_ | refine yx ?_ | (refine yy ?_ ?_ <;> intro _) | exact zD | exact zL)
set_option maxHeartbeats 4000000 in
theorem dy4 (g : Gr) (env : List Bd) (v : V) (nm : ByteArray) (ds : Bool) (ks : List Ex) (l : List V) (hg : du4 g) (henv : env.length ≤ 2000000) (hs : shp 13 l.length) (hlen : l.length ≤ 2000000) (hv : ∀ x ∈ l, Val.okV x = true) (hfn : (13 : Int) = 23 → dw7 nm l) :
  EvS E 159 [.ptr 0 0, .d (dg0 (.mk 13 v nm ds ks)), .d (.sl (bo1 l))] [evO g env] (.d (enc (apF g env 13 v nm l))) [evO g env] := by
 have hun : l.length = 1 → ∃ a, l = [a] := fun h => by
  match l, h with
  | [a], _ => exact ⟨a, rfl⟩
 have hbi : l.length = 2 → ∃ a b, l = [a, b] := fun h => by
  match l, h with
  | [a, b], _ => exact ⟨a, b, rfl⟩
 obtain ⟨-, hu, hb, -⟩ := hs;obtain ⟨a, b, rfl⟩ := hbi (hb (by omega));have hx0 : (bo1 [a, b])[(0 : Int).toNat]? = some (enc a) := rfl;have hx1 : (bo1 [a, b])[(1 : Int).toNat]? = some (enc b) := rfl;have oa := hv a (by simp);have ob := hv b (by simp);rw [show apF g env 13 v nm [a, b] = bq9 (dr7 13 a b) from rfl];have h1 := dr9 13 a b;have h2 := cc4 (dr7 13 a b);refine yd func159 ntmps159 fun _ _ _ _=>?_
 repeat' (first | refine yq 38 [10] ?_ | refine yf 38 0 10 ?_ | refine yw ?_ | refine rgN ?_ | refine yv ?_ | refine yz ?_ | refine yi (enc a) hx0 ?_ | refine yi (enc b) hx1 ?_ | refine yp bt4 h1 ?_ | refine yp bt1 h2 ?_ | refine yr [0] ?_ | refine yt [0] ?_ | refine yx ?_ | (refine yy ?_ ?_ <;> intro _) | exact zD | exact zL)
set_option maxHeartbeats 4000000 in
theorem dy5 (g : Gr) (env : List Bd) (v : V) (nm : ByteArray) (ds : Bool) (ks : List Ex) (l : List V) (hg : du4 g) (henv : env.length ≤ 2000000) (hs : shp 14 l.length) (hlen : l.length ≤ 2000000) (hv : ∀ x ∈ l, Val.okV x = true) (hfn : (14 : Int) = 23 → dw7 nm l) :
  EvS E 159 [.ptr 0 0, .d (dg0 (.mk 14 v nm ds ks)), .d (.sl (bo1 l))] [evO g env] (.d (enc (apF g env 14 v nm l))) [evO g env] := by
 have hun : l.length = 1 → ∃ a, l = [a] := fun h => by
  match l, h with
  | [a], _ => exact ⟨a, rfl⟩
 have hbi : l.length = 2 → ∃ a b, l = [a, b] := fun h => by
  match l, h with
  | [a, b], _ => exact ⟨a, b, rfl⟩
 obtain ⟨-, hu, hb, -⟩ := hs;obtain ⟨a, b, rfl⟩ := hbi (hb (by omega));have hx0 : (bo1 [a, b])[(0 : Int).toNat]? = some (enc a) := rfl;have hx1 : (bo1 [a, b])[(1 : Int).toNat]? = some (enc b) := rfl;have oa := hv a (by simp);have ob := hv b (by simp);rw [show apF g env 14 v nm [a, b] = bq9 (dr7 14 a b) from rfl];have h1 := dr9 14 a b;have h2 := cc4 (dr7 14 a b);refine yd func159 ntmps159 fun _ _ _ _=>?_
 repeat' (first | refine yq 38 [10] ?_ | refine yf 38 0 10 ?_ | refine yw ?_ | refine rgN ?_ | refine yv ?_ | refine yz ?_ | refine yi (enc a) hx0 ?_ | refine yi (enc b) hx1 ?_ | refine yp bt4 h1 ?_ | refine yp bt1 h2 ?_ | refine yr [0] ?_ | refine yt [0] ?_ | refine yx ?_ | (refine yy ?_ ?_ <;> intro _) | exact zD | exact zL)
set_option maxHeartbeats 4000000 in
theorem dy6 (g : Gr) (env : List Bd) (v : V) (nm : ByteArray) (ds : Bool) (ks : List Ex) (l : List V) (hg : du4 g) (henv : env.length ≤ 2000000) (hs : shp 15 l.length) (hlen : l.length ≤ 2000000) (hv : ∀ x ∈ l, Val.okV x = true) (hfn : (15 : Int) = 23 → dw7 nm l) :
  EvS E 159 [.ptr 0 0, .d (dg0 (.mk 15 v nm ds ks)), .d (.sl (bo1 l))] [evO g env] (.d (enc (apF g env 15 v nm l))) [evO g env] := by
 have hun : l.length = 1 → ∃ a, l = [a] := fun h => by
  match l, h with
  | [a], _ => exact ⟨a, rfl⟩
 have hbi : l.length = 2 → ∃ a b, l = [a, b] := fun h => by
  match l, h with
  | [a, b], _ => exact ⟨a, b, rfl⟩
 obtain ⟨-, hu, hb, -⟩ := hs;obtain ⟨a, b, rfl⟩ := hbi (hb (by omega));have hx0 : (bo1 [a, b])[(0 : Int).toNat]? = some (enc a) := rfl;have hx1 : (bo1 [a, b])[(1 : Int).toNat]? = some (enc b) := rfl;have oa := hv a (by simp);have ob := hv b (by simp);rw [show apF g env 15 v nm [a, b] = bq9 (dr7 15 a b) from rfl];have h1 := dr9 15 a b;have h2 := cc4 (dr7 15 a b);refine yd func159 ntmps159 fun _ _ _ _=>?_
 repeat' (first | refine yq 38 [10] ?_ | refine yf 38 0 10 ?_ | refine yw ?_ | refine rgN ?_ | refine yv ?_ | refine yz ?_ | refine yi (enc a) hx0 ?_ | refine yi (enc b) hx1 ?_ | refine yp bt4 h1 ?_ | refine yp bt1 h2 ?_ | refine yr [0] ?_ | refine yt [0] ?_ | refine yx ?_ | (refine yy ?_ ?_ <;> intro _) | exact zD | exact zL)
set_option maxHeartbeats 4000000 in
theorem dy7 (g : Gr) (env : List Bd) (v : V) (nm : ByteArray) (ds : Bool) (ks : List Ex) (l : List V) (hg : du4 g) (henv : env.length ≤ 2000000) (hs : shp 16 l.length) (hlen : l.length ≤ 2000000) (hv : ∀ x ∈ l, Val.okV x = true) (hfn : (16 : Int) = 23 → dw7 nm l) :
  EvS E 159 [.ptr 0 0, .d (dg0 (.mk 16 v nm ds ks)), .d (.sl (bo1 l))] [evO g env] (.d (enc (apF g env 16 v nm l))) [evO g env] := by
 have hun : l.length = 1 → ∃ a, l = [a] := fun h => by
  match l, h with
  | [a], _ => exact ⟨a, rfl⟩
 have hbi : l.length = 2 → ∃ a b, l = [a, b] := fun h => by
  match l, h with
  | [a, b], _ => exact ⟨a, b, rfl⟩
 obtain ⟨-, hu, hb, -⟩ := hs;obtain ⟨a, b, rfl⟩ := hbi (hb (by omega));have hx0 : (bo1 [a, b])[(0 : Int).toNat]? = some (enc a) := rfl;have hx1 : (bo1 [a, b])[(1 : Int).toNat]? = some (enc b) := rfl;have oa := hv a (by simp);have ob := hv b (by simp);rw [show apF g env 16 v nm [a, b] = bq9 (dr7 16 a b) from rfl];have h1 := dr9 16 a b;have h2 := cc4 (dr7 16 a b);refine yd func159 ntmps159 fun _ _ _ _=>?_
 repeat' (first | refine yq 38 [10] ?_ | refine yf 38 0 10 ?_ | refine yw ?_ | refine rgN ?_ | refine yv ?_ | refine yz ?_ | refine yi (enc a) hx0 ?_ | refine yi (enc b) hx1 ?_ | refine yp bt4 h1 ?_ | refine yp bt1 h2 ?_ | refine yr [0] ?_ | refine yt [0] ?_ | refine yx ?_ | (refine yy ?_ ?_ <;> intro _) | exact zD | exact zL)
set_option maxHeartbeats 4000000 in
theorem dy8 (g : Gr) (env : List Bd) (v : V) (nm : ByteArray) (ds : Bool) (ks : List Ex) (l : List V) (hg : du4 g) (henv : env.length ≤ 2000000) (hs : shp 17 l.length) (hlen : l.length ≤ 2000000) (hv : ∀ x ∈ l, Val.okV x = true) (hfn : (17 : Int) = 23 → dw7 nm l) :
  EvS E 159 [.ptr 0 0, .d (dg0 (.mk 17 v nm ds ks)), .d (.sl (bo1 l))] [evO g env] (.d (enc (apF g env 17 v nm l))) [evO g env] := by
 have hun : l.length = 1 → ∃ a, l = [a] := fun h => by
  match l, h with
  | [a], _ => exact ⟨a, rfl⟩
 have hbi : l.length = 2 → ∃ a b, l = [a, b] := fun h => by
  match l, h with
  | [a, b], _ => exact ⟨a, b, rfl⟩
 obtain ⟨-, hu, hb, -⟩ := hs;obtain ⟨a, b, rfl⟩ := hbi (hb (by omega));have hx0 : (bo1 [a, b])[(0 : Int).toNat]? = some (enc a) := rfl;have hx1 : (bo1 [a, b])[(1 : Int).toNat]? = some (enc b) := rfl;have oa := hv a (by simp);have ob := hv b (by simp);rw [show apF g env 17 v nm [a, b] = bq9 (dr7 17 a b) from rfl];have h1 := dr9 17 a b;have h2 := cc4 (dr7 17 a b);refine yd func159 ntmps159 fun _ _ _ _=>?_
 repeat' (first | refine yq 38 [10] ?_ | refine yf 38 0 10 ?_ | refine yw ?_ | refine rgN ?_ | refine yv ?_ | refine yz ?_ | refine yi (enc a) hx0 ?_ | refine yi (enc b) hx1 ?_ | refine yp bt4 h1 ?_ | refine yp bt1 h2 ?_ | refine yr [0] ?_ | refine yt [0] ?_ | refine yx ?_ | (refine yy ?_ ?_ <;> intro _) | exact zD | exact zL)
set_option maxHeartbeats 4000000 in
theorem dy9 (g : Gr) (env : List Bd) (v : V) (nm : ByteArray) (ds : Bool) (ks : List Ex) (l : List V) (hg : du4 g) (henv : env.length ≤ 2000000) (hs : shp 18 l.length) (hlen : l.length ≤ 2000000) (hv : ∀ x ∈ l, Val.okV x = true) (hfn : (18 : Int) = 23 → dw7 nm l) :
  EvS E 159 [.ptr 0 0, .d (dg0 (.mk 18 v nm ds ks)), .d (.sl (bo1 l))] [evO g env] (.d (enc (apF g env 18 v nm l))) [evO g env] := by
 have hun : l.length = 1 → ∃ a, l = [a] := fun h => by
  match l, h with
  | [a], _ => exact ⟨a, rfl⟩
 have hbi : l.length = 2 → ∃ a b, l = [a, b] := fun h => by
  match l, h with
  | [a, b], _ => exact ⟨a, b, rfl⟩
 obtain ⟨-, hu, hb, -⟩ := hs;obtain ⟨a, b, rfl⟩ := hbi (hb (by omega));have hx0 : (bo1 [a, b])[(0 : Int).toNat]? = some (enc a) := rfl;have hx1 : (bo1 [a, b])[(1 : Int).toNat]? = some (enc b) := rfl;have oa := hv a (by simp);have ob := hv b (by simp);rw [show apF g env 18 v nm [a, b] = bq9 (min (kn (bq8 a)) (kn (bq8 b))) from rfl];have t1 := cf2 cg4 a;have t2 := cf2 cg4 b;have t3 := ca6 (bq8 a) (bq8 b);have t4 := cc4 (min (kn (bq8 a)) (kn (bq8 b)));refine yd func159 ntmps159 fun _ _ _ _=>?_
 repeat' (first | refine yq 16 [10] ?_ | refine yf 16 0 10 ?_ | refine yw ?_ | refine rgN ?_ | refine yv ?_ | refine yz ?_ | refine yi (enc a) hx0 ?_ | refine yi (enc b) hx1 ?_ | refine yp bt2 t1 ?_ | refine yp bt2 t2 ?_ | refine yp b211 t3 ?_ | refine yp bt1 t4 ?_ | refine yr [0] ?_ | refine yt [0] ?_ | refine yx ?_ | (refine yy ?_ ?_ <;> intro _) | exact zD | exact zL)
set_option maxHeartbeats 4000000 in
theorem dz0 (g : Gr) (env : List Bd) (v : V) (nm : ByteArray) (ds : Bool) (ks : List Ex) (l : List V) (hg : du4 g) (henv : env.length ≤ 2000000) (hs : shp 19 l.length) (hlen : l.length ≤ 2000000) (hv : ∀ x ∈ l, Val.okV x = true) (hfn : (19 : Int) = 23 → dw7 nm l) :
  EvS E 159 [.ptr 0 0, .d (dg0 (.mk 19 v nm ds ks)), .d (.sl (bo1 l))] [evO g env] (.d (enc (apF g env 19 v nm l))) [evO g env] := by
 have hun : l.length = 1 → ∃ a, l = [a] := fun h => by
  match l, h with
  | [a], _ => exact ⟨a, rfl⟩
 have hbi : l.length = 2 → ∃ a b, l = [a, b] := fun h => by
  match l, h with
  | [a, b], _ => exact ⟨a, b, rfl⟩
 obtain ⟨-, hu, hb, -⟩ := hs;obtain ⟨a, b, rfl⟩ := hbi (hb (by omega));have hx0 : (bo1 [a, b])[(0 : Int).toNat]? = some (enc a) := rfl;have hx1 : (bo1 [a, b])[(1 : Int).toNat]? = some (enc b) := rfl;have oa := hv a (by simp);have ob := hv b (by simp);rw [show apF g env 19 v nm [a, b] = bq9 (max (kn (bq8 a)) (kn (bq8 b))) from rfl];have t1 := cf2 cg4 a;have t2 := cf2 cg4 b;have t3 := ca8 (bq8 a) (bq8 b);have t4 := cc4 (max (kn (bq8 a)) (kn (bq8 b)));refine yd func159 ntmps159 fun _ _ _ _=>?_
 repeat' (first | refine yq 18 [10] ?_ | refine yf 18 0 10 ?_ | refine yw ?_ | refine rgN ?_ | refine yv ?_ | refine yz ?_ | refine yi (enc a) hx0 ?_ | refine yi (enc b) hx1 ?_ | refine yp bt2 t1 ?_ | refine yp bt2 t2 ?_ | refine yp b212 t3 ?_ | refine yp bt1 t4 ?_ | refine yr [0] ?_ | refine yt [0] ?_ | refine yx ?_ | (refine yy ?_ ?_ <;> intro _) | exact zD | exact zL)
set_option maxHeartbeats 4000000 in
theorem dz1 (g : Gr) (env : List Bd) (v : V) (nm : ByteArray) (ds : Bool) (ks : List Ex) (l : List V) (hg : du4 g) (henv : env.length ≤ 2000000) (hs : shp 20 l.length) (hlen : l.length ≤ 2000000) (hv : ∀ x ∈ l, Val.okV x = true) (hfn : (20 : Int) = 23 → dw7 nm l) :
  EvS E 159 [.ptr 0 0, .d (dg0 (.mk 20 v nm ds ks)), .d (.sl (bo1 l))] [evO g env] (.d (enc (apF g env 20 v nm l))) [evO g env] := by
 have hun : l.length = 1 → ∃ a, l = [a] := fun h => by
  match l, h with
  | [a], _ => exact ⟨a, rfl⟩
 have hbi : l.length = 2 → ∃ a b, l = [a, b] := fun h => by
  match l, h with
  | [a, b], _ => exact ⟨a, b, rfl⟩
 obtain ⟨-, hu, hb, -⟩ := hs;obtain ⟨a, b, rfl⟩ := hbi (hb (by omega));have hx0 : (bo1 [a, b])[(0 : Int).toNat]? = some (enc a) := rfl;have hx1 : (bo1 [a, b])[(1 : Int).toNat]? = some (enc b) := rfl;have oa := hv a (by simp);have ob := hv b (by simp);rw [show apF g env 20 v nm [a, b] = bq9 (dr7 20 a b) from rfl];have h1 := dr9 20 a b;have h2 := cc4 (dr7 20 a b);refine yd func159 ntmps159 fun _ _ _ _=>?_
 repeat' (first | refine yq 38 [10] ?_ | refine yf 38 0 10 ?_ | refine yw ?_ | refine rgN ?_ | refine yv ?_ | refine yz ?_ | refine yi (enc a) hx0 ?_ | refine yi (enc b) hx1 ?_ | refine yp bt4 h1 ?_ | refine yp bt1 h2 ?_ | refine yr [0] ?_ | refine yt [0] ?_ | refine yx ?_ | (refine yy ?_ ?_ <;> intro _) | exact zD | exact zL)
set_option maxHeartbeats 4000000 in
theorem dz2 (g : Gr) (env : List Bd) (v : V) (nm : ByteArray) (ds : Bool) (ks : List Ex) (l : List V) (hg : du4 g) (henv : env.length ≤ 2000000) (hs : shp 21 l.length) (hlen : l.length ≤ 2000000) (hv : ∀ x ∈ l, Val.okV x = true) (hfn : (21 : Int) = 23 → dw7 nm l) :
  EvS E 159 [.ptr 0 0, .d (dg0 (.mk 21 v nm ds ks)), .d (.sl (bo1 l))] [evO g env] (.d (enc (apF g env 21 v nm l))) [evO g env] := by
 have hun : l.length = 1 → ∃ a, l = [a] := fun h => by
  match l, h with
  | [a], _ => exact ⟨a, rfl⟩
 have hbi : l.length = 2 → ∃ a b, l = [a, b] := fun h => by
  match l, h with
  | [a, b], _ => exact ⟨a, b, rfl⟩
 obtain ⟨-, hu, hb, -⟩ := hs;obtain ⟨a, rfl⟩ := hun (hu (by omega));have hx0 : (bo1 [a])[(0 : Int).toNat]? = some (enc a) := rfl;have oa := hv a (by simp);rw [show apF g env 21 v nm [a] = bp4 (a.k == 0) from rfl];have h1 := cb2 (a.k == 0);refine yd func159 ntmps159 fun _ _ _ _=>?_
 repeat' (first | refine yz ?_ | refine yi (enc a) hx0 ?_ | refine yp b206 h1 ?_ | refine yr [0] ?_ | refine yt [0] ?_ | refine yx ?_ | (refine yy ?_ ?_ <;> intro _) | exact zD | exact zL)
set_option maxHeartbeats 4000000 in
theorem dz3 (g : Gr) (env : List Bd) (v : V) (nm : ByteArray) (ds : Bool) (ks : List Ex) (l : List V) (hg : du4 g) (henv : env.length ≤ 2000000) (hs : shp 22 l.length) (hlen : l.length ≤ 2000000) (hv : ∀ x ∈ l, Val.okV x = true) (hfn : (22 : Int) = 23 → dw7 nm l) :
  EvS E 159 [.ptr 0 0, .d (dg0 (.mk 22 v nm ds ks)), .d (.sl (bo1 l))] [evO g env] (.d (enc (apF g env 22 v nm l))) [evO g env] := by
 have hun : l.length = 1 → ∃ a, l = [a] := fun h => by
  match l, h with
  | [a], _ => exact ⟨a, rfl⟩
 have hbi : l.length = 2 → ∃ a b, l = [a, b] := fun h => by
  match l, h with
  | [a, b], _ => exact ⟨a, b, rfl⟩
 obtain ⟨-, hu, hb, -⟩ := hs;rw [show apF g env 22 v nm l = cu3 l from rfl];have h1 := cu4 l (dt9 hlen fun x hx => dx1 (hv x hx));refine yd func159 ntmps159 fun _ _ _ _=>?_
 repeat' (first | refine yz ?_ | refine yp bs5 h1 ?_ | refine yr [0] ?_ | refine yt [0] ?_ | refine yx ?_ | (refine yy ?_ ?_ <;> intro _) | exact zD | exact zL)
set_option maxHeartbeats 4000000 in
theorem dz4 (g : Gr) (env : List Bd) (v : V) (nm : ByteArray) (ds : Bool) (ks : List Ex) (l : List V) (hg : du4 g) (henv : env.length ≤ 2000000) (hs : shp 23 l.length) (hlen : l.length ≤ 2000000) (hv : ∀ x ∈ l, Val.okV x = true) (hfn : (23 : Int) = 23 → dw7 nm l) :
  EvS E 159 [.ptr 0 0, .d (dg0 (.mk 23 v nm ds ks)), .d (.sl (bo1 l))] [evO g env] (.d (enc (apF g env 23 v nm l))) [evO g env] := by
 have hun : l.length = 1 → ∃ a, l = [a] := fun h => by
  match l, h with
  | [a], _ => exact ⟨a, rfl⟩
 have hbi : l.length = 2 → ∃ a b, l = [a, b] := fun h => by
  match l, h with
  | [a, b], _ => exact ⟨a, b, rfl⟩
 obtain ⟨-, hu, hb, -⟩ := hs;rw [show apF g env 23 v nm l = fnF g nm l from rfl];have h1 := dw8 g env nm l hg (hfn rfl);refine yd func159 ntmps159 fun _ _ _ _=>?_
 repeat' (first | refine yq 35 [7,8] ?_ | refine yf 35 0 7 ?_ | refine yw ?_ | refine rgN ?_ | refine yv ?_ | refine yz ?_ | refine bi5 [0] (id := 35) (i := 7) rfl rfl rfl rfl rfl rfl b87 (h1) rfl rfl rfl rfl rfl (by repeat (first | exact trivial | refine ⟨⟨rfl, rfl⟩, ?_⟩ | refine ⟨trivial, ?_⟩)) ?_ | refine yr [0] ?_ | refine yt [0] ?_ | refine yx ?_ | (refine yy ?_ ?_ <;> intro _) | exact zD | exact zL)
set_option maxHeartbeats 4000000 in
theorem dz5 (g : Gr) (env : List Bd) (v : V) (nm : ByteArray) (ds : Bool) (ks : List Ex) (l : List V) (hg : du4 g) (henv : env.length ≤ 2000000) (hs : shp 24 l.length) (hlen : l.length ≤ 2000000) (hv : ∀ x ∈ l, Val.okV x = true) (hfn : (24 : Int) = 23 → dw7 nm l) :
  EvS E 159 [.ptr 0 0, .d (dg0 (.mk 24 v nm ds ks)), .d (.sl (bo1 l))] [evO g env] (.d (enc (apF g env 24 v nm l))) [evO g env] := by
 have hun : l.length = 1 → ∃ a, l = [a] := fun h => by
  match l, h with
  | [a], _ => exact ⟨a, rfl⟩
 have hbi : l.length = 2 → ∃ a b, l = [a, b] := fun h => by
  match l, h with
  | [a, b], _ => exact ⟨a, b, rfl⟩
 obtain ⟨-, hu, hb, -⟩ := hs;rw [show apF g env 24 v nm l = bp9 from rfl];refine yd func159 ntmps159 fun _ _ _ _=>?_
 repeat' (first | refine yz ?_ | refine yp b86 cb0 ?_ | refine yr [0] ?_ | refine yt [0] ?_ | refine yx ?_ | (refine yy ?_ ?_ <;> intro _) | exact zD | exact zL)
theorem dz6 (g : Gr) (env : List Bd) (op : Int) (v : V) (nm : ByteArray) (ds : Bool) (ks : List Ex) (l : List V) (hg : du4 g) (henv : env.length ≤ 2000000) (hs : shp op l.length) (hlen : l.length ≤ 2000000) (hv : ∀ x ∈ l, Val.okV x = true) (hfn : op = 23 → dw7 nm l) :
  EvS E 159 [.ptr 0 0, .d (dg0 (.mk op v nm ds ks)), .d (.sl (bo1 l))] [evO g env] (.d (enc (apF g env op v nm l))) [evO g env] := by
 have hop : op = 1 ∨ op = 2 ∨ op = 3 ∨ op = 4 ∨ op = 5 ∨ op = 6 ∨ op = 7 ∨ op = 8 ∨ op = 9 ∨ op = 10 ∨ op = 11 ∨ op = 12 ∨ op = 13 ∨ op = 14 ∨ op = 15 ∨ op = 16 ∨ op = 17 ∨ op = 18 ∨ op = 19 ∨ op = 20 ∨ op = 21 ∨ op = 22 ∨ op = 23 ∨ op = 24 := by have := hs.1; omega
 rcases hop with rfl | rfl | rfl | rfl | rfl | rfl | rfl | rfl | rfl | rfl | rfl | rfl | rfl | rfl | rfl | rfl | rfl | rfl | rfl | rfl | rfl | rfl | rfl | rfl
 ·exact dx2 g env v nm ds ks l hg henv hs hlen hv hfn
 ·exact dx3 g env v nm ds ks l hg henv hs hlen hv hfn
 ·exact dx4 g env v nm ds ks l hg henv hs hlen hv hfn
 ·exact dx5 g env v nm ds ks l hg henv hs hlen hv hfn
 ·exact dx6 g env v nm ds ks l hg henv hs hlen hv hfn
 ·exact dx7 g env v nm ds ks l hg henv hs hlen hv hfn
 ·exact dx8 g env v nm ds ks l hg henv hs hlen hv hfn
 ·exact dx9 g env v nm ds ks l hg henv hs hlen hv hfn
 ·exact dy0 g env v nm ds ks l hg henv hs hlen hv hfn
 ·exact dy1 g env v nm ds ks l hg henv hs hlen hv hfn
 ·exact dy2 g env v nm ds ks l hg henv hs hlen hv hfn
 ·exact dy3 g env v nm ds ks l hg henv hs hlen hv hfn
 ·exact dy4 g env v nm ds ks l hg henv hs hlen hv hfn
 ·exact dy5 g env v nm ds ks l hg henv hs hlen hv hfn
 ·exact dy6 g env v nm ds ks l hg henv hs hlen hv hfn
 ·exact dy7 g env v nm ds ks l hg henv hs hlen hv hfn
 ·exact dy8 g env v nm ds ks l hg henv hs hlen hv hfn
 ·exact dy9 g env v nm ds ks l hg henv hs hlen hv hfn
 ·exact dz0 g env v nm ds ks l hg henv hs hlen hv hfn
 ·exact dz1 g env v nm ds ks l hg henv hs hlen hv hfn
 ·exact dz2 g env v nm ds ks l hg henv hs hlen hv hfn
 ·exact dz3 g env v nm ds ks l hg henv hs hlen hv hfn
 ·exact dz4 g env v nm ds ks l hg henv hs hlen hv hfn
 ·exact dz5 g env v nm ds ks l hg henv hs hlen hv hfn
mutual
def evF (g : Gr) (env : List Bd) : Ex → V
 | .mk op v nm _ ks => giv (apF g env op v nm (evL g env ks))
def evL (g : Gr) (env : List Bd) : List Ex → List V
 | [] => []
 | x :: r => evF g env x :: evL g env r
end
theorem dz7 (g : Gr) (env : List Bd) (l : List Ex) : evL g env l = l.map (evF g env) := by
 induction l with
 | nil => simp [evL]
 | cons v r ih => simp [evL, ih]
theorem dz8 (g : Gr) (env : List Bd) (l : List Ex) : (evL g env l).length = l.length := by rw [dz7]; simp
theorem dz9 (g : Gr) (env : List Bd) (l : List Ex) : ∀ x ∈ evL g env l, Val.okV x = true := by
 intro x hx;rw [dz7] at hx;obtain ⟨e, -, rfl⟩ := fk8.1 hx
 cases e
 simp only [evF];exact dw9 _
mutual
def okE (g : Gr) (env : List Bd) : Ex → Prop
 | .mk op _ nm _ ks => shp op ks.length ∧ ks.length ≤ 2000000 ∧ (op = 23 → eqS nm dw0 = true → (txt (a0 (evL g env ks))).length ≤ 1099511627776) ∧ ea0 g env ks
def ea0 (g : Gr) (env : List Bd) : List Ex → Prop
 | [] => True
 | x :: r => okE g env x ∧ ea0 g env r
end
theorem ea1 {g : Gr} {env : List Bd} : ∀ {l : List Ex}, ea0 g env l → ∀ x ∈ l, okE g env x
 | [], _, x, h => by simp at h
 | a :: r, h, x, hx => by
  simp only [ea0] at h;rcases fh7.1 hx with rfl | hx
  ·exact h.1
  ·exact ea1 h.2 x hx
theorem ea2 {g : Gr} {env : List Bd} {nm : ByteArray} {ks : List Ex} (h1 : 1 ≤ ks.length) (hl : ks.length ≤ 2000000) (ht : eqS nm dw0 = true → (txt (a0 (evL g env ks))).length ≤ 1099511627776) : dw7 nm (evL g env ks) := by
 refine ⟨fun h => ?_, by rw [dz8]; exact hl, fun x hx => dx1 (dz9 g env ks x hx), ht, ?_⟩
 ·have := congrArg List.length h;rw [dz8, fl8] at this;omega
 ·refine (cp8 (dx1 ?_)).1;unfold a0
  cases he : evL g env ks with
  | nil => decide +kernel
  | cons a r => exact dz9 g env ks a (by rw [he]; simp)
theorem ea3 {g : Gr} {env : List Bd} {ks : List Ex} {i : Nat} {x : Ex} (h : ks[i]? = some x) : bo1 (evL g env (ks.take (i + 1))) = bo1 (evL g env (ks.take i)) ++ [enc (evF g env x)] := by
 have hi := (fg8.1 h).1;rw [fo5 hi];rw [fg5 hi] at h
 cases h
 simp only [dz7, fm7, fj0, fn5, bo2]
set_option maxHeartbeats 4000000 in
theorem value_evS (g : Gr) (env : List Bd) (hg : du4 g) (henv : env.length ≤ 2000000) (e : Ex) : okE g env e → EvS E 89 [.ptr 0 0, .d (dg0 e)] [evO g env] (.d (enc (evF g env e))) [evO g env] := by
 refine dg9 (P := fun e => okE g env e → EvS E 89 [.ptr 0 0, .d (dg0 e)] [evO g env] (.d (enc (evF g env e))) [evO g env]) (fun op v nm ds ks ih hok => ?_) e;simp only [okE] at hok;obtain ⟨hs, hmax, htx, hks⟩ := hok;have hlen : (df8 (.mk op v nm ds ks)).length = ks.length := dg5 _;have hkg : ∀ (i : Nat) (x : Ex), ks[i]? = some x → (df8 (.mk op v nm ds ks))[(i : Int).toNat]? = some (dg0 x) := fun i x h => dg3 (e := .mk op v nm ds ks) (by rw [fh0]; exact h)
 have hVal := ce8 cg4 (apF g env op v nm (evL g env ks));have hev : evF g env (.mk op v nm ds ks) = bif Val.okV (apF g env op v nm (evL g env ks)) then apF g env op v nm (evL g env ks) else bp9 := by simp only [evF, giv]
 rw [hev];clear hev
 cases h24 : op != 24 with
 | false =>
  obtain rfl : op = 24 := by simpa using h24
  have hap := dz6 g env 24 v nm ds ks [] hg henv ⟨by omega, by omega, by omega, by omega⟩ (by simp) (by simp) (by omega);rw [show apF g env 24 v nm [] = bp9 from rfl] at hap;rw [show apF g env 24 v nm (evL g env ks) = bp9 from rfl] at hVal ⊢;have ho : Val.okV bp9 = true := by decide +kernel
  rw [ho] at hVal ⊢;refine yd func89 ntmps89 fun _ _ _ _=>?_
  repeat' (first | refine yz ?_ | refine yc [0] b159 (hap) ?_ | refine yp br8 hVal ?_ | refine yr [0] ?_ | exact zD)
 | true =>
  have hap := dz6 g env op v nm ds ks (evL g env ks) hg henv (by rw [dz8]; exact hs) (by rw [dz8]; exact hmax) (dz9 g env ks) (fun h => ea2 (hs.2.2.2 h) hmax (htx h))
  cases hv : Val.okV (apF g env op v nm (evL g env ks)) <;> rw [hv] at hVal
  all_goals
   refine yd func89 ntmps89 fun _ _ _ _=>?_
   repeat' (refine yz ?_)
   refine ac7 (α := Fin (ks.length + 1)) (fun p => ⟨[(0, .ptr 0 0), (3, .ptr 1 0), (4, .ptr 2 0), (5, bi6 3 (bo1 (evL g env (ks.take p.val)))), (13, .d (.sl (df8 (.mk op v nm ds ks)))), (14, .d (.int (df8 (.mk op v nm ds ks)).length)), (15, .d (.int p.val))], [evO g env, .var 27 (.w (.d (dg0 (.mk op v nm ds ks)))), du1] ++ ay5 24 5 (bo1 (evL g env (ks.take p.val)))⟩) (fun p => ks.length - p.val) ⟨0, by omega⟩ (zle 3) ?_;rintro ⟨i, hi⟩;dsimp only;rcases fg7 i ks.length with hlt | hge
   ·have g1 : decide ((i : Int) < ((df8 (.mk op v nm ds ks)).length : Int)) = true := by rw [hlen]; simpa using hlt
    have hx0 := fg5 hlt;generalize ks[i] = x at hx0;have hx := hkg i x hx0;have hcx := ih x (fg9 hx0) (ea1 hks x (fg9 hx0));have hta := ea3 (g := g) (env := env) hx0;have hll : (bo1 (evL g env (ks.take i))).length ≤ i := by rw [bo7, dz8]; simp; omega
    match ho' : bo1 (evL g env (ks.take i)), hll with
    | [], hll =>
     dsimp only [bi6, ay5, List.append, HAppend.hAppend, Append.append]
     repeat' (first | refine yz ?_ | refine yi (dg0 x) hx ?_ | refine yc [0] b89 (hcx) ?_ | (refine qS rfl ⟨by simp, du2 _, by (show (0 + 1) * 64 ≤ 140737488355328; omega), by (show 0 + 1 ≤ 9223372036854775807; omega)⟩ ?_))
     refine ac1 ?_;refine ⟨⟨i + 1, by omega⟩, by dsimp only; omega, ?_⟩;dsimp only;rw [hta, ho'];exact (bj8 [0, 1, 2, 4])
    | b :: q, hll =>
     dsimp only [bi6, ay5, List.append, HAppend.hAppend, Append.append]
     repeat' (first | refine yz ?_ | refine yi (dg0 x) hx ?_ | refine yc [0] b89 (hcx) ?_ | (refine qS rfl ⟨by simp, du2 _, by (show ((b :: q).length + 1) * 64 ≤ 140737488355328; omega), by (show (b :: q).length + 1 ≤ 9223372036854775807; omega)⟩ ?_))
     refine ac1 ?_;refine ⟨⟨i + 1, by omega⟩, by dsimp only; omega, ?_⟩;dsimp only;rw [hta, ho'];exact (bj8 [0, 1, 2, 5])
   ·have g1 : decide ((i : Int) < ((df8 (.mk op v nm ds ks)).length : Int)) = false := by rw [hlen]; simp; omega
    rw [fk9 hge]
    match ho' : bo1 (evL g env ks), hap with
    | [], hap =>
     dsimp only [bi6, ay5, List.append, HAppend.hAppend, Append.append]
     repeat' (first | refine yz ?_ | refine yc [0] b159 (hap) ?_ | refine yp br8 hVal ?_ | refine yp b86 cb0 ?_ | refine yr [0] ?_ | exact zD)
    | b :: q, hap =>
     dsimp only [bi6, ay5, List.append, HAppend.hAppend, Append.append];refine qA ?_;refine au6 3 rfl ?_
     repeat' (first | refine yz ?_ | refine yc [0] b159 (hap) ?_ | refine yp br8 hVal ?_ | refine yp b86 cb0 ?_ | refine yr [0] ?_ | exact zD)
end Go.Proofs.YtibfalecohlngaaGreatDoor
