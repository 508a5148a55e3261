/- The values of expressions: what both texts compute; the program's operators and look-ups; The program's evaluator: what its methods answer; The program's evaluation of expressions; The program's apply, some operators; The program's apply, some operators; The program's apply, some operators; The program's apply, some operators; The program's evaluation of expressions. Conditions: each part's own, as it says. -/
import Derived.Test.YtjgmakalledclaaGreatDoorND
import Derived.Test.YtjgmakalledclaaGreatDoorGD
import Derived.Test.YtjgmakalledclaaGreatDoorMC
import Derived.Test.YtjgmakalledclaaGreatDoorGC
import Derived.Test.YtjgmakalledclaaGreatDoorFA
set_option linter.unusedVariables false
set_option linter.unusedSimpArgs false
namespace Go.Proofs.YtjgmakalledclaaGreatDoor
set_option maxRecDepth 4000
open Go Go.Abs Go.Val Go.RowKit Go.Proofs.Tryz
attribute [local irreducible] go SGo HasBody Ev ExtEv EvO EvS binOp RGo
def atmF (l q : Int) : Int := bif l == 2 || q == 2 then 2 else bif l == 0 && q == 0 then 0 else 1
theorem atMost_ev (l q : Int) : Ev E 233 [.int l, .int q] (.d (.int (atmF l q))) := by
 unfold atmF
 cases h1 : l == 2 <;> cases h2 : q == 2 <;> cases h3 : l == 0 <;> cases h4 : q == 0
 all_goals
  refine ye2 func233 ntmps233 fun _ _ _=>?_
  repeat' (first | refine yz ?_ | refine yx ?_ | exact zD)
def inL (a : V) (l : List V) (t : Int) : Int := l.foldl (fun t x => max (kn t) (kn (eqF a x))) t
def cmpF (op : Int) (a b : V) : Int :=
 bif op == 12 then eqF a b else bif op == 13 then 2 - kn (eqF a b) else bif op == 14 then lessF a b else bif op == 16 then lessF b a else
 bif op == 15 then atmF (lessF a b) (eqF a b) else bif op == 17 then atmF (lessF b a) (eqF a b) else
 bif b.k != 8 then 1 else inL a b.l 0
structure SIn (a : V) (l : List V) where
 i : Nat
 t : Int
 hi : i ≤ l.length
 ok : inL a l 0 = inL a (l.drop i) t
theorem inL_at {a x : V} {l : List V} {i : Nat} {t : Int} (h : l[i]? = some x) : inL a (l.drop i) t = inL a (l.drop (i + 1)) (max (kn t) (kn (eqF a x))) := by
 rw [drop_at h]; rfl
theorem compareE_ev (op : Int) (a b : V) : Ev E 201 [.int op, enc a, enc b] (.d (.int (cmpF op a b))) := Ev.fit fun hfit => by
 obtain ⟨-, -, -, -, hmax, -⟩ := fit_enc (v := b) (hfit _ (by simp))
 have e1 := Equal_ev a b
 have e2 := not_ev (eqF a b)
 have l1 := Less_ev a b
 have l2 := Less_ev b a
 have m1 := atMost_ev (lessF a b) (eqF a b)
 have m2 := atMost_ev (lessF b a) (eqF a b)
 unfold cmpF
 cases c12 : op == 12 with
 | true =>
  refine ye3 func201 ntmps201 fun _ _ _=>?_
  repeat' (first | refine yz ?_ | refine yp b35 e1 ?_ | exact zD)
 | false =>
 cases c13 : op == 13 with
 | true =>
  refine ye3 func201 ntmps201 fun _ _ _=>?_
  repeat' (first | refine yz ?_ | refine yp b35 e1 ?_ | refine yp b197 e2 ?_ | exact zD)
 | false =>
 cases c14 : op == 14 with
 | true =>
  refine ye3 func201 ntmps201 fun _ _ _=>?_
  repeat' (first | refine yz ?_ | refine yp b36 l1 ?_ | exact zD)
 | false =>
 cases c16 : op == 16 with
 | true =>
  refine ye3 func201 ntmps201 fun _ _ _=>?_
  repeat' (first | refine yz ?_ | refine yp b36 l2 ?_ | exact zD)
 | false =>
 cases c15 : op == 15 with
 | true =>
  refine ye3 func201 ntmps201 fun _ _ _=>?_
  repeat' (first | refine yz ?_ | refine yp b36 l1 ?_ | refine yp b35 e1 ?_ | refine yp b233 m1 ?_ | exact zD)
 | false =>
 cases c17 : op == 17 with
 | true =>
  refine ye3 func201 ntmps201 fun _ _ _=>?_
  repeat' (first | refine yz ?_ | refine yp b36 l2 ?_ | refine yp b35 e1 ?_ | refine yp b233 m2 ?_ | exact zD)
 | false =>
 cases c8 : b.k != 8 with
 | true =>
  refine ye3 func201 ntmps201 fun _ _ _=>?_
  repeat' (first | refine yz ?_ | exact zD)
 | false =>
  have hle : (kids b).length = b.l.length := kids_len b
  refine ye3 func201 ntmps201 fun _ _ _=>?_
  repeat' (refine yz ?_)
  refine go_loop_ (α := SIn a b.l) (fun p => ⟨[(4, .ptr 0 0), (5, .ptr 1 0), (7, .d (.int p.t)), (54, .d (.sl (kids b))), (55, .d (.int (kids b).length)), (56, .d (.int p.i))], [.var 35 (.w (.d (enc a))), .var 35 (.w (.d (enc b)))]⟩) (fun p => b.l.length - p.i) ⟨0, 0, by omega, rfl⟩ (zle 2) ?_
  rintro ⟨i, t, hi, ok⟩
  dsimp only
  rcases Nat.lt_or_ge i b.l.length with hlt | hge
  ·have g1 : decide ((i : Int) < ((kids b).length : Int)) = true := by rw [hle]; simpa using hlt
   have hx0 := List.getElem?_eq_getElem hlt
   generalize b.l[i] = x at hx0
   have hx : (kids b)[(i : Int).toNat]? = some (enc x) := by rw [Int.toNat_natCast]; exact kids_get hx0
   have q1 := Equal_ev a x
   have q2 := or_ev t (eqF a x)
   rw [ok, inL_at hx0]
   repeat' (first | refine yz ?_ | refine yi (enc x) hx ?_ | refine yp b35 q1 ?_ | refine yp b199 q2 ?_)
   refine go_stop ?_
   exact ⟨⟨i + 1, _, by omega, by rw [ok, inL_at hx0]⟩, by dsimp only; omega, (zle 2)⟩
  ·have g1 : decide ((i : Int) < ((kids b).length : Int)) = false := by rw [hle]; simp; omega
   rw [ok, List.drop_eq_nil_of_le hge]
   show go _ _ _ (EndIs _ _ (.d (.int t)))
   repeat' (first | refine yz ?_ | exact zD)
def ratF (b : Bool) (n d : Int) : V := bif b then vRat n d else vNull
def strs2 (a b : V) : Bool := a.k == 4 && b.k == 4
def arF (op : Int) (a b : V) : V :=
 bif op == 7 && strs2 a b then vStr (a.s ++ b.s) else
 bif !(isNum a) || !(isNum b) then vNull else
 bif op == 7 then ratF (addB (numN a) (numD a) (numN b) (numD b)) (addN (numN a) (numD a) (numN b) (numD b)) (addD (numN a) (numD a) (numN b) (numD b)) else
 bif op == 8 then ratF (addB (numN a) (numD a) (0 - numN b) (numD b)) (addN (numN a) (numD a) (0 - numN b) (numD b)) (addD (numN a) (numD a) (0 - numN b) (numD b)) else
 bif op == 9 then ratF (mulF (numN a) (numD a) (numN b) (numD b)) (muN (numN a) (numD a) (numN b) (numD b)) (muD (numN a) (numD a) (numN b) (numD b)) else
 bif op == 10 then ratF (divB (numN a) (numD a) (numN b) (numD b)) (divN (numN a) (numD a) (numN b) (numD b)) (divD (numN a) (numD a) (numN b) (numD b)) else
 bif modB a.n b.n && (a.k == 2 && b.k == 2) then vInt (modN a.n b.n) else vNull
theorem num_fval {v : V} (h : isNum v = true) : fval (numN v) (numD v) = true := by
 unfold isNum at h
 rw [Bool.and_eq_true] at h
 obtain ⟨h1, h2⟩ := h
 have hn : isNum v = true := by unfold isNum; rw [h1, h2]; rfl
 unfold numN numD
 rw [hn, cond_true]
 rw [Bool.or_eq_true] at h1
 obtain ⟨k, n, d, s, l⟩ := v
 simp only [V.k, V.n, V.d] at h1 ⊢
 rcases h1 with h1 | h1
 ·obtain rfl : k = 2 := by simpa using h1
  have := okV_2 h2
  simp only [beq_self_eq_true, cond_true]
  unfold fval
  rw [(inM_iff n).2 (by have := (inM_iff n).1 this; omega)]
  simp
 ·obtain rfl : k = 3 := by simpa using h1
  have := okV_3 h2
  exact this.2
theorem okV_4a {v : V} (h : Val.okV v = true) (hk : (v.k == 4) = true) : v.s.size ≤ 100 := by
 obtain ⟨k, n, d, s, l⟩ := v
 simp only [V.k] at hk
 obtain rfl : k = 4 := by simpa using hk
 exact okV_4 h
set_option maxHeartbeats 4000000 in
theorem arithmetic_ev (op : Int) (a b : V) (ho : 7 ≤ op ∧ op ≤ 11) (ha : Val.okV a = true) (hb : Val.okV b = true) : Ev E 200 [.int op, enc a, enc b] (.d (enc (arF op a b))) := by
 have n1 := Number_ev ixOK a
 have n2 := Number_ev ixOK b
 obtain rfl | rfl | rfl | rfl | rfl : op = 7 ∨ op = 8 ∨ op = 9 ∨ op = 10 ∨ op = 11 := by omega
 ·have e0 : arF 7 a b = bif strs2 a b then vStr (a.s ++ b.s) else bif !(isNum a) || !(isNum b) then vNull else ratF (addB (numN a) (numD a) (numN b) (numD b)) (addN (numN a) (numD a) (numN b) (numD b)) (addD (numN a) (numD a) (numN b) (numD b)) := rfl
  rw [e0]
  have a1 := add_ev (numN a) (numD a) (numN b) (numD b)
  have r1 := rat_ev (addN (numN a) (numD a) (numN b) (numD b)) (addD (numN a) (numD a) (numN b) (numD b))
  unfold strs2
  cases ka : a.k == 4 with
  | true =>
   have hna : isNum a = false := by unfold isNum; have : a.k = 4 := (by simpa using ka); rw [this]; rfl
   rw [hna] at n1 ⊢
   cases kb : b.k == 4 with
   | true =>
    have z1 := okV_4a ha ka
    have z2 := okV_4a hb kb
    have s1 := str_ev (a.s ++ b.s)
    refine ye3 func200 ntmps200 fun _ _ _=>?_
    repeat' (first | refine yz ?_ | refine yp b33 s1 ?_ | refine yx ?_ | exact zD)
   | false =>
    simp only [Bool.and_false, cond_false, Bool.not_false, Bool.true_or, cond_true]
    refine ye3 func200 ntmps200 fun _ _ _=>?_
    repeat' (first | refine yz ?_ | refine yp b73 n1 ?_ | refine yp b73 n2 ?_ | refine yp b32 null_ev ?_ | refine yx ?_ | exact zD)
  | false =>
   cases na : isNum a with
   | false =>
    rw [na] at n1
    simp only [Bool.false_and, cond_false, Bool.not_false, Bool.true_or, cond_true]
    refine ye3 func200 ntmps200 fun _ _ _=>?_
    repeat' (first | refine yz ?_ | refine yp b73 n1 ?_ | refine yp b73 n2 ?_ | refine yp b32 null_ev ?_ | refine yx ?_ | exact zD)
   | true =>
    rw [na] at n1
    cases nb : isNum b with
    | false =>
     rw [nb] at n2
     simp only [Bool.false_and, cond_false, Bool.not_false, Bool.or_true, cond_true]
     refine ye3 func200 ntmps200 fun _ _ _=>?_
     repeat' (first | refine yz ?_ | refine yp b73 n1 ?_ | refine yp b73 n2 ?_ | refine yp b32 null_ev ?_ | refine yx ?_ | exact zD)
    | true =>
     rw [nb] at n2
     simp only [Bool.false_and, cond_false, Bool.not_true, Bool.or_self]
     unfold ratF
     cases hB : addB (numN a) (numD a) (numN b) (numD b) <;> rw [hB] at a1
     all_goals
      refine ye3 func200 ntmps200 fun _ _ _=>?_
      repeat' (first | refine yz ?_ | refine yp b73 n1 ?_ | refine yp b73 n2 ?_ | refine yp b32 null_ev ?_ | refine yp b98 a1 ?_ | refine yp b29 r1 ?_ | refine yx ?_ | exact zD)
 ·have e0 : arF 8 a b = bif !(isNum a) || !(isNum b) then vNull else ratF (addB (numN a) (numD a) (0 - numN b) (numD b)) (addN (numN a) (numD a) (0 - numN b) (numD b)) (addD (numN a) (numD a) (0 - numN b) (numD b)) := rfl
  rw [e0]
  have r1 := rat_ev (addN (numN a) (numD a) (0 - numN b) (numD b)) (addD (numN a) (numD a) (0 - numN b) (numD b))
  cases na : isNum a with
  | false =>
   rw [na] at n1
   simp only [Bool.not_false, Bool.true_or, cond_true]
   refine ye3 func200 ntmps200 fun _ _ _=>?_
   repeat' (first | refine yz ?_ | refine yp b73 n1 ?_ | refine yp b73 n2 ?_ | refine yp b32 null_ev ?_ | exact zD)
  | true =>
   rw [na] at n1
   cases nb : isNum b with
   | false =>
    rw [nb] at n2
    simp only [Bool.not_false, Bool.or_true, cond_true]
    refine ye3 func200 ntmps200 fun _ _ _=>?_
    repeat' (first | refine yz ?_ | refine yp b73 n1 ?_ | refine yp b73 n2 ?_ | refine yp b32 null_ev ?_ | exact zD)
   | true =>
    rw [nb] at n2
    have fb := num_fval nb
    have a1 := sub_ev (numN a) (numD a) (numN b) (numD b) fb
    simp only [Bool.not_true, Bool.or_self, cond_false]
    unfold ratF
    cases hB : (addB (numN a) (numD a) (0 - numN b) (numD b)) <;> rw [hB] at a1
    all_goals
     refine ye3 func200 ntmps200 fun _ _ _=>?_
     repeat' (first | refine yz ?_ | refine yp b73 n1 ?_ | refine yp b73 n2 ?_ | refine yp b32 null_ev ?_ | refine yp b232 a1 ?_ | refine yp b29 r1 ?_ | exact zD)
 ·have e0 : arF 9 a b = bif !(isNum a) || !(isNum b) then vNull else ratF (mulF (numN a) (numD a) (numN b) (numD b)) (muN (numN a) (numD a) (numN b) (numD b)) (muD (numN a) (numD a) (numN b) (numD b)) := rfl
  rw [e0]
  have r1 := rat_ev (muN (numN a) (numD a) (numN b) (numD b)) (muD (numN a) (numD a) (numN b) (numD b))
  cases na : isNum a with
  | false =>
   rw [na] at n1
   simp only [Bool.not_false, Bool.true_or, cond_true]
   refine ye3 func200 ntmps200 fun _ _ _=>?_
   repeat' (first | refine yz ?_ | refine yp b73 n1 ?_ | refine yp b73 n2 ?_ | refine yp b32 null_ev ?_ | exact zD)
  | true =>
   rw [na] at n1
   cases nb : isNum b with
   | false =>
    rw [nb] at n2
    simp only [Bool.not_false, Bool.or_true, cond_true]
    refine ye3 func200 ntmps200 fun _ _ _=>?_
    repeat' (first | refine yz ?_ | refine yp b73 n1 ?_ | refine yp b73 n2 ?_ | refine yp b32 null_ev ?_ | exact zD)
   | true =>
    rw [nb] at n2
    have fb := num_fval nb
    have a1 := mul_ev (numN a) (numD a) (numN b) (numD b)
    simp only [Bool.not_true, Bool.or_self, cond_false]
    unfold ratF
    cases hB : (mulF (numN a) (numD a) (numN b) (numD b)) <;> rw [hB] at a1
    all_goals
     refine ye3 func200 ntmps200 fun _ _ _=>?_
     repeat' (first | refine yz ?_ | refine yp b73 n1 ?_ | refine yp b73 n2 ?_ | refine yp b32 null_ev ?_ | refine yp b100 a1 ?_ | refine yp b29 r1 ?_ | exact zD)
 ·have e0 : arF 10 a b = bif !(isNum a) || !(isNum b) then vNull else ratF (divB (numN a) (numD a) (numN b) (numD b)) (divN (numN a) (numD a) (numN b) (numD b)) (divD (numN a) (numD a) (numN b) (numD b)) := rfl
  rw [e0]
  have r1 := rat_ev (divN (numN a) (numD a) (numN b) (numD b)) (divD (numN a) (numD a) (numN b) (numD b))
  cases na : isNum a with
  | false =>
   rw [na] at n1
   simp only [Bool.not_false, Bool.true_or, cond_true]
   refine ye3 func200 ntmps200 fun _ _ _=>?_
   repeat' (first | refine yz ?_ | refine yp b73 n1 ?_ | refine yp b73 n2 ?_ | refine yp b32 null_ev ?_ | exact zD)
  | true =>
   rw [na] at n1
   cases nb : isNum b with
   | false =>
    rw [nb] at n2
    simp only [Bool.not_false, Bool.or_true, cond_true]
    refine ye3 func200 ntmps200 fun _ _ _=>?_
    repeat' (first | refine yz ?_ | refine yp b73 n1 ?_ | refine yp b73 n2 ?_ | refine yp b32 null_ev ?_ | exact zD)
   | true =>
    rw [nb] at n2
    have fb := num_fval nb
    have a1 := div_ev (numN a) (numD a) (numN b) (numD b)
    simp only [Bool.not_true, Bool.or_self, cond_false]
    unfold ratF
    cases hB : (divB (numN a) (numD a) (numN b) (numD b)) <;> rw [hB] at a1
    all_goals
     refine ye3 func200 ntmps200 fun _ _ _=>?_
     repeat' (first | refine yz ?_ | refine yp b73 n1 ?_ | refine yp b73 n2 ?_ | refine yp b32 null_ev ?_ | refine yp b53 a1 ?_ | refine yp b29 r1 ?_ | exact zD)
 ·have m := nmod_ev a.n b.n
  have i1 := int_ev (modN a.n b.n)
  have e0 : arF 11 a b = bif !(isNum a) || !(isNum b) then vNull else bif modB a.n b.n && (a.k == 2 && b.k == 2) then vInt (modN a.n b.n) else vNull := rfl
  have e1 : isNum a = (a.k == 2 || a.k == 3) := by unfold isNum; rw [ha, Bool.and_true]
  have e2 : isNum b = (b.k == 2 || b.k == 3) := by unfold isNum; rw [hb, Bool.and_true]
  rw [e0, e1, e2]
  cases hm : modB a.n b.n <;> cases k1 : a.k == 2 <;> cases k2 : b.k == 2 <;> rw [hm] at m
  all_goals simp only [Bool.false_or, Bool.true_or, Bool.not_true, Bool.false_and, Bool.and_false, Bool.and_true, Bool.true_and, cond_true, cond_false, Bool.or_self, Bool.or_true]
  all_goals try rw [Bool.cond_self]
  all_goals
   refine ye3 func200 ntmps200 fun _ _ _=>?_
   repeat' (first | refine yz ?_ | refine yp b231 m ?_ | refine yp b32 null_ev ?_ | refine yp b31 i1 ?_ | refine yx ?_ | exact zD)
def szF (a : V) : V := bif a.k == 4 then vInt a.s.size else bif a.k == 8 then vInt a.l.length else vNull
theorem size_ev (a : V) : Ev E 158 [enc a] (.d (enc (szF a))) := Ev.fit fun hfit => by
 obtain ⟨-, -, -, f1, f2, -⟩ := fit_enc (v := a) (hfit _ (by simp))
 have i1 := int_ev a.s.size
 have i2 := int_ev a.l.length
 rw [← kids_len] at i2
 unfold szF
 rw [← kids_len]
 cases c4 : a.k == 4 with
 | true =>
  refine ye1 func158 ntmps158 fun _ _ _=>?_
  repeat' (first | refine yz ?_ | refine yp b31 i1 ?_ | exact zD)
 | false =>
 cases c8 : a.k == 8 with
 | true =>
  refine ye1 func158 ntmps158 fun _ _ _=>?_
  repeat' (first | refine yz ?_ | refine yp b31 i2 ?_ | exact zD)
 | false =>
  refine ye1 func158 ntmps158 fun _ _ _=>?_
  repeat' (first | refine yz ?_ | refine yp b32 null_ev ?_ | exact zD)
def nmType : ByteArray := ⟨#[116, 121, 112, 101]⟩
def nmStart : ByteArray := ⟨#[115, 116, 97, 114, 116]⟩
def nmEnd : ByteArray := ⟨#[101, 110, 100]⟩
def nmLength : ByteArray := ⟨#[108, 101, 110, 103, 116, 104]⟩
def nmNodes : ByteArray := ⟨#[110, 111, 100, 101, 115]⟩
def nmEdges : ByteArray := ⟨#[101, 100, 103, 101, 115]⟩
def eqS (s t : ByteArray) : Bool := s.toList == t.toList
def ofE (nm : ByteArray) (e : Ed) : V := bif eqS nm nmType then vStr e.ty else bif eqS nm nmStart then vNode e.src else vNode e.dst
theorem ofEdge_ev (nm : ByteArray) (e : Ed) : Ev E 156 [.str nm, encEd e] (.d (enc (ofE nm e))) := by
 have i1 := str_ev e.ty
 have i2 := node_ev e.src
 have i3 := node_ev e.dst
 unfold ofE
 cases c1 : eqS nm nmType with
 | true =>
  have c1' : (nm.toList == (⟨#[116, 121, 112, 101]⟩ : ByteArray).toList) = true := c1
  refine ye2 func156 ntmps156 fun _ _ _=>?_
  repeat' (first | refine yz ?_ | refine yp b33 i1 ?_ | exact zD)
 | false =>
 have c1' : (nm.toList == (⟨#[116, 121, 112, 101]⟩ : ByteArray).toList) = false := c1
 cases c2 : eqS nm nmStart with
 | true =>
  have c2' : (nm.toList == (⟨#[115, 116, 97, 114, 116]⟩ : ByteArray).toList) = true := c2
  refine ye2 func156 ntmps156 fun _ _ _=>?_
  repeat' (first | refine yz ?_ | refine yp b34 i2 ?_ | exact zD)
 | false =>
  have c2' : (nm.toList == (⟨#[115, 116, 97, 114, 116]⟩ : ByteArray).toList) = false := c2
  refine ye2 func156 ntmps156 fun _ _ _=>?_
  repeat' (first | refine yz ?_ | refine yp b34 i3 ?_ | exact zD)
def evens {α : Type} : List α → List α
 | [] => []
 | [x] => [x]
 | x :: _ :: r => x :: evens r
theorem evens_at {α : Type} {l : List α} {i : Nat} {x : α} (h : l[i]? = some x) : evens (l.drop i) = x :: evens (l.drop (i + 2)) := by
 rw [drop_at h]
 cases hd : l.drop (i + 1) with
 | nil =>
  have hlen : l.length ≤ i + 1 := by
   have := congrArg List.length hd
   simp at this
   omega
  rw [List.drop_eq_nil_of_le (by omega)]
  rfl
 | cons y r =>
  have : l.drop (i + 2) = r := by
   have e : l.drop (i + 2) = (l.drop (i + 1)).drop 1 := by rw [List.drop_drop]
   rw [e, hd]; rfl
  rw [this]
  rfl
def pthF (nm : ByteArray) (l : List V) : V := bif eqS nm nmLength then vInt ((l.length : Int) / 2) else vList (evens (l.drop (bif eqS nm nmEdges then 1 else 0)))
theorem evens_len {α : Type} : ∀ l : List α, (evens l).length ≤ l.length
 | [] => Nat.le_refl _
 | [_] => Nat.le_refl _
 | x :: y :: r => by have := evens_len r; simp [evens]; omega
theorem evens_mem {α : Type} : ∀ {l : List α} {x : α}, x ∈ evens l → x ∈ l
 | [y], x, h => h
 | a :: b :: r, x, h => by
  simp only [evens, List.mem_cons] at h
  rcases h with h | h
  ·simp [h]
  ·have := evens_mem h; simp [this]
theorem narL_of : ∀ {l : List V}, (∀ x ∈ l, nar x = true) → narL l = true
 | [], _ => rfl
 | v :: r, h => by
  simp only [narL, Bool.and_eq_true]
  exact ⟨h v (by simp), narL_of fun x hx => h x (by simp [hx])⟩
theorem nar_list {l : List V} (hl : l.length ≤ 2000000) (h : ∀ x ∈ l, nar x = true) : nar (vList l) = true := by
 simp only [vList, nar, Bool.and_eq_true, decide_eq_true_eq]
 exact ⟨hl, narL_of h⟩
structure SPh (l : List V) (st : Nat) where
 i : Nat
 out : List V
 hi : i ≤ l.length + 1
 ho : out.length ≤ i
 ok : evens (l.drop st) = out ++ evens (l.drop i)
theorem encL_app (l : List V) (x : V) : encL (l ++ [x]) = encL l ++ [enc x] := by simp [encL_map]
abbrev zVal : AObj := .var 35 (.cs [.d (.int 0), .d (.int 0), .d (.int 0), .d (.str ⟨#[]⟩), .nilS])
theorem enc_one (v : V) : ∀ d ∈ [enc v], d.cells.length = 5 := fun d hd => by obtain rfl := List.mem_singleton.1 hd; rfl
set_option maxHeartbeats 4000000 in
theorem ofPath_ev (nm : ByteArray) (l : List V) (hl : l.length ≤ 2000000) (hn : ∀ x ∈ l, nar x = true) : Ev E 159 [.str nm, .sl (encL l)] (.d (enc (pthF nm l))) := by
 have hle : (encL l).length = l.length := encL_len _
 unfold pthF
 cases c1 : eqS nm nmLength with
 | true =>
  have c1' : (nm.toList == (⟨#[108, 101, 110, 103, 116, 104]⟩ : ByteArray).toList) = true := c1
  have i1 := int_ev (Int.tdiv ((encL l).length : Int) 2)
  have e : ((l.length : Int) / 2) = Int.tdiv ((encL l).length : Int) 2 := by rw [hle, Int.tdiv_eq_ediv_of_nonneg (by omega)]
  have w1 : (2 : Int) ≠ 0 ∧ inR .i64 (Int.tdiv ((encL l).length : Int) 2) := by rw [← e]; refine ⟨by omega, ?_⟩; simp only [inR]; omega
  rw [e]
  refine ye2 func159 ntmps159 fun _ _ _=>?_
  repeat' (first | refine yz ?_ | refine yp b31 i1 ?_ | exact zD)
 | false =>
  have c1' : (nm.toList == (⟨#[108, 101, 110, 103, 116, 104]⟩ : ByteArray).toList) = false := c1
  obtain ⟨st, hst, hst1⟩ : ∃ st : Nat, (bif eqS nm nmEdges then 1 else 0) = st ∧ st ≤ 1 := ⟨_, rfl, by cases eqS nm nmEdges <;> decide⟩
  rw [hst, cond_false]
  have hL := list_ev (evens (l.drop st)) (nar_list (by have := evens_len (l.drop st); simp at this; omega) fun x hx => hn x (List.mem_of_mem_drop (evens_mem hx)))
  cases c2 : eqS nm nmEdges with
  | true =>
   have c2' : (nm.toList == (⟨#[101, 100, 103, 101, 115]⟩ : ByteArray).toList) = true := c2
   rw [c2] at hst
   obtain rfl : 1 = st := hst
   refine ye2 func159 ntmps159 fun _ _ _=>?_
   repeat' (refine yz ?_)
   refine go_loop_ (α := SPh l 1) (fun p => ⟨[(1, .d (.sl (encL l))), (4, .ptr 0 0), (6, rowK 1 (encL p.out)), (7, .d (.int p.i))], zVal :: rowO 35 5 (encL p.out)⟩) (fun p => l.length + 2 - p.i) ⟨1, [], by omega, by simp, rfl⟩ (zle 1) ?_
   rintro ⟨i, out, hi, ho, ok⟩
   dsimp only
   rcases Nat.lt_or_ge i l.length with hlt | hge
   ·have g1 : decide ((i : Int) < ((encL l).length : Int)) = true := by rw [hle]; simpa using hlt
    have hx0 := List.getElem?_eq_getElem hlt
    generalize l[i] = x at hx0
    have hx : (encL l)[(i : Int).toNat]? = some (enc x) := encL_get (by rw [Int.toNat_natCast]; exact hx0)
    have hta := encL_app out x
    have hll : (encL out).length ≤ i := by rw [encL_len]; omega
    rw [evens_at hx0] at ok
    match ho' : encL out, hll with
    | [], hll =>
     dsimp only [rowK, rowO]
     repeat' (first | refine yz ?_ | refine yi (enc x) hx ?_ | (refine qS rfl ⟨by simp, enc_one x, by (show (0 + 1) * 64 ≤ 140737488355328; omega), by (show 0 + 1 ≤ 9223372036854775807; omega)⟩ ?_))
     refine go_stop ?_
     refine ⟨⟨i + 2, out ++ [x], by omega, by simp; omega, by rw [ok]; simp⟩, by dsimp only; omega, ?_⟩
     dsimp only
     rw [hta, ho']
     exact (zren [0, 1])
    | a :: q, hll =>
     dsimp only [rowK, rowO]
     repeat' (first | refine yz ?_ | refine yi (enc x) hx ?_ | (refine qS rfl ⟨by simp, enc_one x, by (show ((a :: q).length + 1) * 64 ≤ 140737488355328; omega), by (show (a :: q).length + 1 ≤ 9223372036854775807; omega)⟩ ?_))
     refine go_stop ?_
     refine ⟨⟨i + 2, out ++ [x], by omega, by simp; omega, by rw [ok]; simp⟩, by dsimp only; omega, ?_⟩
     dsimp only
     rw [hta, ho']
     exact (zren [0, 2])
   ·have g1 : decide ((i : Int) < ((encL l).length : Int)) = false := by rw [hle]; simp; omega
    rw [List.drop_eq_nil_of_le hge] at ok
    have ok' : evens (l.drop 1) = out := by rw [ok]; simp [evens]
    rw [ok'] at hL ⊢
    match ho' : encL out, hL with
    | [], hL =>
     dsimp only [rowK, rowO]
     repeat' (first | refine yz ?_ | refine yp b30 hL ?_ | exact zD)
    | a :: q, hL =>
     dsimp only [rowK, rowO]
     repeat' (refine yz ?_)
     refine go_frzS 1 rfl ?_
     repeat' (first | refine yz ?_ | refine yp b30 hL ?_ | exact zD)
  | false =>
   have c2' : (nm.toList == (⟨#[101, 100, 103, 101, 115]⟩ : ByteArray).toList) = false := c2
   rw [c2] at hst
   obtain rfl : 0 = st := hst
   refine ye2 func159 ntmps159 fun _ _ _=>?_
   repeat' (refine yz ?_)
   refine go_loop_ (α := SPh l 0) (fun p => ⟨[(1, .d (.sl (encL l))), (4, .ptr 0 0), (6, rowK 1 (encL p.out)), (7, .d (.int p.i))], zVal :: rowO 35 5 (encL p.out)⟩) (fun p => l.length + 2 - p.i) ⟨0, [], by omega, by simp, rfl⟩ (zle 1) ?_
   rintro ⟨i, out, hi, ho, ok⟩
   dsimp only
   rcases Nat.lt_or_ge i l.length with hlt | hge
   ·have g1 : decide ((i : Int) < ((encL l).length : Int)) = true := by rw [hle]; simpa using hlt
    have hx0 := List.getElem?_eq_getElem hlt
    generalize l[i] = x at hx0
    have hx : (encL l)[(i : Int).toNat]? = some (enc x) := encL_get (by rw [Int.toNat_natCast]; exact hx0)
    have hta := encL_app out x
    have hll : (encL out).length ≤ i := by rw [encL_len]; omega
    rw [evens_at hx0] at ok
    match ho' : encL out, hll with
    | [], hll =>
     dsimp only [rowK, rowO]
     repeat' (first | refine yz ?_ | refine yi (enc x) hx ?_ | (refine qS rfl ⟨by simp, enc_one x, by (show (0 + 1) * 64 ≤ 140737488355328; omega), by (show 0 + 1 ≤ 9223372036854775807; omega)⟩ ?_))
     refine go_stop ?_
     refine ⟨⟨i + 2, out ++ [x], by omega, by simp; omega, by rw [ok]; simp⟩, by dsimp only; omega, ?_⟩
     dsimp only
     rw [hta, ho']
     exact (zren [0, 1])
    | a :: q, hll =>
     dsimp only [rowK, rowO]
     repeat' (first | refine yz ?_ | refine yi (enc x) hx ?_ | (refine qS rfl ⟨by simp, enc_one x, by (show ((a :: q).length + 1) * 64 ≤ 140737488355328; omega), by (show (a :: q).length + 1 ≤ 9223372036854775807; omega)⟩ ?_))
     refine go_stop ?_
     refine ⟨⟨i + 2, out ++ [x], by omega, by simp; omega, by rw [ok]; simp⟩, by dsimp only; omega, ?_⟩
     dsimp only
     rw [hta, ho']
     exact (zren [0, 2])
   ·have g1 : decide ((i : Int) < ((encL l).length : Int)) = false := by rw [hle]; simp; omega
    rw [List.drop_eq_nil_of_le hge] at ok
    have ok' : evens (l.drop 0) = out := by rw [ok]; simp [evens]
    rw [ok'] at hL ⊢
    match ho' : encL out, hL with
    | [], hL =>
     dsimp only [rowK, rowO]
     repeat' (first | refine yz ?_ | refine yp b30 hL ?_ | exact zD)
    | a :: q, hL =>
     dsimp only [rowK, rowO]
     repeat' (refine yz ?_)
     refine go_frzS 1 rfl ?_
     repeat' (first | refine yz ?_ | refine yp b30 hL ?_ | exact zD)
abbrev evO (g : Gr) (env : List Bd) : AObj := .var 126 (.cs [.d (.sl (g.nodes.map encNd)), .d (.sl (g.edges.map encEd)), .d (.int g.nn), .d (.int g.ne), .d (.sl (env.map encBd)), .bnd 106 [.ptr 0 0]])
def narG (g : Gr) : Prop := (∀ n ∈ g.nodes, narN n) ∧ ∀ e ∈ g.edges, narP e.props
def varF (env : List Bd) (nm : ByteArray) : V := match env.find? fun b => b.name.toList == nm.toList with | some b => b.v | none => vNull
theorem variable_ev (g : Gr) (env : List Bd) (nm : ByteArray) : env.length ≤ 2000000 → EvS E 193 [.ptr 0 0, .d (.str nm)] [evO g env] (.d (enc (varF env nm))) [evO g env] := by
 intro hmax
 have hle : (env.map encBd).length = env.length := by simp
 unfold varF
 refine yd func193 ntmps193 fun _ _ _ _=>?_
 repeat' (first | refine yz ?_ | refine yx ?_ | (refine yy ?_ ?_ <;> intro _) | exact zD | exact zL)
 refine go_loop_ (α := SFd env fun b => b.name.toList == nm.toList) (fun p => ⟨[(0, .ptr 0 0), (1, .d (.str nm)), (4, .ptr 1 0), (10, .d (.sl (env.map encBd))), (11, .d (.int (env.map encBd).length)), (12, .d (.int p.i))], [evO g env, zVal]⟩) (fun p => env.length - p.i) ⟨0, by omega, rfl⟩ (zle 2) ?_
 rintro ⟨i, hi, ok⟩
 dsimp only
 rcases Nat.lt_or_ge i env.length with hlt | hge
 ·have g1 : decide ((i : Int) < ((env.map encBd).length : Int)) = true := by rw [hle]; simpa using hlt
  have hx0 := List.getElem?_eq_getElem hlt
  generalize env[i] = x at hx0
  have hx := map_at (f := encBd) hx0
  rw [ok, find_at hx0]
  cases hc : x.name.toList == nm.toList with
  | true =>
   repeat' (first | refine yz ?_ | refine yi (encBd x) hx ?_ | refine yr [0] ?_ | refine yt [0] ?_ | refine yx ?_ | (refine yy ?_ ?_ <;> intro _) | exact zD | exact zL)
  | false =>
   repeat' (first | refine yz ?_ | refine yi (encBd x) hx ?_ | refine yx ?_ | (refine yy ?_ ?_ <;> intro _) | exact zD | exact zL)
   refine go_stop ?_
   exact ⟨⟨i + 1, by omega, by rw [ok, find_at hx0, hc]; rfl⟩, by dsimp only; omega, (zle 2)⟩
 ·have g1 : decide ((i : Int) < ((env.map encBd).length : Int)) = false := by rw [hle]; simp; omega
  rw [ok, List.drop_eq_nil_of_le hge]
  repeat' (first | refine yz ?_ | refine yp b32 null_ev ?_ | refine yr [0] ?_ | refine yt [0] ?_ | refine yx ?_ | (refine yy ?_ ?_ <;> intro _) | exact zD | exact zL)
def nodF (g : Gr) (a : V) : Nd := bif a.k == 5 then (findN g.nodes a.n).getD nd0 else nd0
def nodB (g : Gr) (a : V) : Bool := a.k == 5 && (findN g.nodes a.n).isSome
def edgF (g : Gr) (a : V) : Ed := bif a.k == 6 then (findE g.edges a.n).getD ed0 else ed0
def edgB (g : Gr) (a : V) : Bool := a.k == 6 && (findE g.edges a.n).isSome
theorem node_evS (g : Gr) (env : List Bd) (a : V) (hg : narG g) : EvS E 157 [.ptr 0 0, .d (enc a)] [evO g env] (.tup [encNd (nodF g a), .bool (nodB g a)]) [evO g env] := by
 have h := gnode_ev g a.n hg.1
 unfold nodF nodB
 cases hk : a.k == 5 with
 | true =>
  have hk' : (a.k != 5) = false := by rw [bne, hk]; rfl
  refine yd func157 ntmps157 fun _ _ _ _=>?_
  repeat' (first | refine yq 3 [9] ?_ | refine yf 3 0 9 ?_ | refine yw ?_ | refine yf 3 10 1 ?_ | refine rgN ?_ | refine yv ?_ | refine yz ?_ | refine yp b192 h ?_ | refine yr [0] ?_ | refine yt [0] ?_ | refine yx ?_ | (refine yy ?_ ?_ <;> intro _) | exact zD | exact zL)
 | false =>
  have hk' : (a.k != 5) = true := by rw [bne, hk]; rfl
  refine yd func157 ntmps157 fun _ _ _ _=>?_
  repeat' (first | refine yz ?_ | refine yr [0] ?_ | refine yt [0] ?_ | refine yx ?_ | (refine yy ?_ ?_ <;> intro _) | exact zD | exact zL)
theorem edge_evS (g : Gr) (env : List Bd) (a : V) (hg : narG g) : EvS E 155 [.ptr 0 0, .d (enc a)] [evO g env] (.tup [encEd (edgF g a), .bool (edgB g a)]) [evO g env] := by
 have h := gedge_ev g a.n hg.2
 unfold edgF edgB
 cases hk : a.k == 6 with
 | true =>
  have hk' : (a.k != 6) = false := by rw [bne, hk]; rfl
  refine yd func155 ntmps155 fun _ _ _ _=>?_
  repeat' (first | refine yq 3 [9] ?_ | refine yf 3 0 9 ?_ | refine yw ?_ | refine yf 3 10 1 ?_ | refine rgN ?_ | refine yv ?_ | refine yz ?_ | refine yp b191 h ?_ | refine yr [0] ?_ | refine yt [0] ?_ | refine yx ?_ | (refine yy ?_ ?_ <;> intro _) | exact zD | exact zL)
 | false =>
  have hk' : (a.k != 6) = true := by rw [bne, hk]; rfl
  refine yd func155 ntmps155 fun _ _ _ _=>?_
  repeat' (first | refine yz ?_ | refine yr [0] ?_ | refine yt [0] ?_ | refine yx ?_ | (refine yy ?_ ?_ <;> intro _) | exact zD | exact zL)
theorem encL_kids (v : V) : kids v = encL v.l := by rw [kids_eq, encL_map]
theorem narN_nod {g : Gr} (hg : narG g) (a : V) : narN (nodF g a) := by
 have h0 : narN nd0 := ⟨by decide, by decide, fun p hp => by simp [nd0] at hp⟩
 unfold nodF
 cases a.k == 5 with
 | false => exact h0
 | true =>
  rw [cond_true]
  cases hf : findN g.nodes a.n with
  | none => exact h0
  | some n => exact hg.1 n (List.mem_of_find?_eq_some hf)
theorem narP_edg {g : Gr} (hg : narG g) (a : V) : narP (edgF g a).props := by
 have h0 : narP ed0.props := ⟨by decide, fun p hp => by simp [ed0] at hp⟩
 unfold edgF
 cases a.k == 6 with
 | false => exact h0
 | true =>
  rw [cond_true]
  cases hf : findE g.edges a.n with
  | none => exact h0
  | some n => exact hg.2 n (List.mem_of_find?_eq_some hf)
def propF (g : Gr) (a : V) (key : ByteArray) : V := bif nodB g a then findP (nodF g a).props key else bif edgB g a then findP (edgF g a).props key else vNull
theorem prop_evS (g : Gr) (env : List Bd) (a : V) (key : ByteArray) (hg : narG g) : EvS E 194 [.ptr 0 0, .d (enc a), .d (.str key)] [evO g env] (.d (enc (propF g a key))) [evO g env] := by
 have h1 := node_evS g env a hg
 have h2 := edge_evS g env a hg
 have p1 := gprop_ev (nodF g a).props key (narN_nod hg a).2
 have p2 := gprop_ev (edgF g a).props key (narP_edg hg a)
 unfold propF
 cases c1 : nodB g a with
 | true =>
  rw [c1] at h1
  refine yd func194 ntmps194 fun _ _ _ _=>?_
  repeat' (first | refine yz ?_ | refine yc [0] b157 (h1) ?_ | refine yp b229 p1 ?_ | refine yr [0] ?_ | refine yt [0] ?_ | refine yx ?_ | (refine yy ?_ ?_ <;> intro _) | exact zD | exact zL)
 | false =>
  rw [c1] at h1
  cases c2 : edgB g a with
  | true =>
   rw [c2] at h2
   refine yd func194 ntmps194 fun _ _ _ _=>?_
   repeat' (first | refine yz ?_ | refine yc [0] b157 (h1) ?_ | refine yc [0] b155 (h2) ?_ | refine yp b229 p2 ?_ | refine yr [0] ?_ | refine yt [0] ?_ | refine yx ?_ | (refine yy ?_ ?_ <;> intro _) | exact zD | exact zL)
  | false =>
   rw [c2] at h2
   refine yd func194 ntmps194 fun _ _ _ _=>?_
   repeat' (first | refine yz ?_ | refine yc [0] b157 (h1) ?_ | refine yc [0] b155 (h2) ?_ | refine yp b32 null_ev ?_ | refine yr [0] ?_ | refine yt [0] ?_ | refine yx ?_ | (refine yy ?_ ?_ <;> intro _) | exact zD | exact zL)
def nmCoalesce : ByteArray := ⟨#[99, 111, 97, 108, 101, 115, 99, 101]⟩
def nmId : ByteArray := ⟨#[105, 100]⟩
def nmAbs : ByteArray := ⟨#[97, 98, 115]⟩
def nmText : ByteArray := ⟨#[116, 101, 120, 116]⟩
def nmLabels : ByteArray := ⟨#[108, 97, 98, 101, 108, 115]⟩
def nmSize : ByteArray := ⟨#[115, 105, 122, 101]⟩
def nmFirst : ByteArray := ⟨#[102, 105, 114, 115, 116]⟩
def nmLast : ByteArray := ⟨#[108, 97, 115, 116]⟩
def firstNN (l : List V) : V := match l.find? fun v => v.k != 0 with | some v => v | none => vNull
def a0 (l : List V) : V := l.headD vNull
def absV (a : V) : V := bif isNum a then vRat (max (numN a) (0 - numN a)) (numD a) else vNull
def fnF (g : Gr) (nm : ByteArray) (l : List V) : V :=
 bif eqS nm nmCoalesce then firstNN l else
 bif eqS nm nmId then (bif (a0 l).k == 5 || (a0 l).k == 6 then vInt (a0 l).n else vNull) else
 bif eqS nm nmAbs then absV (a0 l) else
 bif eqS nm nmText then (bif (a0 l).k != 0 then vStr (bs (txt (a0 l))) else vNull) else
 bif eqS nm nmType || (eqS nm nmStart || eqS nm nmEnd) then (bif edgB g (a0 l) then ofE nm (edgF g (a0 l)) else vNull) else
 bif eqS nm nmLabels then (bif nodB g (a0 l) then vList ((nodF g (a0 l)).labels.map vStr) else vNull) else
 bif eqS nm nmSize then szF (a0 l) else
 bif eqS nm nmLength || (eqS nm nmNodes || eqS nm nmEdges) then (bif (a0 l).k == 7 then pthF nm (a0 l).l else vNull) else
 bif eqS nm nmFirst || eqS nm nmLast then (bif (a0 l).k == 8 && !((a0 l).l.isEmpty) then (bif eqS nm nmFirst then (a0 l).l.headD vNull else (a0 l).l.getLastD vNull) else vNull) else vNull
def fnOK (nm : ByteArray) (l : List V) : Prop := l ≠ [] ∧ l.length ≤ 2000000 ∧ (∀ x ∈ l, nar x = true) ∧ (eqS nm nmText = true → (txt (a0 l)).length ≤ 1099511627776) ∧ (a0 l).l.length ≤ 2000000
set_option maxHeartbeats 8000000 in
theorem function_evS (g : Gr) (env : List Bd) (nm : ByteArray) (l : List V) (hg : narG g) (hok : fnOK nm l) : EvS E 106 [.ptr 0 0, .d (.str nm), .d (.sl (encL l))] [evO g env] (.d (enc (fnF g nm l))) [evO g env] := by
 obtain ⟨hne, hmax, hnar, htx, hal⟩ := hok
 have hle : (encL l).length = l.length := encL_len _
 obtain ⟨a, r, hl⟩ : ∃ a r, l = a :: r := by
  cases l with
  | nil => exact absurd rfl hne
  | cons a r => exact ⟨a, r, rfl⟩
 have ha0 : a0 l = a := by rw [hl]; rfl
 have hx0 : (encL l)[(0 : Int).toNat]? = some (enc a) := by rw [hl]; rfl
 have hna : nar a = true := hnar a (by rw [hl]; simp)
 obtain ⟨-, hnl⟩ := nar_l hna
 have hkl : (kids a).length = a.l.length := kids_len a
 rw [ha0] at htx hal
 unfold fnF
 rw [ha0]
 cases c0 : eqS nm nmCoalesce with
 | true =>
  have c0' : (nm.toList == (⟨#[99, 111, 97, 108, 101, 115, 99, 101]⟩ : ByteArray).toList) = true := c0
  simp only [cond_true]
  unfold firstNN
  refine yd func106 ntmps106 fun _ _ _ _=>?_
  repeat' (first | refine yz ?_ | refine yi (enc a) hx0 ?_ | refine yx ?_ | (refine yy ?_ ?_ <;> intro _) | exact zD | exact zL)
  refine go_loop_ (α := SFd l fun v => v.k != 0) (fun p => ⟨[(0, .ptr 0 0), (6, .ptr 1 0), (7, .ptr 2 0), (25, .d (.sl (encL l))), (26, .d (.int (encL l).length)), (27, .d (.int p.i))], [evO g env, zVal, .var 35 (.w (.d (enc a)))]⟩) (fun p => l.length - p.i) ⟨0, by omega, rfl⟩ (zle 3) ?_
  rintro ⟨i, hi, ok⟩
  dsimp only
  rcases Nat.lt_or_ge i l.length with hlt | hge
  ·have g1 : decide ((i : Int) < ((encL l).length : Int)) = true := by rw [hle]; simpa using hlt
   have hy0 := List.getElem?_eq_getElem hlt
   generalize l[i] = x at hy0
   have hx : (encL l)[(i : Int).toNat]? = some (enc x) := encL_get (by rw [Int.toNat_natCast]; exact hy0)
   rw [ok, find_at hy0]
   cases hc : x.k != 0 with
   | true =>
    repeat' (first | refine yz ?_ | refine yi (enc x) hx ?_ | refine yr [0] ?_ | refine yt [0] ?_ | refine yx ?_ | (refine yy ?_ ?_ <;> intro _) | exact zD | exact zL)
   | false =>
    repeat' (first | refine yz ?_ | refine yi (enc x) hx ?_ | refine yx ?_ | (refine yy ?_ ?_ <;> intro _) | exact zD | exact zL)
    refine go_stop ?_
    exact ⟨⟨i + 1, by omega, by rw [ok, find_at hy0, hc]; rfl⟩, by dsimp only; omega, (zle 3)⟩
  ·have g1 : decide ((i : Int) < ((encL l).length : Int)) = false := by rw [hle]; simp; omega
   rw [ok, List.drop_eq_nil_of_le hge]
   repeat' (first | refine yz ?_ | refine yp b32 null_ev ?_ | refine yr [0] ?_ | refine yt [0] ?_ | refine yx ?_ | (refine yy ?_ ?_ <;> intro _) | exact zD | exact zL)
 | false =>
 have c0' : (nm.toList == (⟨#[99, 111, 97, 108, 101, 115, 99, 101]⟩ : ByteArray).toList) = false := c0
 cases c1 : eqS nm nmId with
 | true =>
  have c1' : (nm.toList == (⟨#[105, 100]⟩ : ByteArray).toList) = true := c1
  simp only [cond_false, cond_true]
  have i1 := int_ev a.n
  cases k5 : a.k == 5 <;> cases k6 : a.k == 6
  all_goals
   refine yd func106 ntmps106 fun _ _ _ _=>?_
   repeat' (first | refine yz ?_ | refine yi (enc a) hx0 ?_ | refine yp b31 i1 ?_ | refine yp b32 null_ev ?_ | refine yr [0] ?_ | refine yt [0] ?_ | refine yx ?_ | (refine yy ?_ ?_ <;> intro _) | exact zD | exact zL)
 | false =>
 have c1' : (nm.toList == (⟨#[105, 100]⟩ : ByteArray).toList) = false := c1
 cases c2 : eqS nm nmAbs with
 | true =>
  have c2' : (nm.toList == (⟨#[97, 98, 115]⟩ : ByteArray).toList) = true := c2
  simp only [cond_false, cond_true]
  have n1 := Number_ev ixOK a
  have r1 := rat_ev (max (numN a) (0 - numN a)) (numD a)
  unfold absV
  cases hn : isNum a with
  | true =>
   rw [hn] at n1
   obtain ⟨-, f2, -⟩ := fval_inv (num_fval hn)
   refine yd func106 ntmps106 fun _ _ _ _=>?_
   repeat' (first | refine yz ?_ | refine yi (enc a) hx0 ?_ | refine yp b73 n1 ?_ | refine yp b29 r1 ?_ | refine yr [0] ?_ | refine yt [0] ?_ | refine yx ?_ | (refine yy ?_ ?_ <;> intro _) | exact zD | exact zL)
  | false =>
   rw [hn] at n1
   refine yd func106 ntmps106 fun _ _ _ _=>?_
   repeat' (first | refine yz ?_ | refine yi (enc a) hx0 ?_ | refine yp b73 n1 ?_ | refine yp b32 null_ev ?_ | refine yr [0] ?_ | refine yt [0] ?_ | refine yx ?_ | (refine yy ?_ ?_ <;> intro _) | exact zD | exact zL)
 | false =>
 have c2' : (nm.toList == (⟨#[97, 98, 115]⟩ : ByteArray).toList) = false := c2
 cases c3 : eqS nm nmText with
 | true =>
  have c3' : (nm.toList == (⟨#[116, 101, 120, 116]⟩ : ByteArray).toList) = true := c3
  simp only [cond_false, cond_true]
  have t1 := txt_ev a (htx c3)
  have s1 := str_ev (bs (txt a))
  cases k0 : a.k != 0
  all_goals
   refine yd func106 ntmps106 fun _ _ _ _=>?_
   repeat' (first | refine yz ?_ | refine yi (enc a) hx0 ?_ | refine yp b38 t1 ?_ | refine yp b33 s1 ?_ | refine yp b32 null_ev ?_ | refine yr [0] ?_ | refine yt [0] ?_ | refine yx ?_ | (refine yy ?_ ?_ <;> intro _) | exact zD | exact zL)
 | false =>
 have c3' : (nm.toList == (⟨#[116, 101, 120, 116]⟩ : ByteArray).toList) = false := c3
 cases c4 : eqS nm nmType with
 | true =>
  have c4' : (nm.toList == (⟨#[116, 121, 112, 101]⟩ : ByteArray).toList) = true := c4
  simp only [Bool.true_or, Bool.or_true, Bool.false_or, Bool.or_false, cond_false, cond_true]
  have h1 := edge_evS g env a hg
  have o1 := ofEdge_ev nm (edgF g a)
  cases hb : edgB g a <;> rw [hb] at h1
  all_goals
   refine yd func106 ntmps106 fun _ _ _ _=>?_
   repeat' (first | refine yz ?_ | refine yi (enc a) hx0 ?_ | refine yc [0] b155 (h1) ?_ | refine yp b156 o1 ?_ | refine yp b32 null_ev ?_ | refine yr [0] ?_ | refine yt [0] ?_ | refine yx ?_ | (refine yy ?_ ?_ <;> intro _) | exact zD | exact zL)
 | false =>
 have c4' : (nm.toList == (⟨#[116, 121, 112, 101]⟩ : ByteArray).toList) = false := c4
 cases c5 : eqS nm nmStart with
 | true =>
  have c5' : (nm.toList == (⟨#[115, 116, 97, 114, 116]⟩ : ByteArray).toList) = true := c5
  simp only [Bool.true_or, Bool.or_true, Bool.false_or, Bool.or_false, cond_false, cond_true]
  have h1 := edge_evS g env a hg
  have o1 := ofEdge_ev nm (edgF g a)
  cases hb : edgB g a <;> rw [hb] at h1
  all_goals
   refine yd func106 ntmps106 fun _ _ _ _=>?_
   repeat' (first | refine yz ?_ | refine yi (enc a) hx0 ?_ | refine yc [0] b155 (h1) ?_ | refine yp b156 o1 ?_ | refine yp b32 null_ev ?_ | refine yr [0] ?_ | refine yt [0] ?_ | refine yx ?_ | (refine yy ?_ ?_ <;> intro _) | exact zD | exact zL)
 | false =>
 have c5' : (nm.toList == (⟨#[115, 116, 97, 114, 116]⟩ : ByteArray).toList) = false := c5
 cases c6 : eqS nm nmEnd with
 | true =>
  have c6' : (nm.toList == (⟨#[101, 110, 100]⟩ : ByteArray).toList) = true := c6
  simp only [Bool.true_or, Bool.or_true, Bool.false_or, Bool.or_false, cond_false, cond_true]
  have h1 := edge_evS g env a hg
  have o1 := ofEdge_ev nm (edgF g a)
  cases hb : edgB g a <;> rw [hb] at h1
  all_goals
   refine yd func106 ntmps106 fun _ _ _ _=>?_
   repeat' (first | refine yz ?_ | refine yi (enc a) hx0 ?_ | refine yc [0] b155 (h1) ?_ | refine yp b156 o1 ?_ | refine yp b32 null_ev ?_ | refine yr [0] ?_ | refine yt [0] ?_ | refine yx ?_ | (refine yy ?_ ?_ <;> intro _) | exact zD | exact zL)
 | false =>
 have c6' : (nm.toList == (⟨#[101, 110, 100]⟩ : ByteArray).toList) = false := c6
 cases c7 : eqS nm nmLabels with
 | true =>
  have c7' : (nm.toList == (⟨#[108, 97, 98, 101, 108, 115]⟩ : ByteArray).toList) = true := c7
  simp only [Bool.or_self, cond_false, cond_true]
  have h1 := node_evS g env a hg
  have hnn := narN_nod hg a
  cases hb : nodB g a with
  | false =>
   rw [hb] at h1
   refine yd func106 ntmps106 fun _ _ _ _=>?_
   repeat' (first | refine yz ?_ | refine yi (enc a) hx0 ?_ | refine yc [0] b157 (h1) ?_ | refine yp b32 null_ev ?_ | refine yr [0] ?_ | refine yt [0] ?_ | refine yx ?_ | (refine yy ?_ ?_ <;> intro _) | exact zD | exact zL)
  | true =>
   rw [hb] at h1
   obtain ⟨hln, -⟩ := hnn
   generalize nodF g a = nd at h1 hln ⊢
   have hL := list_ev (nd.labels.map vStr) (nar_list (by simpa using hln) fun x hx => by
    obtain ⟨s, -, rfl⟩ := List.mem_map.1 hx
    rfl)
   have hll0 : (nd.labels.map D.str).length = nd.labels.length := by simp
   refine yd func106 ntmps106 fun _ _ _ _=>?_
   repeat' (first | refine yz ?_ | refine yi (enc a) hx0 ?_ | refine yc [0] b157 (h1) ?_ | refine yx ?_ | (refine yy ?_ ?_ <;> intro _) | exact zD | exact zL)
   refine go_loop_ (α := Fin (nd.labels.length + 1)) (fun p => ⟨[(6, .ptr 1 0), (16, rowK 2 (encL ((nd.labels.take p.val).map vStr))), (99, .d (.sl (nd.labels.map .str))), (100, .d (.int (nd.labels.map D.str).length)), (101, .d (.int p.val))], [evO g env, zVal] ++ rowO 35 5 (encL ((nd.labels.take p.val).map vStr))⟩) (fun p => nd.labels.length - p.val) ⟨0, by omega⟩ (zle 2) ?_
   rintro ⟨i, hi⟩
   dsimp only
   rcases Nat.lt_or_ge i nd.labels.length with hlt | hge
   ·have g1 : decide ((i : Int) < ((nd.labels.map D.str).length : Int)) = true := by rw [hll0]; simpa using hlt
    have hy0 := List.getElem?_eq_getElem hlt
    have htk : nd.labels.take (i + 1) = nd.labels.take i ++ [nd.labels[i]] := by rw [List.take_succ_eq_append_getElem hlt]
    generalize nd.labels[i] = x at hy0 htk
    have hx := map_at (f := D.str) hy0
    have s1 := str_ev x
    have hta : encL ((nd.labels.take (i + 1)).map vStr) = encL ((nd.labels.take i).map vStr) ++ [enc (vStr x)] := by rw [htk, List.map_append, List.map_cons, List.map_nil, encL_app]
    have hll : (encL ((nd.labels.take i).map vStr)).length ≤ i := by rw [encL_len]; simp; omega
    match ho' : encL ((nd.labels.take i).map vStr), hll with
    | [], hll =>
     dsimp only [rowK, rowO, List.append, HAppend.hAppend, Append.append]
     repeat' (first | refine yz ?_ | refine yi (.str x) hx ?_ | refine yp b33 s1 ?_ | (refine qS rfl ⟨by simp, enc_one (vStr x), by (show (0 + 1) * 64 ≤ 140737488355328; omega), by (show 0 + 1 ≤ 9223372036854775807; omega)⟩ ?_) | refine yx ?_ | (refine yy ?_ ?_ <;> intro _) | exact zD | exact zL)
     refine go_stop ?_
     refine ⟨⟨i + 1, by omega⟩, by dsimp only; omega, ?_⟩
     dsimp only
     rw [hta, ho']
     exact (zren [0, 1, 2])
    | b :: q, hll =>
     dsimp only [rowK, rowO, List.append, HAppend.hAppend, Append.append]
     repeat' (first | refine yz ?_ | refine yi (.str x) hx ?_ | refine yp b33 s1 ?_ | (refine qS rfl ⟨by simp, enc_one (vStr x), by (show ((b :: q).length + 1) * 64 ≤ 140737488355328; omega), by (show (b :: q).length + 1 ≤ 9223372036854775807; omega)⟩ ?_) | refine yx ?_ | (refine yy ?_ ?_ <;> intro _) | exact zD | exact zL)
     refine go_stop ?_
     refine ⟨⟨i + 1, by omega⟩, by dsimp only; omega, ?_⟩
     dsimp only
     rw [hta, ho']
     exact (zren [0, 1, 3])
   ·have g1 : decide ((i : Int) < ((nd.labels.map D.str).length : Int)) = false := by rw [hll0]; simp; omega
    rw [List.take_of_length_le hge]
    match ho' : encL (nd.labels.map vStr), hL with
    | [], hL =>
     dsimp only [rowK, rowO, List.append, HAppend.hAppend, Append.append]
     repeat' (first | refine yz ?_ | refine yp b30 hL ?_ | refine yr [0] ?_ | refine yt [0] ?_ | refine yx ?_ | (refine yy ?_ ?_ <;> intro _) | exact zD | exact zL)
    | b :: q, hL =>
     dsimp only [rowK, rowO, List.append, HAppend.hAppend, Append.append]
     refine qA ?_
     refine go_frz 2 rfl ?_
     repeat' (first | refine yz ?_ | refine yp b30 hL ?_ | refine yr [0] ?_ | refine yt [0] ?_ | refine yx ?_ | (refine yy ?_ ?_ <;> intro _) | exact zD | exact zL)
 | false =>
 have c7' : (nm.toList == (⟨#[108, 97, 98, 101, 108, 115]⟩ : ByteArray).toList) = false := c7
 cases c8 : eqS nm nmSize with
 | true =>
  have c8' : (nm.toList == (⟨#[115, 105, 122, 101]⟩ : ByteArray).toList) = true := c8
  simp only [Bool.or_self, cond_false, cond_true]
  have z1 := size_ev a
  refine yd func106 ntmps106 fun _ _ _ _=>?_
  repeat' (first | refine yz ?_ | refine yi (enc a) hx0 ?_ | refine yp b158 z1 ?_ | refine yr [0] ?_ | refine yt [0] ?_ | refine yx ?_ | (refine yy ?_ ?_ <;> intro _) | exact zD | exact zL)
 | false =>
 have c8' : (nm.toList == (⟨#[115, 105, 122, 101]⟩ : ByteArray).toList) = false := c8
 cases c9 : eqS nm nmLength with
 | true =>
  have c9' : (nm.toList == (⟨#[108, 101, 110, 103, 116, 104]⟩ : ByteArray).toList) = true := c9
  simp only [Bool.true_or, Bool.or_true, Bool.false_or, Bool.or_false, Bool.or_self, cond_false, cond_true]
  have p1 := ofPath_ev nm a.l hal (narL_mem hnl)
  rw [← encL_kids] at p1
  cases k7 : a.k == 7
  all_goals
   refine yd func106 ntmps106 fun _ _ _ _=>?_
   repeat' (first | refine yz ?_ | refine yi (enc a) hx0 ?_ | refine yp b159 p1 ?_ | refine yp b32 null_ev ?_ | refine yr [0] ?_ | refine yt [0] ?_ | refine yx ?_ | (refine yy ?_ ?_ <;> intro _) | exact zD | exact zL)
 | false =>
 have c9' : (nm.toList == (⟨#[108, 101, 110, 103, 116, 104]⟩ : ByteArray).toList) = false := c9
 cases c10 : eqS nm nmNodes with
 | true =>
  have c10' : (nm.toList == (⟨#[110, 111, 100, 101, 115]⟩ : ByteArray).toList) = true := c10
  simp only [Bool.true_or, Bool.or_true, Bool.false_or, Bool.or_false, Bool.or_self, cond_false, cond_true]
  have p1 := ofPath_ev nm a.l hal (narL_mem hnl)
  rw [← encL_kids] at p1
  cases k7 : a.k == 7
  all_goals
   refine yd func106 ntmps106 fun _ _ _ _=>?_
   repeat' (first | refine yz ?_ | refine yi (enc a) hx0 ?_ | refine yp b159 p1 ?_ | refine yp b32 null_ev ?_ | refine yr [0] ?_ | refine yt [0] ?_ | refine yx ?_ | (refine yy ?_ ?_ <;> intro _) | exact zD | exact zL)
 | false =>
 have c10' : (nm.toList == (⟨#[110, 111, 100, 101, 115]⟩ : ByteArray).toList) = false := c10
 cases c11 : eqS nm nmEdges with
 | true =>
  have c11' : (nm.toList == (⟨#[101, 100, 103, 101, 115]⟩ : ByteArray).toList) = true := c11
  simp only [Bool.true_or, Bool.or_true, Bool.false_or, Bool.or_false, Bool.or_self, cond_false, cond_true]
  have p1 := ofPath_ev nm a.l hal (narL_mem hnl)
  rw [← encL_kids] at p1
  cases k7 : a.k == 7
  all_goals
   refine yd func106 ntmps106 fun _ _ _ _=>?_
   repeat' (first | refine yz ?_ | refine yi (enc a) hx0 ?_ | refine yp b159 p1 ?_ | refine yp b32 null_ev ?_ | refine yr [0] ?_ | refine yt [0] ?_ | refine yx ?_ | (refine yy ?_ ?_ <;> intro _) | exact zD | exact zL)
 | false =>
 have c11' : (nm.toList == (⟨#[101, 100, 103, 101, 115]⟩ : ByteArray).toList) = false := c11
 cases c12 : eqS nm nmFirst with
 | true =>
  have c12' : (nm.toList == (⟨#[102, 105, 114, 115, 116]⟩ : ByteArray).toList) = true := c12
  simp only [Bool.true_or, Bool.or_true, Bool.false_or, Bool.or_false, Bool.or_self, cond_false, cond_true]
  cases k8 : a.k == 8 with
  | false =>
   refine yd func106 ntmps106 fun _ _ _ _=>?_
   repeat' (first | refine yz ?_ | refine yi (enc a) hx0 ?_ | refine yp b32 null_ev ?_ | refine yr [0] ?_ | refine yt [0] ?_ | refine yx ?_ | (refine yy ?_ ?_ <;> intro _) | exact zD | exact zL)
  | true =>
   cases he : a.l with
   | nil =>
    have hk0 : kids a = [] := by rw [kids_eq, he]; rfl
    have g0 : decide (((kids a).length : Int) > 0) = false := by rw [hk0]; rfl
    refine yd func106 ntmps106 fun _ _ _ _=>?_
    repeat' (first | refine yz ?_ | refine yi (enc a) hx0 ?_ | refine yp b32 null_ev ?_ | refine yr [0] ?_ | refine yt [0] ?_ | refine yx ?_ | (refine yy ?_ ?_ <;> intro _) | exact zD | exact zL)
   | cons b q =>
    have hpos : 1 ≤ (kids a).length := by rw [hkl, he]; simp
    have g0 : decide (((kids a).length : Int) > 0) = true := by simp; omega
    have hb0 : (kids a)[(0 : Int).toNat]? = some (enc b) := kids_get (by rw [he]; rfl)
    refine yd func106 ntmps106 fun _ _ _ _=>?_
    repeat' (first | refine yz ?_ | refine yi (enc a) hx0 ?_ | refine yi (enc b) hb0 ?_ | refine yr [0] ?_ | refine yt [0] ?_ | refine yx ?_ | (refine yy ?_ ?_ <;> intro _) | exact zD | exact zL)
 | false =>
 have c12' : (nm.toList == (⟨#[102, 105, 114, 115, 116]⟩ : ByteArray).toList) = false := c12
 cases c13 : eqS nm nmLast with
 | true =>
  have c13' : (nm.toList == (⟨#[108, 97, 115, 116]⟩ : ByteArray).toList) = true := c13
  simp only [Bool.true_or, Bool.or_true, Bool.false_or, Bool.or_false, Bool.or_self, cond_false, cond_true]
  cases k8 : a.k == 8 with
  | false =>
   refine yd func106 ntmps106 fun _ _ _ _=>?_
   repeat' (first | refine yz ?_ | refine yi (enc a) hx0 ?_ | refine yp b32 null_ev ?_ | refine yr [0] ?_ | refine yt [0] ?_ | refine yx ?_ | (refine yy ?_ ?_ <;> intro _) | exact zD | exact zL)
  | true =>
   cases he : a.l with
   | nil =>
    have hk0 : kids a = [] := by rw [kids_eq, he]; rfl
    have g0 : decide (((kids a).length : Int) > 0) = false := by rw [hk0]; rfl
    refine yd func106 ntmps106 fun _ _ _ _=>?_
    repeat' (first | refine yz ?_ | refine yi (enc a) hx0 ?_ | refine yp b32 null_ev ?_ | refine yr [0] ?_ | refine yt [0] ?_ | refine yx ?_ | (refine yy ?_ ?_ <;> intro _) | exact zD | exact zL)
   | cons b q =>
    have hpos : 1 ≤ (kids a).length := by rw [hkl, he]; simp
    have g0 : decide (((kids a).length : Int) > 0) = true := by simp; omega
    have hbl : (kids a)[((((kids a).length : Int) - 1)).toNat]? = some (enc ((b :: q).getLastD vNull)) := by
     refine kids_get ?_
     rw [hkl, he, show (((b :: q).length : Int) - 1).toNat = (b :: q).length - 1 by simp, List.getLastD_cons]
     rw [← List.getLast?_eq_getElem?]
     simp [List.getLast?_cons]
    refine yd func106 ntmps106 fun _ _ _ _=>?_
    repeat' (first | refine yz ?_ | refine yi (enc a) hx0 ?_ | refine qI (enc ((b :: q).getLastD vNull)) rfl (guardX_ok rfl) rfl rfl rfl rfl rfl rfl (by first | omega | decide) hbl ?_ | refine yr [0] ?_ | refine yt [0] ?_ | refine yx ?_ | (refine yy ?_ ?_ <;> intro _) | exact zD | exact zL)
 | false =>
 have c13' : (nm.toList == (⟨#[108, 97, 115, 116]⟩ : ByteArray).toList) = false := c13
 simp only [Bool.or_self, cond_false]
 refine yd func106 ntmps106 fun _ _ _ _=>?_
 repeat' (first | refine yz ?_ | refine yi (enc a) hx0 ?_ | refine yp b32 null_ev ?_ | refine yr [0] ?_ | refine yt [0] ?_ | refine yx ?_ | (refine yy ?_ ?_ <;> intro _) | exact zD | exact zL)
def a1 (l : List V) : V := (l.drop 1).headD vNull
def apF (g : Gr) (env : List Bd) (op : Int) (v : V) (nm : ByteArray) (l : List V) : V :=
 bif op == 1 then v else bif op == 2 then varF env nm else bif op == 3 then propF g (a0 l) nm else
 bif op == 4 then (bif nodB g (a0 l) then vBool (hasF (nodF g (a0 l)).labels nm) else vNull) else
 bif op == 5 then vTruth (2 - kn (truthF (a0 l))) else
 bif op == 18 then vTruth (min (kn (truthF (a0 l))) (kn (truthF (a1 l)))) else bif op == 19 then vTruth (max (kn (truthF (a0 l))) (kn (truthF (a1 l)))) else
 bif op == 6 then (bif isNum (a0 l) then vRat (0 - numN (a0 l)) (numD (a0 l)) else vNull) else
 bif decide (7 ≤ op) && decide (op ≤ 11) then arF op (a0 l) (a1 l) else
 bif op == 21 then vBool ((a0 l).k == 0) else bif op == 22 then vList l else bif op == 23 then fnF g nm l else bif op == 24 then vNull else vTruth (cmpF op (a0 l) (a1 l))
def giv (v : V) : V := bif Val.okV v then v else vNull
theorem giv_ok (v : V) : Val.okV (giv v) = true := by
 unfold giv
 cases h : Val.okV v with
 | true => exact h
 | false => show Val.okV vNull = true; decide +kernel
def shp (op : Int) (n : Nat) : Prop := (1 ≤ op ∧ op ≤ 24) ∧ ((op = 3 ∨ op = 4 ∨ op = 5 ∨ op = 6 ∨ op = 21) → n = 1) ∧ ((7 ≤ op ∧ op ≤ 20) → n = 2) ∧ (op = 23 → 1 ≤ n)
theorem okN_nar : ∀ (m : Nat) (v : V), okN m v = true → nar v = true := by
 have hp : ∀ (k n d : Int) (s : ByteArray) (l : List V), okFlat (.mk k n d s l) = true → l = [] := by
  intro k n d s l h
  unfold okFlat at h
  simp only [V.l, Bool.or_eq_true, Bool.and_eq_true, beq_iff_eq] at h
  cases l with
  | nil => rfl
  | cons a r => simp at h
 have hstep : ∀ (l : List V) (i : Nat), okSteps i l = true → narL l = true := by
  intro l
  induction l with
  | nil => intro i _; rfl
  | cons a r ih =>
   intro i h
   simp only [okSteps, Bool.and_eq_true] at h
   obtain ⟨k, n, d, s, l⟩ := a
   have h2 : okFlat (.mk k n d s l) = true := by
    have := h.1
    unfold okStep at this
    rw [Bool.and_eq_true] at this
    exact this.2
   obtain rfl := hp k n d s l h2
   simp only [narL, Bool.and_eq_true]
   exact ⟨rfl, ih _ h.2⟩
 have hpath : ∀ l : List V, okPath l = true → decide (l.length ≤ 2000000) = true ∧ narL l = true := by
  intro l h
  unfold okPath at h
  simp only [Bool.and_eq_true, decide_eq_true_eq] at h
  exact ⟨by simp; omega, hstep l 0 h.2⟩
 intro m
 induction m with
 | zero =>
  rintro ⟨k, n, d, s, l⟩ h
  simp only [okN, Bool.or_eq_true, Bool.and_eq_true] at h
  simp only [nar, Bool.and_eq_true]
  rcases h with h | h
  ·obtain rfl := hp k n d s l h; exact ⟨rfl, rfl⟩
  ·exact hpath l h.2.2
 | succ m ih =>
  rintro ⟨k, n, d, s, l⟩ h
  simp only [okN, Bool.or_eq_true, Bool.and_eq_true] at h
  simp only [nar, Bool.and_eq_true]
  rcases h with (h | h) | h
  ·obtain rfl := hp k n d s l h; exact ⟨rfl, rfl⟩
  ·exact hpath l h.2.2
  ·obtain ⟨⟨-, h2⟩, h3⟩ := h.2
   refine ⟨?_, narL_of fun x hx => ih x (List.all_eq_true.1 h3 x hx)⟩
   have := of_decide_eq_true h2
   simp only [V.l] at this
   simp; omega
theorem okV_nar {v : V} (h : Val.okV v = true) : nar v = true := okN_nar 8 v h
set_option maxHeartbeats 4000000 in
theorem apply_1 (g : Gr) (env : List Bd) (v : V) (nm : ByteArray) (ds : Bool) (ks : List Ex) (l : List V) (hg : narG g) (henv : env.length ≤ 2000000) (hs : shp 1 l.length) (hlen : l.length ≤ 2000000) (hv : ∀ x ∈ l, Val.okV x = true) (hfn : (1 : Int) = 23 → fnOK nm l) :
  EvS E 160 [.ptr 0 0, .d (encE (.mk 1 v nm ds ks)), .d (.sl (encL l))] [evO g env] (.d (enc (apF g env 1 v nm l))) [evO g env] := by
 have hun : l.length = 1 → ∃ a, l = [a] := fun h => by
  match l, h with
  | [a], _ => exact ⟨a, rfl⟩
 have hbi : l.length = 2 → ∃ a b, l = [a, b] := fun h => by
  match l, h with
  | [a, b], _ => exact ⟨a, b, rfl⟩
 obtain ⟨-, hu, hb, -⟩ := hs
 rw [show apF g env 1 v nm l = v from rfl]
 refine yd func160 ntmps160 fun _ _ _ _=>?_
 repeat' (first | refine yz ?_ | refine yr [0] ?_ | refine yt [0] ?_ | refine yr [0] ?_ | refine yt [0] ?_ | refine yx ?_ | (refine yy ?_ ?_ <;> intro _) | exact zD | exact zL)
set_option maxHeartbeats 4000000 in
theorem apply_2 (g : Gr) (env : List Bd) (v : V) (nm : ByteArray) (ds : Bool) (ks : List Ex) (l : List V) (hg : narG g) (henv : env.length ≤ 2000000) (hs : shp 2 l.length) (hlen : l.length ≤ 2000000) (hv : ∀ x ∈ l, Val.okV x = true) (hfn : (2 : Int) = 23 → fnOK nm l) :
  EvS E 160 [.ptr 0 0, .d (encE (.mk 2 v nm ds ks)), .d (.sl (encL l))] [evO g env] (.d (enc (apF g env 2 v nm l))) [evO g env] := by
 have hun : l.length = 1 → ∃ a, l = [a] := fun h => by
  match l, h with
  | [a], _ => exact ⟨a, rfl⟩
 have hbi : l.length = 2 → ∃ a b, l = [a, b] := fun h => by
  match l, h with
  | [a, b], _ => exact ⟨a, b, rfl⟩
 obtain ⟨-, hu, hb, -⟩ := hs
 rw [show apF g env 2 v nm l = varF env nm from rfl]
 have h1 := variable_ev g env nm henv
 refine yd func160 ntmps160 fun _ _ _ _=>?_
 repeat' (first | refine yz ?_ | refine yc [0] b193 (h1) ?_ | refine yr [0] ?_ | refine yt [0] ?_ | refine yx ?_ | (refine yy ?_ ?_ <;> intro _) | exact zD | exact zL)
set_option maxHeartbeats 4000000 in
theorem apply_3 (g : Gr) (env : List Bd) (v : V) (nm : ByteArray) (ds : Bool) (ks : List Ex) (l : List V) (hg : narG g) (henv : env.length ≤ 2000000) (hs : shp 3 l.length) (hlen : l.length ≤ 2000000) (hv : ∀ x ∈ l, Val.okV x = true) (hfn : (3 : Int) = 23 → fnOK nm l) :
  EvS E 160 [.ptr 0 0, .d (encE (.mk 3 v nm ds ks)), .d (.sl (encL l))] [evO g env] (.d (enc (apF g env 3 v nm l))) [evO g env] := by
 have hun : l.length = 1 → ∃ a, l = [a] := fun h => by
  match l, h with
  | [a], _ => exact ⟨a, rfl⟩
 have hbi : l.length = 2 → ∃ a b, l = [a, b] := fun h => by
  match l, h with
  | [a, b], _ => exact ⟨a, b, rfl⟩
 obtain ⟨-, hu, hb, -⟩ := hs
 obtain ⟨a, rfl⟩ := hun (hu (by omega))
 have hx0 : (encL [a])[(0 : Int).toNat]? = some (enc a) := rfl
 have oa := hv a (by simp)
 rw [show apF g env 3 v nm [a] = propF g a nm from rfl]
 have h1 := prop_evS g env a nm hg
 refine yd func160 ntmps160 fun _ _ _ _=>?_
 repeat' (first | refine yq 7 [6,7] ?_ | refine yf 7 0 6 ?_ | refine yw ?_ | refine rgN ?_ | refine yv ?_ | refine yz ?_ | refine rgCallS [0] (id := 7) (i := 6) rfl rfl rfl rfl rfl (FnX.plain _) b194 (h1) rfl rfl rfl rfl rfl (by repeat (first | exact trivial | refine ⟨⟨rfl, rfl⟩, ?_⟩ | refine ⟨trivial, ?_⟩)) ?_ | refine yi (enc a) hx0 ?_ | refine yr [0] ?_ | refine yt [0] ?_ | refine yx ?_ | (refine yy ?_ ?_ <;> intro _) | exact zD | exact zL)
set_option maxHeartbeats 4000000 in
theorem apply_4 (g : Gr) (env : List Bd) (v : V) (nm : ByteArray) (ds : Bool) (ks : List Ex) (l : List V) (hg : narG g) (henv : env.length ≤ 2000000) (hs : shp 4 l.length) (hlen : l.length ≤ 2000000) (hv : ∀ x ∈ l, Val.okV x = true) (hfn : (4 : Int) = 23 → fnOK nm l) :
  EvS E 160 [.ptr 0 0, .d (encE (.mk 4 v nm ds ks)), .d (.sl (encL l))] [evO g env] (.d (enc (apF g env 4 v nm l))) [evO g env] := by
 have hun : l.length = 1 → ∃ a, l = [a] := fun h => by
  match l, h with
  | [a], _ => exact ⟨a, rfl⟩
 have hbi : l.length = 2 → ∃ a b, l = [a, b] := fun h => by
  match l, h with
  | [a, b], _ => exact ⟨a, b, rfl⟩
 obtain ⟨-, hu, hb, -⟩ := hs
 obtain ⟨a, rfl⟩ := hun (hu (by omega))
 have hx0 : (encL [a])[(0 : Int).toNat]? = some (enc a) := rfl
 have oa := hv a (by simp)
 rw [show apF g env 4 v nm [a] = bif nodB g a then vBool (hasF (nodF g a).labels nm) else vNull from rfl]
 have h1 := node_evS g env a hg
 have h2 := hasLabel_ev (nodF g a) nm
 have h3 := bool_ev (hasF (nodF g a).labels nm)
 cases hn : nodB g a <;> rw [hn] at h1
 all_goals
  refine yd func160 ntmps160 fun _ _ _ _=>?_
  repeat' (first | refine yz ?_ | refine yc [0] b157 (h1) ?_ | refine yi (enc a) hx0 ?_ | refine yp b195 h2 ?_ | refine yp b39 h3 ?_ | refine yp b32 null_ev ?_ | refine yr [0] ?_ | refine yt [0] ?_ | refine yx ?_ | (refine yy ?_ ?_ <;> intro _) | exact zD | exact zL)
set_option maxHeartbeats 4000000 in
theorem apply_5 (g : Gr) (env : List Bd) (v : V) (nm : ByteArray) (ds : Bool) (ks : List Ex) (l : List V) (hg : narG g) (henv : env.length ≤ 2000000) (hs : shp 5 l.length) (hlen : l.length ≤ 2000000) (hv : ∀ x ∈ l, Val.okV x = true) (hfn : (5 : Int) = 23 → fnOK nm l) :
  EvS E 160 [.ptr 0 0, .d (encE (.mk 5 v nm ds ks)), .d (.sl (encL l))] [evO g env] (.d (enc (apF g env 5 v nm l))) [evO g env] := by
 have hun : l.length = 1 → ∃ a, l = [a] := fun h => by
  match l, h with
  | [a], _ => exact ⟨a, rfl⟩
 have hbi : l.length = 2 → ∃ a b, l = [a, b] := fun h => by
  match l, h with
  | [a, b], _ => exact ⟨a, b, rfl⟩
 obtain ⟨-, hu, hb, -⟩ := hs
 obtain ⟨a, rfl⟩ := hun (hu (by omega))
 have hx0 : (encL [a])[(0 : Int).toNat]? = some (enc a) := rfl
 have oa := hv a (by simp)
 rw [show apF g env 5 v nm [a] = vTruth (2 - kn (truthF a)) from rfl]
 have t1 := Truth_ev ixOK a
 have t2 := not_ev (truthF a)
 have t3 := fromTruth_ev (2 - kn (truthF a))
 refine yd func160 ntmps160 fun _ _ _ _=>?_
 repeat' (first | refine yz ?_ | refine yi (enc a) hx0 ?_ | refine yp b198 t1 ?_ | refine yp b197 t2 ?_ | refine yp b196 t3 ?_ | refine yr [0] ?_ | refine yt [0] ?_ | refine yx ?_ | (refine yy ?_ ?_ <;> intro _) | exact zD | exact zL)
set_option maxHeartbeats 4000000 in
theorem apply_6 (g : Gr) (env : List Bd) (v : V) (nm : ByteArray) (ds : Bool) (ks : List Ex) (l : List V) (hg : narG g) (henv : env.length ≤ 2000000) (hs : shp 6 l.length) (hlen : l.length ≤ 2000000) (hv : ∀ x ∈ l, Val.okV x = true) (hfn : (6 : Int) = 23 → fnOK nm l) :
  EvS E 160 [.ptr 0 0, .d (encE (.mk 6 v nm ds ks)), .d (.sl (encL l))] [evO g env] (.d (enc (apF g env 6 v nm l))) [evO g env] := by
 have hun : l.length = 1 → ∃ a, l = [a] := fun h => by
  match l, h with
  | [a], _ => exact ⟨a, rfl⟩
 have hbi : l.length = 2 → ∃ a b, l = [a, b] := fun h => by
  match l, h with
  | [a, b], _ => exact ⟨a, b, rfl⟩
 obtain ⟨-, hu, hb, -⟩ := hs
 obtain ⟨a, rfl⟩ := hun (hu (by omega))
 have hx0 : (encL [a])[(0 : Int).toNat]? = some (enc a) := rfl
 have oa := hv a (by simp)
 rw [show apF g env 6 v nm [a] = bif isNum a then vRat (0 - numN a) (numD a) else vNull from rfl]
 have n1 := Number_ev ixOK a
 have r1 := rat_ev (0 - numN a) (numD a)
 cases hn : isNum a with
 | true =>
  rw [hn] at n1
  obtain ⟨-, f2, -⟩ := fval_inv (num_fval hn)
  refine yd func160 ntmps160 fun _ _ _ _=>?_
  repeat' (first | refine yz ?_ | refine yi (enc a) hx0 ?_ | refine yp b73 n1 ?_ | refine yp b29 r1 ?_ | refine yr [0] ?_ | refine yt [0] ?_ | refine yx ?_ | (refine yy ?_ ?_ <;> intro _) | exact zD | exact zL)
 | false =>
  rw [hn] at n1
  refine yd func160 ntmps160 fun _ _ _ _=>?_
  repeat' (first | refine yz ?_ | refine yi (enc a) hx0 ?_ | refine yp b73 n1 ?_ | refine yp b32 null_ev ?_ | refine yr [0] ?_ | refine yt [0] ?_ | refine yx ?_ | (refine yy ?_ ?_ <;> intro _) | exact zD | exact zL)
set_option maxHeartbeats 4000000 in
theorem apply_7 (g : Gr) (env : List Bd) (v : V) (nm : ByteArray) (ds : Bool) (ks : List Ex) (l : List V) (hg : narG g) (henv : env.length ≤ 2000000) (hs : shp 7 l.length) (hlen : l.length ≤ 2000000) (hv : ∀ x ∈ l, Val.okV x = true) (hfn : (7 : Int) = 23 → fnOK nm l) :
  EvS E 160 [.ptr 0 0, .d (encE (.mk 7 v nm ds ks)), .d (.sl (encL l))] [evO g env] (.d (enc (apF g env 7 v nm l))) [evO g env] := by
 have hun : l.length = 1 → ∃ a, l = [a] := fun h => by
  match l, h with
  | [a], _ => exact ⟨a, rfl⟩
 have hbi : l.length = 2 → ∃ a b, l = [a, b] := fun h => by
  match l, h with
  | [a, b], _ => exact ⟨a, b, rfl⟩
 obtain ⟨-, hu, hb, -⟩ := hs
 obtain ⟨a, b, rfl⟩ := hbi (hb (by omega))
 have hx0 : (encL [a, b])[(0 : Int).toNat]? = some (enc a) := rfl
 have hx1 : (encL [a, b])[(1 : Int).toNat]? = some (enc b) := rfl
 have oa := hv a (by simp)
 have ob := hv b (by simp)
 rw [show apF g env 7 v nm [a, b] = arF 7 a b from rfl]
 have h1 := arithmetic_ev 7 a b (by omega) oa ob
 refine yd func160 ntmps160 fun _ _ _ _=>?_
 repeat' (first | refine yq 29 [9] ?_ | refine yf 29 0 9 ?_ | refine yw ?_ | refine rgN ?_ | refine yv ?_ | refine yz ?_ | refine yi (enc a) hx0 ?_ | refine yi (enc b) hx1 ?_ | refine yp b200 h1 ?_ | refine yr [0] ?_ | refine yt [0] ?_ | refine yx ?_ | (refine yy ?_ ?_ <;> intro _) | exact zD | exact zL)
set_option maxHeartbeats 4000000 in
theorem apply_8 (g : Gr) (env : List Bd) (v : V) (nm : ByteArray) (ds : Bool) (ks : List Ex) (l : List V) (hg : narG g) (henv : env.length ≤ 2000000) (hs : shp 8 l.length) (hlen : l.length ≤ 2000000) (hv : ∀ x ∈ l, Val.okV x = true) (hfn : (8 : Int) = 23 → fnOK nm l) :
  EvS E 160 [.ptr 0 0, .d (encE (.mk 8 v nm ds ks)), .d (.sl (encL l))] [evO g env] (.d (enc (apF g env 8 v nm l))) [evO g env] := by
 have hun : l.length = 1 → ∃ a, l = [a] := fun h => by
  match l, h with
  | [a], _ => exact ⟨a, rfl⟩
 have hbi : l.length = 2 → ∃ a b, l = [a, b] := fun h => by
  match l, h with
  | [a, b], _ => exact ⟨a, b, rfl⟩
 obtain ⟨-, hu, hb, -⟩ := hs
 obtain ⟨a, b, rfl⟩ := hbi (hb (by omega))
 have hx0 : (encL [a, b])[(0 : Int).toNat]? = some (enc a) := rfl
 have hx1 : (encL [a, b])[(1 : Int).toNat]? = some (enc b) := rfl
 have oa := hv a (by simp)
 have ob := hv b (by simp)
 rw [show apF g env 8 v nm [a, b] = arF 8 a b from rfl]
 have h1 := arithmetic_ev 8 a b (by omega) oa ob
 refine yd func160 ntmps160 fun _ _ _ _=>?_
 repeat' (first | refine yq 29 [9] ?_ | refine yf 29 0 9 ?_ | refine yw ?_ | refine rgN ?_ | refine yv ?_ | refine yz ?_ | refine yi (enc a) hx0 ?_ | refine yi (enc b) hx1 ?_ | refine yp b200 h1 ?_ | refine yr [0] ?_ | refine yt [0] ?_ | refine yx ?_ | (refine yy ?_ ?_ <;> intro _) | exact zD | exact zL)
set_option maxHeartbeats 4000000 in
theorem apply_9 (g : Gr) (env : List Bd) (v : V) (nm : ByteArray) (ds : Bool) (ks : List Ex) (l : List V) (hg : narG g) (henv : env.length ≤ 2000000) (hs : shp 9 l.length) (hlen : l.length ≤ 2000000) (hv : ∀ x ∈ l, Val.okV x = true) (hfn : (9 : Int) = 23 → fnOK nm l) :
  EvS E 160 [.ptr 0 0, .d (encE (.mk 9 v nm ds ks)), .d (.sl (encL l))] [evO g env] (.d (enc (apF g env 9 v nm l))) [evO g env] := by
 have hun : l.length = 1 → ∃ a, l = [a] := fun h => by
  match l, h with
  | [a], _ => exact ⟨a, rfl⟩
 have hbi : l.length = 2 → ∃ a b, l = [a, b] := fun h => by
  match l, h with
  | [a, b], _ => exact ⟨a, b, rfl⟩
 obtain ⟨-, hu, hb, -⟩ := hs
 obtain ⟨a, b, rfl⟩ := hbi (hb (by omega))
 have hx0 : (encL [a, b])[(0 : Int).toNat]? = some (enc a) := rfl
 have hx1 : (encL [a, b])[(1 : Int).toNat]? = some (enc b) := rfl
 have oa := hv a (by simp)
 have ob := hv b (by simp)
 rw [show apF g env 9 v nm [a, b] = arF 9 a b from rfl]
 have h1 := arithmetic_ev 9 a b (by omega) oa ob
 refine yd func160 ntmps160 fun _ _ _ _=>?_
 repeat' (first | refine yq 29 [9] ?_ | refine yf 29 0 9 ?_ | refine yw ?_ | refine rgN ?_ | refine yv ?_ | refine yz ?_ | refine yi (enc a) hx0 ?_ | refine yi (enc b) hx1 ?_ | refine yp b200 h1 ?_ | refine yr [0] ?_ | refine yt [0] ?_ | refine yx ?_ | (refine yy ?_ ?_ <;> intro _) | exact zD | exact zL)
set_option maxHeartbeats 4000000 in
theorem apply_10 (g : Gr) (env : List Bd) (v : V) (nm : ByteArray) (ds : Bool) (ks : List Ex) (l : List V) (hg : narG g) (henv : env.length ≤ 2000000) (hs : shp 10 l.length) (hlen : l.length ≤ 2000000) (hv : ∀ x ∈ l, Val.okV x = true) (hfn : (10 : Int) = 23 → fnOK nm l) :
  EvS E 160 [.ptr 0 0, .d (encE (.mk 10 v nm ds ks)), .d (.sl (encL l))] [evO g env] (.d (enc (apF g env 10 v nm l))) [evO g env] := by
 have hun : l.length = 1 → ∃ a, l = [a] := fun h => by
  match l, h with
  | [a], _ => exact ⟨a, rfl⟩
 have hbi : l.length = 2 → ∃ a b, l = [a, b] := fun h => by
  match l, h with
  | [a, b], _ => exact ⟨a, b, rfl⟩
 obtain ⟨-, hu, hb, -⟩ := hs
 obtain ⟨a, b, rfl⟩ := hbi (hb (by omega))
 have hx0 : (encL [a, b])[(0 : Int).toNat]? = some (enc a) := rfl
 have hx1 : (encL [a, b])[(1 : Int).toNat]? = some (enc b) := rfl
 have oa := hv a (by simp)
 have ob := hv b (by simp)
 rw [show apF g env 10 v nm [a, b] = arF 10 a b from rfl]
 have h1 := arithmetic_ev 10 a b (by omega) oa ob
 refine yd func160 ntmps160 fun _ _ _ _=>?_
 repeat' (first | refine yq 29 [9] ?_ | refine yf 29 0 9 ?_ | refine yw ?_ | refine rgN ?_ | refine yv ?_ | refine yz ?_ | refine yi (enc a) hx0 ?_ | refine yi (enc b) hx1 ?_ | refine yp b200 h1 ?_ | refine yr [0] ?_ | refine yt [0] ?_ | refine yx ?_ | (refine yy ?_ ?_ <;> intro _) | exact zD | exact zL)
set_option maxHeartbeats 4000000 in
theorem apply_11 (g : Gr) (env : List Bd) (v : V) (nm : ByteArray) (ds : Bool) (ks : List Ex) (l : List V) (hg : narG g) (henv : env.length ≤ 2000000) (hs : shp 11 l.length) (hlen : l.length ≤ 2000000) (hv : ∀ x ∈ l, Val.okV x = true) (hfn : (11 : Int) = 23 → fnOK nm l) :
  EvS E 160 [.ptr 0 0, .d (encE (.mk 11 v nm ds ks)), .d (.sl (encL l))] [evO g env] (.d (enc (apF g env 11 v nm l))) [evO g env] := by
 have hun : l.length = 1 → ∃ a, l = [a] := fun h => by
  match l, h with
  | [a], _ => exact ⟨a, rfl⟩
 have hbi : l.length = 2 → ∃ a b, l = [a, b] := fun h => by
  match l, h with
  | [a, b], _ => exact ⟨a, b, rfl⟩
 obtain ⟨-, hu, hb, -⟩ := hs
 obtain ⟨a, b, rfl⟩ := hbi (hb (by omega))
 have hx0 : (encL [a, b])[(0 : Int).toNat]? = some (enc a) := rfl
 have hx1 : (encL [a, b])[(1 : Int).toNat]? = some (enc b) := rfl
 have oa := hv a (by simp)
 have ob := hv b (by simp)
 rw [show apF g env 11 v nm [a, b] = arF 11 a b from rfl]
 have h1 := arithmetic_ev 11 a b (by omega) oa ob
 refine yd func160 ntmps160 fun _ _ _ _=>?_
 repeat' (first | refine yq 29 [9] ?_ | refine yf 29 0 9 ?_ | refine yw ?_ | refine rgN ?_ | refine yv ?_ | refine yz ?_ | refine yi (enc a) hx0 ?_ | refine yi (enc b) hx1 ?_ | refine yp b200 h1 ?_ | refine yr [0] ?_ | refine yt [0] ?_ | refine yx ?_ | (refine yy ?_ ?_ <;> intro _) | exact zD | exact zL)
set_option maxHeartbeats 4000000 in
theorem apply_12 (g : Gr) (env : List Bd) (v : V) (nm : ByteArray) (ds : Bool) (ks : List Ex) (l : List V) (hg : narG g) (henv : env.length ≤ 2000000) (hs : shp 12 l.length) (hlen : l.length ≤ 2000000) (hv : ∀ x ∈ l, Val.okV x = true) (hfn : (12 : Int) = 23 → fnOK nm l) :
  EvS E 160 [.ptr 0 0, .d (encE (.mk 12 v nm ds ks)), .d (.sl (encL l))] [evO g env] (.d (enc (apF g env 12 v nm l))) [evO g env] := by
 have hun : l.length = 1 → ∃ a, l = [a] := fun h => by
  match l, h with
  | [a], _ => exact ⟨a, rfl⟩
 have hbi : l.length = 2 → ∃ a b, l = [a, b] := fun h => by
  match l, h with
  | [a, b], _ => exact ⟨a, b, rfl⟩
 obtain ⟨-, hu, hb, -⟩ := hs
 obtain ⟨a, b, rfl⟩ := hbi (hb (by omega))
 have hx0 : (encL [a, b])[(0 : Int).toNat]? = some (enc a) := rfl
 have hx1 : (encL [a, b])[(1 : Int).toNat]? = some (enc b) := rfl
 have oa := hv a (by simp)
 have ob := hv b (by simp)
 rw [show apF g env 12 v nm [a, b] = vTruth (cmpF 12 a b) from rfl]
 have h1 := compareE_ev 12 a b
 have h2 := fromTruth_ev (cmpF 12 a b)
 refine yd func160 ntmps160 fun _ _ _ _=>?_
 repeat' (first | refine yq 38 [10] ?_ | refine yf 38 0 10 ?_ | refine yw ?_ | refine rgN ?_ | refine yv ?_ | refine yz ?_ | refine yi (enc a) hx0 ?_ | refine yi (enc b) hx1 ?_ | refine yp b201 h1 ?_ | refine yp b196 h2 ?_ | refine yr [0] ?_ | refine yt [0] ?_ | refine yx ?_ | (refine yy ?_ ?_ <;> intro _) | exact zD | exact zL)
set_option maxHeartbeats 4000000 in
theorem apply_13 (g : Gr) (env : List Bd) (v : V) (nm : ByteArray) (ds : Bool) (ks : List Ex) (l : List V) (hg : narG g) (henv : env.length ≤ 2000000) (hs : shp 13 l.length) (hlen : l.length ≤ 2000000) (hv : ∀ x ∈ l, Val.okV x = true) (hfn : (13 : Int) = 23 → fnOK nm l) :
  EvS E 160 [.ptr 0 0, .d (encE (.mk 13 v nm ds ks)), .d (.sl (encL l))] [evO g env] (.d (enc (apF g env 13 v nm l))) [evO g env] := by
 have hun : l.length = 1 → ∃ a, l = [a] := fun h => by
  match l, h with
  | [a], _ => exact ⟨a, rfl⟩
 have hbi : l.length = 2 → ∃ a b, l = [a, b] := fun h => by
  match l, h with
  | [a, b], _ => exact ⟨a, b, rfl⟩
 obtain ⟨-, hu, hb, -⟩ := hs
 obtain ⟨a, b, rfl⟩ := hbi (hb (by omega))
 have hx0 : (encL [a, b])[(0 : Int).toNat]? = some (enc a) := rfl
 have hx1 : (encL [a, b])[(1 : Int).toNat]? = some (enc b) := rfl
 have oa := hv a (by simp)
 have ob := hv b (by simp)
 rw [show apF g env 13 v nm [a, b] = vTruth (cmpF 13 a b) from rfl]
 have h1 := compareE_ev 13 a b
 have h2 := fromTruth_ev (cmpF 13 a b)
 refine yd func160 ntmps160 fun _ _ _ _=>?_
 repeat' (first | refine yq 38 [10] ?_ | refine yf 38 0 10 ?_ | refine yw ?_ | refine rgN ?_ | refine yv ?_ | refine yz ?_ | refine yi (enc a) hx0 ?_ | refine yi (enc b) hx1 ?_ | refine yp b201 h1 ?_ | refine yp b196 h2 ?_ | refine yr [0] ?_ | refine yt [0] ?_ | refine yx ?_ | (refine yy ?_ ?_ <;> intro _) | exact zD | exact zL)
set_option maxHeartbeats 4000000 in
theorem apply_14 (g : Gr) (env : List Bd) (v : V) (nm : ByteArray) (ds : Bool) (ks : List Ex) (l : List V) (hg : narG g) (henv : env.length ≤ 2000000) (hs : shp 14 l.length) (hlen : l.length ≤ 2000000) (hv : ∀ x ∈ l, Val.okV x = true) (hfn : (14 : Int) = 23 → fnOK nm l) :
  EvS E 160 [.ptr 0 0, .d (encE (.mk 14 v nm ds ks)), .d (.sl (encL l))] [evO g env] (.d (enc (apF g env 14 v nm l))) [evO g env] := by
 have hun : l.length = 1 → ∃ a, l = [a] := fun h => by
  match l, h with
  | [a], _ => exact ⟨a, rfl⟩
 have hbi : l.length = 2 → ∃ a b, l = [a, b] := fun h => by
  match l, h with
  | [a, b], _ => exact ⟨a, b, rfl⟩
 obtain ⟨-, hu, hb, -⟩ := hs
 obtain ⟨a, b, rfl⟩ := hbi (hb (by omega))
 have hx0 : (encL [a, b])[(0 : Int).toNat]? = some (enc a) := rfl
 have hx1 : (encL [a, b])[(1 : Int).toNat]? = some (enc b) := rfl
 have oa := hv a (by simp)
 have ob := hv b (by simp)
 rw [show apF g env 14 v nm [a, b] = vTruth (cmpF 14 a b) from rfl]
 have h1 := compareE_ev 14 a b
 have h2 := fromTruth_ev (cmpF 14 a b)
 refine yd func160 ntmps160 fun _ _ _ _=>?_
 repeat' (first | refine yq 38 [10] ?_ | refine yf 38 0 10 ?_ | refine yw ?_ | refine rgN ?_ | refine yv ?_ | refine yz ?_ | refine yi (enc a) hx0 ?_ | refine yi (enc b) hx1 ?_ | refine yp b201 h1 ?_ | refine yp b196 h2 ?_ | refine yr [0] ?_ | refine yt [0] ?_ | refine yx ?_ | (refine yy ?_ ?_ <;> intro _) | exact zD | exact zL)
set_option maxHeartbeats 4000000 in
theorem apply_15 (g : Gr) (env : List Bd) (v : V) (nm : ByteArray) (ds : Bool) (ks : List Ex) (l : List V) (hg : narG g) (henv : env.length ≤ 2000000) (hs : shp 15 l.length) (hlen : l.length ≤ 2000000) (hv : ∀ x ∈ l, Val.okV x = true) (hfn : (15 : Int) = 23 → fnOK nm l) :
  EvS E 160 [.ptr 0 0, .d (encE (.mk 15 v nm ds ks)), .d (.sl (encL l))] [evO g env] (.d (enc (apF g env 15 v nm l))) [evO g env] := by
 have hun : l.length = 1 → ∃ a, l = [a] := fun h => by
  match l, h with
  | [a], _ => exact ⟨a, rfl⟩
 have hbi : l.length = 2 → ∃ a b, l = [a, b] := fun h => by
  match l, h with
  | [a, b], _ => exact ⟨a, b, rfl⟩
 obtain ⟨-, hu, hb, -⟩ := hs
 obtain ⟨a, b, rfl⟩ := hbi (hb (by omega))
 have hx0 : (encL [a, b])[(0 : Int).toNat]? = some (enc a) := rfl
 have hx1 : (encL [a, b])[(1 : Int).toNat]? = some (enc b) := rfl
 have oa := hv a (by simp)
 have ob := hv b (by simp)
 rw [show apF g env 15 v nm [a, b] = vTruth (cmpF 15 a b) from rfl]
 have h1 := compareE_ev 15 a b
 have h2 := fromTruth_ev (cmpF 15 a b)
 refine yd func160 ntmps160 fun _ _ _ _=>?_
 repeat' (first | refine yq 38 [10] ?_ | refine yf 38 0 10 ?_ | refine yw ?_ | refine rgN ?_ | refine yv ?_ | refine yz ?_ | refine yi (enc a) hx0 ?_ | refine yi (enc b) hx1 ?_ | refine yp b201 h1 ?_ | refine yp b196 h2 ?_ | refine yr [0] ?_ | refine yt [0] ?_ | refine yx ?_ | (refine yy ?_ ?_ <;> intro _) | exact zD | exact zL)
set_option maxHeartbeats 4000000 in
theorem apply_16 (g : Gr) (env : List Bd) (v : V) (nm : ByteArray) (ds : Bool) (ks : List Ex) (l : List V) (hg : narG g) (henv : env.length ≤ 2000000) (hs : shp 16 l.length) (hlen : l.length ≤ 2000000) (hv : ∀ x ∈ l, Val.okV x = true) (hfn : (16 : Int) = 23 → fnOK nm l) :
  EvS E 160 [.ptr 0 0, .d (encE (.mk 16 v nm ds ks)), .d (.sl (encL l))] [evO g env] (.d (enc (apF g env 16 v nm l))) [evO g env] := by
 have hun : l.length = 1 → ∃ a, l = [a] := fun h => by
  match l, h with
  | [a], _ => exact ⟨a, rfl⟩
 have hbi : l.length = 2 → ∃ a b, l = [a, b] := fun h => by
  match l, h with
  | [a, b], _ => exact ⟨a, b, rfl⟩
 obtain ⟨-, hu, hb, -⟩ := hs
 obtain ⟨a, b, rfl⟩ := hbi (hb (by omega))
 have hx0 : (encL [a, b])[(0 : Int).toNat]? = some (enc a) := rfl
 have hx1 : (encL [a, b])[(1 : Int).toNat]? = some (enc b) := rfl
 have oa := hv a (by simp)
 have ob := hv b (by simp)
 rw [show apF g env 16 v nm [a, b] = vTruth (cmpF 16 a b) from rfl]
 have h1 := compareE_ev 16 a b
 have h2 := fromTruth_ev (cmpF 16 a b)
 refine yd func160 ntmps160 fun _ _ _ _=>?_
 repeat' (first | refine yq 38 [10] ?_ | refine yf 38 0 10 ?_ | refine yw ?_ | refine rgN ?_ | refine yv ?_ | refine yz ?_ | refine yi (enc a) hx0 ?_ | refine yi (enc b) hx1 ?_ | refine yp b201 h1 ?_ | refine yp b196 h2 ?_ | refine yr [0] ?_ | refine yt [0] ?_ | refine yx ?_ | (refine yy ?_ ?_ <;> intro _) | exact zD | exact zL)
set_option maxHeartbeats 4000000 in
theorem apply_17 (g : Gr) (env : List Bd) (v : V) (nm : ByteArray) (ds : Bool) (ks : List Ex) (l : List V) (hg : narG g) (henv : env.length ≤ 2000000) (hs : shp 17 l.length) (hlen : l.length ≤ 2000000) (hv : ∀ x ∈ l, Val.okV x = true) (hfn : (17 : Int) = 23 → fnOK nm l) :
  EvS E 160 [.ptr 0 0, .d (encE (.mk 17 v nm ds ks)), .d (.sl (encL l))] [evO g env] (.d (enc (apF g env 17 v nm l))) [evO g env] := by
 have hun : l.length = 1 → ∃ a, l = [a] := fun h => by
  match l, h with
  | [a], _ => exact ⟨a, rfl⟩
 have hbi : l.length = 2 → ∃ a b, l = [a, b] := fun h => by
  match l, h with
  | [a, b], _ => exact ⟨a, b, rfl⟩
 obtain ⟨-, hu, hb, -⟩ := hs
 obtain ⟨a, b, rfl⟩ := hbi (hb (by omega))
 have hx0 : (encL [a, b])[(0 : Int).toNat]? = some (enc a) := rfl
 have hx1 : (encL [a, b])[(1 : Int).toNat]? = some (enc b) := rfl
 have oa := hv a (by simp)
 have ob := hv b (by simp)
 rw [show apF g env 17 v nm [a, b] = vTruth (cmpF 17 a b) from rfl]
 have h1 := compareE_ev 17 a b
 have h2 := fromTruth_ev (cmpF 17 a b)
 refine yd func160 ntmps160 fun _ _ _ _=>?_
 repeat' (first | refine yq 38 [10] ?_ | refine yf 38 0 10 ?_ | refine yw ?_ | refine rgN ?_ | refine yv ?_ | refine yz ?_ | refine yi (enc a) hx0 ?_ | refine yi (enc b) hx1 ?_ | refine yp b201 h1 ?_ | refine yp b196 h2 ?_ | refine yr [0] ?_ | refine yt [0] ?_ | refine yx ?_ | (refine yy ?_ ?_ <;> intro _) | exact zD | exact zL)
set_option maxHeartbeats 4000000 in
theorem apply_18 (g : Gr) (env : List Bd) (v : V) (nm : ByteArray) (ds : Bool) (ks : List Ex) (l : List V) (hg : narG g) (henv : env.length ≤ 2000000) (hs : shp 18 l.length) (hlen : l.length ≤ 2000000) (hv : ∀ x ∈ l, Val.okV x = true) (hfn : (18 : Int) = 23 → fnOK nm l) :
  EvS E 160 [.ptr 0 0, .d (encE (.mk 18 v nm ds ks)), .d (.sl (encL l))] [evO g env] (.d (enc (apF g env 18 v nm l))) [evO g env] := by
 have hun : l.length = 1 → ∃ a, l = [a] := fun h => by
  match l, h with
  | [a], _ => exact ⟨a, rfl⟩
 have hbi : l.length = 2 → ∃ a b, l = [a, b] := fun h => by
  match l, h with
  | [a, b], _ => exact ⟨a, b, rfl⟩
 obtain ⟨-, hu, hb, -⟩ := hs
 obtain ⟨a, b, rfl⟩ := hbi (hb (by omega))
 have hx0 : (encL [a, b])[(0 : Int).toNat]? = some (enc a) := rfl
 have hx1 : (encL [a, b])[(1 : Int).toNat]? = some (enc b) := rfl
 have oa := hv a (by simp)
 have ob := hv b (by simp)
 rw [show apF g env 18 v nm [a, b] = vTruth (min (kn (truthF a)) (kn (truthF b))) from rfl]
 have t1 := Truth_ev ixOK a
 have t2 := Truth_ev ixOK b
 have t3 := and_ev (truthF a) (truthF b)
 have t4 := fromTruth_ev (min (kn (truthF a)) (kn (truthF b)))
 refine yd func160 ntmps160 fun _ _ _ _=>?_
 repeat' (first | refine yq 16 [10] ?_ | refine yf 16 0 10 ?_ | refine yw ?_ | refine rgN ?_ | refine yv ?_ | refine yz ?_ | refine yi (enc a) hx0 ?_ | refine yi (enc b) hx1 ?_ | refine yp b198 t1 ?_ | refine yp b198 t2 ?_ | refine yp b115 t3 ?_ | refine yp b196 t4 ?_ | refine yr [0] ?_ | refine yt [0] ?_ | refine yx ?_ | (refine yy ?_ ?_ <;> intro _) | exact zD | exact zL)
set_option maxHeartbeats 4000000 in
theorem apply_19 (g : Gr) (env : List Bd) (v : V) (nm : ByteArray) (ds : Bool) (ks : List Ex) (l : List V) (hg : narG g) (henv : env.length ≤ 2000000) (hs : shp 19 l.length) (hlen : l.length ≤ 2000000) (hv : ∀ x ∈ l, Val.okV x = true) (hfn : (19 : Int) = 23 → fnOK nm l) :
  EvS E 160 [.ptr 0 0, .d (encE (.mk 19 v nm ds ks)), .d (.sl (encL l))] [evO g env] (.d (enc (apF g env 19 v nm l))) [evO g env] := by
 have hun : l.length = 1 → ∃ a, l = [a] := fun h => by
  match l, h with
  | [a], _ => exact ⟨a, rfl⟩
 have hbi : l.length = 2 → ∃ a b, l = [a, b] := fun h => by
  match l, h with
  | [a, b], _ => exact ⟨a, b, rfl⟩
 obtain ⟨-, hu, hb, -⟩ := hs
 obtain ⟨a, b, rfl⟩ := hbi (hb (by omega))
 have hx0 : (encL [a, b])[(0 : Int).toNat]? = some (enc a) := rfl
 have hx1 : (encL [a, b])[(1 : Int).toNat]? = some (enc b) := rfl
 have oa := hv a (by simp)
 have ob := hv b (by simp)
 rw [show apF g env 19 v nm [a, b] = vTruth (max (kn (truthF a)) (kn (truthF b))) from rfl]
 have t1 := Truth_ev ixOK a
 have t2 := Truth_ev ixOK b
 have t3 := or_ev (truthF a) (truthF b)
 have t4 := fromTruth_ev (max (kn (truthF a)) (kn (truthF b)))
 refine yd func160 ntmps160 fun _ _ _ _=>?_
 repeat' (first | refine yq 18 [10] ?_ | refine yf 18 0 10 ?_ | refine yw ?_ | refine rgN ?_ | refine yv ?_ | refine yz ?_ | refine yi (enc a) hx0 ?_ | refine yi (enc b) hx1 ?_ | refine yp b198 t1 ?_ | refine yp b198 t2 ?_ | refine yp b199 t3 ?_ | refine yp b196 t4 ?_ | refine yr [0] ?_ | refine yt [0] ?_ | refine yx ?_ | (refine yy ?_ ?_ <;> intro _) | exact zD | exact zL)
set_option maxHeartbeats 4000000 in
theorem apply_20 (g : Gr) (env : List Bd) (v : V) (nm : ByteArray) (ds : Bool) (ks : List Ex) (l : List V) (hg : narG g) (henv : env.length ≤ 2000000) (hs : shp 20 l.length) (hlen : l.length ≤ 2000000) (hv : ∀ x ∈ l, Val.okV x = true) (hfn : (20 : Int) = 23 → fnOK nm l) :
  EvS E 160 [.ptr 0 0, .d (encE (.mk 20 v nm ds ks)), .d (.sl (encL l))] [evO g env] (.d (enc (apF g env 20 v nm l))) [evO g env] := by
 have hun : l.length = 1 → ∃ a, l = [a] := fun h => by
  match l, h with
  | [a], _ => exact ⟨a, rfl⟩
 have hbi : l.length = 2 → ∃ a b, l = [a, b] := fun h => by
  match l, h with
  | [a, b], _ => exact ⟨a, b, rfl⟩
 obtain ⟨-, hu, hb, -⟩ := hs
 obtain ⟨a, b, rfl⟩ := hbi (hb (by omega))
 have hx0 : (encL [a, b])[(0 : Int).toNat]? = some (enc a) := rfl
 have hx1 : (encL [a, b])[(1 : Int).toNat]? = some (enc b) := rfl
 have oa := hv a (by simp)
 have ob := hv b (by simp)
 rw [show apF g env 20 v nm [a, b] = vTruth (cmpF 20 a b) from rfl]
 have h1 := compareE_ev 20 a b
 have h2 := fromTruth_ev (cmpF 20 a b)
 refine yd func160 ntmps160 fun _ _ _ _=>?_
 repeat' (first | refine yq 38 [10] ?_ | refine yf 38 0 10 ?_ | refine yw ?_ | refine rgN ?_ | refine yv ?_ | refine yz ?_ | refine yi (enc a) hx0 ?_ | refine yi (enc b) hx1 ?_ | refine yp b201 h1 ?_ | refine yp b196 h2 ?_ | refine yr [0] ?_ | refine yt [0] ?_ | refine yx ?_ | (refine yy ?_ ?_ <;> intro _) | exact zD | exact zL)
set_option maxHeartbeats 4000000 in
theorem apply_21 (g : Gr) (env : List Bd) (v : V) (nm : ByteArray) (ds : Bool) (ks : List Ex) (l : List V) (hg : narG g) (henv : env.length ≤ 2000000) (hs : shp 21 l.length) (hlen : l.length ≤ 2000000) (hv : ∀ x ∈ l, Val.okV x = true) (hfn : (21 : Int) = 23 → fnOK nm l) :
  EvS E 160 [.ptr 0 0, .d (encE (.mk 21 v nm ds ks)), .d (.sl (encL l))] [evO g env] (.d (enc (apF g env 21 v nm l))) [evO g env] := by
 have hun : l.length = 1 → ∃ a, l = [a] := fun h => by
  match l, h with
  | [a], _ => exact ⟨a, rfl⟩
 have hbi : l.length = 2 → ∃ a b, l = [a, b] := fun h => by
  match l, h with
  | [a, b], _ => exact ⟨a, b, rfl⟩
 obtain ⟨-, hu, hb, -⟩ := hs
 obtain ⟨a, rfl⟩ := hun (hu (by omega))
 have hx0 : (encL [a])[(0 : Int).toNat]? = some (enc a) := rfl
 have oa := hv a (by simp)
 rw [show apF g env 21 v nm [a] = vBool (a.k == 0) from rfl]
 have h1 := bool_ev (a.k == 0)
 refine yd func160 ntmps160 fun _ _ _ _=>?_
 repeat' (first | refine yz ?_ | refine yi (enc a) hx0 ?_ | refine yp b39 h1 ?_ | refine yr [0] ?_ | refine yt [0] ?_ | refine yx ?_ | (refine yy ?_ ?_ <;> intro _) | exact zD | exact zL)
set_option maxHeartbeats 4000000 in
theorem apply_22 (g : Gr) (env : List Bd) (v : V) (nm : ByteArray) (ds : Bool) (ks : List Ex) (l : List V) (hg : narG g) (henv : env.length ≤ 2000000) (hs : shp 22 l.length) (hlen : l.length ≤ 2000000) (hv : ∀ x ∈ l, Val.okV x = true) (hfn : (22 : Int) = 23 → fnOK nm l) :
  EvS E 160 [.ptr 0 0, .d (encE (.mk 22 v nm ds ks)), .d (.sl (encL l))] [evO g env] (.d (enc (apF g env 22 v nm l))) [evO g env] := by
 have hun : l.length = 1 → ∃ a, l = [a] := fun h => by
  match l, h with
  | [a], _ => exact ⟨a, rfl⟩
 have hbi : l.length = 2 → ∃ a b, l = [a, b] := fun h => by
  match l, h with
  | [a, b], _ => exact ⟨a, b, rfl⟩
 obtain ⟨-, hu, hb, -⟩ := hs
 rw [show apF g env 22 v nm l = vList l from rfl]
 have h1 := list_ev l (nar_list hlen fun x hx => okV_nar (hv x hx))
 refine yd func160 ntmps160 fun _ _ _ _=>?_
 repeat' (first | refine yz ?_ | refine yp b30 h1 ?_ | refine yr [0] ?_ | refine yt [0] ?_ | refine yx ?_ | (refine yy ?_ ?_ <;> intro _) | exact zD | exact zL)
set_option maxHeartbeats 4000000 in
theorem apply_23 (g : Gr) (env : List Bd) (v : V) (nm : ByteArray) (ds : Bool) (ks : List Ex) (l : List V) (hg : narG g) (henv : env.length ≤ 2000000) (hs : shp 23 l.length) (hlen : l.length ≤ 2000000) (hv : ∀ x ∈ l, Val.okV x = true) (hfn : (23 : Int) = 23 → fnOK nm l) :
  EvS E 160 [.ptr 0 0, .d (encE (.mk 23 v nm ds ks)), .d (.sl (encL l))] [evO g env] (.d (enc (apF g env 23 v nm l))) [evO g env] := by
 have hun : l.length = 1 → ∃ a, l = [a] := fun h => by
  match l, h with
  | [a], _ => exact ⟨a, rfl⟩
 have hbi : l.length = 2 → ∃ a b, l = [a, b] := fun h => by
  match l, h with
  | [a, b], _ => exact ⟨a, b, rfl⟩
 obtain ⟨-, hu, hb, -⟩ := hs
 rw [show apF g env 23 v nm l = fnF g nm l from rfl]
 have h1 := function_evS g env nm l hg (hfn rfl)
 refine yd func160 ntmps160 fun _ _ _ _=>?_
 repeat' (first | refine yq 35 [7,8] ?_ | refine yf 35 0 7 ?_ | refine yw ?_ | refine rgN ?_ | refine yv ?_ | refine yz ?_ | refine rgCallB [0] (id := 35) (i := 7) rfl rfl rfl rfl rfl rfl b106 (h1) rfl rfl rfl rfl rfl (by repeat (first | exact trivial | refine ⟨⟨rfl, rfl⟩, ?_⟩ | refine ⟨trivial, ?_⟩)) ?_ | refine yr [0] ?_ | refine yt [0] ?_ | refine yx ?_ | (refine yy ?_ ?_ <;> intro _) | exact zD | exact zL)
set_option maxHeartbeats 4000000 in
theorem apply_24 (g : Gr) (env : List Bd) (v : V) (nm : ByteArray) (ds : Bool) (ks : List Ex) (l : List V) (hg : narG g) (henv : env.length ≤ 2000000) (hs : shp 24 l.length) (hlen : l.length ≤ 2000000) (hv : ∀ x ∈ l, Val.okV x = true) (hfn : (24 : Int) = 23 → fnOK nm l) :
  EvS E 160 [.ptr 0 0, .d (encE (.mk 24 v nm ds ks)), .d (.sl (encL l))] [evO g env] (.d (enc (apF g env 24 v nm l))) [evO g env] := by
 have hun : l.length = 1 → ∃ a, l = [a] := fun h => by
  match l, h with
  | [a], _ => exact ⟨a, rfl⟩
 have hbi : l.length = 2 → ∃ a b, l = [a, b] := fun h => by
  match l, h with
  | [a, b], _ => exact ⟨a, b, rfl⟩
 obtain ⟨-, hu, hb, -⟩ := hs
 rw [show apF g env 24 v nm l = vNull from rfl]
 refine yd func160 ntmps160 fun _ _ _ _=>?_
 repeat' (first | refine yz ?_ | refine yp b32 null_ev ?_ | refine yr [0] ?_ | refine yt [0] ?_ | refine yx ?_ | (refine yy ?_ ?_ <;> intro _) | exact zD | exact zL)
theorem apply_evS (g : Gr) (env : List Bd) (op : Int) (v : V) (nm : ByteArray) (ds : Bool) (ks : List Ex) (l : List V) (hg : narG g) (henv : env.length ≤ 2000000) (hs : shp op l.length) (hlen : l.length ≤ 2000000) (hv : ∀ x ∈ l, Val.okV x = true) (hfn : op = 23 → fnOK nm l) :
  EvS E 160 [.ptr 0 0, .d (encE (.mk op v nm ds ks)), .d (.sl (encL l))] [evO g env] (.d (enc (apF g env op v nm l))) [evO g env] := by
 have hop : op = 1 ∨ op = 2 ∨ op = 3 ∨ op = 4 ∨ op = 5 ∨ op = 6 ∨ op = 7 ∨ op = 8 ∨ op = 9 ∨ op = 10 ∨ op = 11 ∨ op = 12 ∨ op = 13 ∨ op = 14 ∨ op = 15 ∨ op = 16 ∨ op = 17 ∨ op = 18 ∨ op = 19 ∨ op = 20 ∨ op = 21 ∨ op = 22 ∨ op = 23 ∨ op = 24 := by have := hs.1; omega
 rcases hop with rfl | rfl | rfl | rfl | rfl | rfl | rfl | rfl | rfl | rfl | rfl | rfl | rfl | rfl | rfl | rfl | rfl | rfl | rfl | rfl | rfl | rfl | rfl | rfl
 ·exact apply_1 g env v nm ds ks l hg henv hs hlen hv hfn
 ·exact apply_2 g env v nm ds ks l hg henv hs hlen hv hfn
 ·exact apply_3 g env v nm ds ks l hg henv hs hlen hv hfn
 ·exact apply_4 g env v nm ds ks l hg henv hs hlen hv hfn
 ·exact apply_5 g env v nm ds ks l hg henv hs hlen hv hfn
 ·exact apply_6 g env v nm ds ks l hg henv hs hlen hv hfn
 ·exact apply_7 g env v nm ds ks l hg henv hs hlen hv hfn
 ·exact apply_8 g env v nm ds ks l hg henv hs hlen hv hfn
 ·exact apply_9 g env v nm ds ks l hg henv hs hlen hv hfn
 ·exact apply_10 g env v nm ds ks l hg henv hs hlen hv hfn
 ·exact apply_11 g env v nm ds ks l hg henv hs hlen hv hfn
 ·exact apply_12 g env v nm ds ks l hg henv hs hlen hv hfn
 ·exact apply_13 g env v nm ds ks l hg henv hs hlen hv hfn
 ·exact apply_14 g env v nm ds ks l hg henv hs hlen hv hfn
 ·exact apply_15 g env v nm ds ks l hg henv hs hlen hv hfn
 ·exact apply_16 g env v nm ds ks l hg henv hs hlen hv hfn
 ·exact apply_17 g env v nm ds ks l hg henv hs hlen hv hfn
 ·exact apply_18 g env v nm ds ks l hg henv hs hlen hv hfn
 ·exact apply_19 g env v nm ds ks l hg henv hs hlen hv hfn
 ·exact apply_20 g env v nm ds ks l hg henv hs hlen hv hfn
 ·exact apply_21 g env v nm ds ks l hg henv hs hlen hv hfn
 ·exact apply_22 g env v nm ds ks l hg henv hs hlen hv hfn
 ·exact apply_23 g env v nm ds ks l hg henv hs hlen hv hfn
 ·exact apply_24 g env v nm ds ks l hg henv hs hlen hv hfn
mutual
def evF (g : Gr) (env : List Bd) : Ex → V
 | .mk op v nm _ ks => giv (apF g env op v nm (evL g env ks))
def evL (g : Gr) (env : List Bd) : List Ex → List V
 | [] => []
 | x :: r => evF g env x :: evL g env r
end
theorem evL_map (g : Gr) (env : List Bd) (l : List Ex) : evL g env l = l.map (evF g env) := by
 induction l with
 | nil => simp [evL]
 | cons v r ih => simp [evL, ih]
theorem evL_len (g : Gr) (env : List Bd) (l : List Ex) : (evL g env l).length = l.length := by rw [evL_map]; simp
theorem evL_ok (g : Gr) (env : List Bd) (l : List Ex) : ∀ x ∈ evL g env l, Val.okV x = true := by
 intro x hx
 rw [evL_map] at hx
 obtain ⟨e, -, rfl⟩ := List.mem_map.1 hx
 cases e
 simp only [evF]
 exact giv_ok _
mutual
def okE (g : Gr) (env : List Bd) : Ex → Prop
 | .mk op _ nm _ ks => shp op ks.length ∧ ks.length ≤ 2000000 ∧ (op = 23 → eqS nm nmText = true → (txt (a0 (evL g env ks))).length ≤ 1099511627776) ∧ okEL g env ks
def okEL (g : Gr) (env : List Bd) : List Ex → Prop
 | [] => True
 | x :: r => okE g env x ∧ okEL g env r
end
theorem okEL_mem {g : Gr} {env : List Bd} : ∀ {l : List Ex}, okEL g env l → ∀ x ∈ l, okE g env x
 | [], _, x, h => by simp at h
 | a :: r, h, x, hx => by
  simp only [okEL] at h
  rcases List.mem_cons.1 hx with rfl | hx
  ·exact h.1
  ·exact okEL_mem h.2 x hx
theorem fn_ok {g : Gr} {env : List Bd} {nm : ByteArray} {ks : List Ex} (h1 : 1 ≤ ks.length) (hl : ks.length ≤ 2000000) (ht : eqS nm nmText = true → (txt (a0 (evL g env ks))).length ≤ 1099511627776) : fnOK nm (evL g env ks) := by
 refine ⟨fun h => ?_, by rw [evL_len]; exact hl, fun x hx => okV_nar (evL_ok g env ks x hx), ht, ?_⟩
 ·have := congrArg List.length h
  rw [evL_len, List.length_nil] at this
  omega
 ·refine (nar_l (okV_nar ?_)).1
  unfold a0
  cases he : evL g env ks with
  | nil => decide +kernel
  | cons a r => exact evL_ok g env ks a (by rw [he]; simp)
theorem evL_take {g : Gr} {env : List Bd} {ks : List Ex} {i : Nat} {x : Ex} (h : ks[i]? = some x) : encL (evL g env (ks.take (i + 1))) = encL (evL g env (ks.take i)) ++ [enc (evF g env x)] := by
 have hi := (List.getElem?_eq_some_iff.1 h).1
 rw [List.take_succ_eq_append_getElem hi]
 rw [List.getElem?_eq_getElem hi] at h
 cases h
 simp only [evL_map, List.map_append, List.map_cons, List.map_nil, encL_map]
set_option maxHeartbeats 4000000 in
theorem value_evS (g : Gr) (env : List Bd) (hg : narG g) (henv : env.length ≤ 2000000) (e : Ex) : okE g env e → EvS E 108 [.ptr 0 0, .d (encE e)] [evO g env] (.d (enc (evF g env e))) [evO g env] := by
 refine xind (P := fun e => okE g env e → EvS E 108 [.ptr 0 0, .d (encE e)] [evO g env] (.d (enc (evF g env e))) [evO g env]) (fun op v nm ds ks ih hok => ?_) e
 simp only [okE] at hok
 obtain ⟨hs, hmax, htx, hks⟩ := hok
 have hlen : (kidsE (.mk op v nm ds ks)).length = ks.length := kidsE_len _
 have hkg : ∀ (i : Nat) (x : Ex), ks[i]? = some x → (kidsE (.mk op v nm ds ks))[(i : Int).toNat]? = some (encE x) := fun i x h => kidsE_get (e := .mk op v nm ds ks) (by rw [Int.toNat_natCast]; exact h)
 have hVal := Valid_ev ixOK (apF g env op v nm (evL g env ks))
 have hev : evF g env (.mk op v nm ds ks) = bif Val.okV (apF g env op v nm (evL g env ks)) then apF g env op v nm (evL g env ks) else vNull := by simp only [evF, giv]
 rw [hev]
 clear hev
 cases h24 : op != 24 with
 | false =>
  obtain rfl : op = 24 := by simpa using h24
  have hap := apply_evS g env 24 v nm ds ks [] hg henv ⟨by omega, by omega, by omega, by omega⟩ (by simp) (by simp) (by omega)
  rw [show apF g env 24 v nm [] = vNull from rfl] at hap
  rw [show apF g env 24 v nm (evL g env ks) = vNull from rfl] at hVal ⊢
  have ho : Val.okV vNull = true := by decide +kernel
  rw [ho] at hVal ⊢
  refine yd func108 ntmps108 fun _ _ _ _=>?_
  repeat' (first | refine yz ?_ | refine yc [0] b160 (hap) ?_ | refine yp b40 hVal ?_ | refine yr [0] ?_ | exact zD)
 | true =>
  have hap := apply_evS g env op v nm ds ks (evL g env ks) hg henv (by rw [evL_len]; exact hs) (by rw [evL_len]; exact hmax) (evL_ok g env ks) (fun h => fn_ok (hs.2.2.2 h) hmax (htx h))
  cases hv : Val.okV (apF g env op v nm (evL g env ks)) <;> rw [hv] at hVal
  all_goals
   refine yd func108 ntmps108 fun _ _ _ _=>?_
   repeat' (refine yz ?_)
   refine go_loop_ (α := Fin (ks.length + 1)) (fun p => ⟨[(0, .ptr 0 0), (3, .ptr 1 0), (4, .ptr 2 0), (5, rowK 3 (encL (evL g env (ks.take p.val)))), (13, .d (.sl (kidsE (.mk op v nm ds ks)))), (14, .d (.int (kidsE (.mk op v nm ds ks)).length)), (15, .d (.int p.val))], [evO g env, .var 52 (.w (.d (encE (.mk op v nm ds ks)))), zVal] ++ rowO 35 5 (encL (evL g env (ks.take p.val)))⟩) (fun p => ks.length - p.val) ⟨0, by omega⟩ (zle 3) ?_
   rintro ⟨i, hi⟩
   dsimp only
   rcases Nat.lt_or_ge i ks.length with hlt | hge
   ·have g1 : decide ((i : Int) < ((kidsE (.mk op v nm ds ks)).length : Int)) = true := by rw [hlen]; simpa using hlt
    have hx0 := List.getElem?_eq_getElem hlt
    generalize ks[i] = x at hx0
    have hx := hkg i x hx0
    have hcx := ih x (List.mem_of_getElem? hx0) (okEL_mem hks x (List.mem_of_getElem? hx0))
    have hta := evL_take (g := g) (env := env) hx0
    have hll : (encL (evL g env (ks.take i))).length ≤ i := by rw [encL_len, evL_len]; simp; omega
    match ho' : encL (evL g env (ks.take i)), hll with
    | [], hll =>
     dsimp only [rowK, rowO, List.append, HAppend.hAppend, Append.append]
     repeat' (first | refine yz ?_ | refine yi (encE x) hx ?_ | refine yc [0] b108 (hcx) ?_ | (refine qS rfl ⟨by simp, enc_one _, by (show (0 + 1) * 64 ≤ 140737488355328; omega), by (show 0 + 1 ≤ 9223372036854775807; omega)⟩ ?_))
     refine go_stop ?_
     refine ⟨⟨i + 1, by omega⟩, by dsimp only; omega, ?_⟩
     dsimp only
     rw [hta, ho']
     exact (zren [0, 1, 2, 4])
    | b :: q, hll =>
     dsimp only [rowK, rowO, List.append, HAppend.hAppend, Append.append]
     repeat' (first | refine yz ?_ | refine yi (encE x) hx ?_ | refine yc [0] b108 (hcx) ?_ | (refine qS rfl ⟨by simp, enc_one _, by (show ((b :: q).length + 1) * 64 ≤ 140737488355328; omega), by (show (b :: q).length + 1 ≤ 9223372036854775807; omega)⟩ ?_))
     refine go_stop ?_
     refine ⟨⟨i + 1, by omega⟩, by dsimp only; omega, ?_⟩
     dsimp only
     rw [hta, ho']
     exact (zren [0, 1, 2, 5])
   ·have g1 : decide ((i : Int) < ((kidsE (.mk op v nm ds ks)).length : Int)) = false := by rw [hlen]; simp; omega
    rw [List.take_of_length_le hge]
    match ho' : encL (evL g env ks), hap with
    | [], hap =>
     dsimp only [rowK, rowO, List.append, HAppend.hAppend, Append.append]
     repeat' (first | refine yz ?_ | refine yc [0] b160 (hap) ?_ | refine yp b40 hVal ?_ | refine yp b32 null_ev ?_ | refine yr [0] ?_ | exact zD)
    | b :: q, hap =>
     dsimp only [rowK, rowO, List.append, HAppend.hAppend, Append.append]
     refine qA ?_
     refine go_frz 3 rfl ?_
     repeat' (first | refine yz ?_ | refine yc [0] b160 (hap) ?_ | refine yp b40 hVal ?_ | refine yp b32 null_ev ?_ | refine yr [0] ?_ | exact zD)
end Go.Proofs.YtjgmakalledclaaGreatDoor
