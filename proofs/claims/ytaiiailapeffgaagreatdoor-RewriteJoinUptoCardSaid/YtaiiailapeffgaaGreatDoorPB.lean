/- The shape of a plan's operator, by the program; The shape of a plan's operator, by the program: all of it; Names of a plan's columns, by the program: words, and an underscore followed by a number; Check, by both texts; Check, by the program; A row of the caller's handed to a function over data, anywhere among its arguments; slices.Index at texts; Sort keys, UNWIND, items and conjunctive queries of a plan, checked by the program; Items of a plan, checked by the program; The variables of path patterns in the order in which they come, by the program; How many columns a plan has; The size and the . Conditions: each part's own, as it says. -/
import Derived.Test.YtaiiailapeffgaaGreatDoorCA
import Derived.Test.YtaiiailapeffgaaGreatDoorMA
import Derived.Test.YtaiiailapeffgaaGreatDoorGC
import Derived.Test.YtaiiailapeffgaaGreatDoorLA
import Derived.Test.YtaiiailapeffgaaGreatDoorMD
set_option linter.unusedVariables false
set_option linter.unusedSimpArgs false
namespace Go.Proofs.YtaiiailapeffgaaGreatDoor
set_option maxRecDepth 4000
open Go Go.Abs Go.Val Go.RowKit Go.Proofs.Tryz
attribute [local irreducible] go SGo an2 Ev aw0 EvO EvS RGo
theorem ey9 (v : V) : Ev E 170 [enc v] (.d (.bool (db6 v))) := by
 obtain ⟨k, n, d, s, l⟩ := v;have hk := bq2 (.mk k n d s l);simp only [V.l] at hk;refine ye1 func170 ntmps170 fun _ _ _=>?_
 repeat' (first | refine yz ?_ | refine yx ?_ | (refine yy ?_ ?_ <;> intro _) | (refine qV rfl ?_ ?_ <;> intro _) | exact zD | exact zL)
 all_goals (refine congrArg D.bool ?_; unfold db6; simp_all [l0, s0])
 all_goals (rw [fm5]; simp)
 all_goals omega
theorem ez0 (e : Ex) : Ev E 114 [cy3 e] (.d (.bool (dj7 e))) := by
 obtain ⟨op, v, nm, ds, ks⟩ := e;have hb := ey9 v;have hk := cy8 (.mk op v nm ds ks);simp only [Ex.ks] at hk;obtain ⟨bv, hbv⟩ : ∃ b, db6 v = b := ⟨_, rfl⟩;have hz : dj7 (.mk op v nm ds ks) = (op == 0 && (bv && (nm.toList == (⟨#[]⟩ : ByteArray).toList && (!ds && ks.length == 0)))) := by rw [← hbv]; rfl
 rw [hbv] at hb;refine ye1 func114 ntmps114 fun _ _ _=>?_
 repeat' (first | refine yz ?_ | refine yp b170 hb ?_ | refine yx ?_ | (refine yy ?_ ?_ <;> intro _) | (refine qV rfl ?_ ?_ <;> intro _) | exact zD | exact zL)
 all_goals (refine congrArg D.bool ?_; rw [hz]; clear hz hb hbv; simp_all [Ex.op, Ex.nm, Ex.ds])
 all_goals (rw [fm5]; simp)
 all_goals omega
def ez1 (c : CL) : Nat := c.ps.length + c.wh.length + c.it.length + c.od.length + c.st.length + c.ns.length
theorem ez2 (c : CL) : et9 c = (c.k == 0 && (!c.opt && (!c.ds && (ez1 c == 0 && (dj7 c.e && (s0B c.nm && (c.sk == 0 && c.lm == 0))))))) := by
 rw [fm5];unfold et9 ez1;simp only [fk3, beq_iff_eq, Bool.not_eq_true'];constructor
 ·rintro ⟨h1, h2, h3, h4, h5, h6, h7, h8, h9, h10, h11, h12, h13⟩;exact ⟨h1, h2, h3, by omega, h6, h7, h10, h11⟩
 ·rintro ⟨h1, h2, h3, h4, h5, h6, h7, h8⟩;exact ⟨h1, h2, h3, by omega, by omega, h5, h6, by omega, by omega, h7, h8, by omega, by omega⟩
set_option maxHeartbeats 2000000 in
theorem ez3 (c : CL) (hl : ez1 c ≤ 1000000000000) : Ev E 113 [dj1 c] (.d (.bool (et9 c))) := by
 have hb := ez0 c.e;rw [ez2];unfold ez1 at *;obtain ⟨k, opt, ds, ps, wh, e, nm, it, od, sk, lm, st, ns⟩ := c;simp only at hl hb ⊢;have l1 : (ps.map di7).length = ps.length := by simp
 have l2 : (cy2 wh).length = wh.length := cy9 wh;have l3 : (it.map di8).length = it.length := by simp
 have l4 : (od.map di9).length = od.length := by simp
 have l5 : (st.map dj0).length = st.length := by simp
 have l6 : (ns.map D.str).length = ns.length := by simp
 obtain ⟨ze, hze⟩ : ∃ b, dj7 e = b := ⟨_, rfl⟩;rw [hze] at hb ⊢
 have hsum : (((ps.map di7).length : Int) + ((cy2 wh).length : Int) + ((it.map di8).length : Int) + ((od.map di9).length : Int) + ((st.map dj0).length : Int) + ((ns.map D.str).length : Int) == 0) = (ps.length + wh.length + it.length + od.length + st.length + ns.length == 0) := by
  rw [fm5, beq_iff_eq, beq_iff_eq]; omega
 obtain ⟨zs, hzs⟩ : ∃ b, (ps.length + wh.length + it.length + od.length + st.length + ns.length == 0) = b := ⟨_, rfl⟩;have hs0 : (nm.toList == (⟨#[]⟩ : ByteArray).toList) = s0B nm := rfl;rw [hzs] at hsum ⊢;show Ev E 113 [.agg [.int k, .bool opt, .bool ds, .sl (ps.map di7), .sl (cy2 wh), .int e.op, .int e.v.k, .int e.v.n, .int e.v.d, .str e.v.s, .sl (kids e.v), .str e.nm, .bool e.ds, .sl (cy1 e), .str nm, .sl (it.map di8), .sl (od.map di9), .int sk, .int lm, .sl (st.map dj0), .sl (ns.map .str)]] _
 cases c1 : k == 0 with
 | false =>
  refine ye1 func113 ntmps113 fun _ _ _=>?_
  repeat' (first | refine yz ?_ | refine yx ?_ | (refine yy ?_ ?_ <;> intro _) | exact zD | exact zL)
 | true =>
 cases opt with
 | true =>
  refine ye1 func113 ntmps113 fun _ _ _=>?_
  repeat' (first | refine yz ?_ | refine yx ?_ | (refine yy ?_ ?_ <;> intro _) | exact zD | exact zL)
 | false =>
 cases ds with
 | true =>
  refine ye1 func113 ntmps113 fun _ _ _=>?_
  repeat' (first | refine yz ?_ | refine yx ?_ | (refine yy ?_ ?_ <;> intro _) | exact zD | exact zL)
 | false =>
 cases zs with
 | false =>
  refine ye1 func113 ntmps113 fun _ _ _=>?_
  repeat' (first | refine yz ?_ | refine yx ?_ | (refine yy ?_ ?_ <;> intro _) | exact zD | exact zL)
 | true =>
 cases ze with
 | false =>
  refine ye1 func113 ntmps113 fun _ _ _=>?_
  repeat' (first | refine yz ?_ | refine yp bt0 hb ?_ | refine yx ?_ | (refine yy ?_ ?_ <;> intro _) | exact zD | exact zL)
 | true =>
 cases c2 : s0B nm with
 | false =>
  have g2 : (nm.toList == (⟨#[]⟩ : ByteArray).toList) = false := c2;refine ye1 func113 ntmps113 fun _ _ _=>?_
  repeat' (first | refine yz ?_ | refine yp bt0 hb ?_ | refine yx ?_ | (refine yy ?_ ?_ <;> intro _) | exact zD | exact zL)
 | true =>
 have g2 : (nm.toList == (⟨#[]⟩ : ByteArray).toList) = true := c2
 cases c3 : sk == 0 with
 | false =>
  refine ye1 func113 ntmps113 fun _ _ _=>?_
  repeat' (first | refine yz ?_ | refine yp bt0 hb ?_ | refine yx ?_ | (refine yy ?_ ?_ <;> intro _) | exact zD | exact zL)
 | true =>
  refine ye1 func113 ntmps113 fun _ _ _=>?_
  repeat' (first | refine yz ?_ | refine yp bt0 hb ?_ | refine yx ?_ | (refine yy ?_ ?_ <;> intro _) | exact zD | exact zL)
abbrev shP (k : Int) (a b c d e f g : Bool) : D := .agg [.int k, .bool a, .bool b, .bool c, .bool d, .bool e, .bool f, .bool g]
def ez4 (op : Int) : D × Bool :=
 bif op == 1 then (shP 0 false false false false false false false, true) else
 bif op == 2 then (shP 0 true false false false false false false, true) else
 bif op == 3 || op == 4 then (shP 2 false false false false false false false, true) else
 bif op == 5 then (shP 1 false true false false false false false, true) else
 bif op == 6 then (shP 1 false false true false false false false, true) else
 bif op == 7 || op == 8 then (shP 1 false false false false true false false, true) else
 bif op == 9 then (shP 1 false false false false false false false, true) else
 bif op == 10 then (shP 1 false false false false false true false, true) else
 bif op == 11 then (shP 1 false false true true false false false, true) else (shP 0 false false false false false false false, false)
theorem ez5 (op : Int) : op = 1 ∨ op = 2 ∨ op = 3 ∨ op = 4 ∨ op = 5 ∨ op = 6 ∨ op = 7 ∨ op = 8 ∨ op = 9 ∨ op = 10 ∨ op = 11 ∨
  ((op == 1) = false ∧ (op == 2) = false ∧ (op == 3) = false ∧ (op == 4) = false ∧ (op == 5) = false ∧ (op == 6) = false ∧ (op == 7) = false ∧ (op == 8) = false ∧ (op == 9) = false ∧ (op == 10) = false ∧ (op == 11) = false) := by
 simp only [beq_eq_false_iff_ne];omega
theorem ez6 (op : Int) : Ev E 112 [.int op] (.tup [(ez4 op).1, .bool (ez4 op).2]) := by
 unfold ez4;rcases ez5 op with rfl | rfl | rfl | rfl | rfl | rfl | rfl | rfl | rfl | rfl | rfl | ⟨h1, h2, h3, h4, h5, h6, h7, h8, h9, h10, h11⟩
 all_goals (try rw [h1, h2, h3, h4, h5, h6, h7, h8, h9, h10, h11])
 all_goals
  refine ye1 func112 ntmps112 fun _ _ _=>?_
  repeat' (first | refine yz ?_ | refine yx ?_ | (refine yy ?_ ?_ <;> intro _) | exact zD | exact zL)
def FMp (op : Int) (b0 b1 b2 b3 b4 b5 b6 b7 b8 b9 b10 b11 : Bool) : Bool :=
 !b0 && (((op == 2 || !b1) && ((bif op == 5 then b9 else b2) && ((op == 6 || (op == 11 || b3)) && ((op == 11 || !b4) && (op == 7 || (op == 8 || !b5)))))) && (bif op == 10 then b10 && b11 else b6 && (b7 && b8)))
theorem ez7 (b : PB) (n : Nat) : eu0 b n = FMp b.op ((n : Int) != et8 b.op) (decide (((b.cj.vs.map D.str).length : Int) + ((b.cj.as.map eg7).length : Int) > 0)) (et9 b.cl) (dj7 b.e) (!(s0B b.nm)) (decide (((b.it.map di8).length : Int) > 0)) (((b.od.map di9).length : Int) == 0) (b.sk == 0) (b.lm == 0) (b.cl.k == 1) (decide (b.sk ≥ -1)) (decide (b.lm ≥ -1)) := by
 have e0 : (et8 b.op == (n : Int)) = !((n : Int) != et8 b.op) := by rw [fm5]; simp; exact ⟨fun h => h.symm, fun h => h.symm⟩
 have e1 : (b.cj.vs.length == 0 && b.cj.as.length == 0) = !(decide (((b.cj.vs.map D.str).length : Int) + ((b.cj.as.map eg7).length : Int) > 0)) := by
  rw [fm5]; simp only [fl4, fk3, beq_iff_eq, Bool.not_eq_true', decide_eq_false_iff_not]; omega
 have e2 : (b.it.length == 0) = !(decide (((b.it.map di8).length : Int) > 0)) := by
  rw [fm5]; simp only [fl4, beq_iff_eq, Bool.not_eq_true', decide_eq_false_iff_not]; omega
 have e3 : (b.od.length == 0) = (((b.od.map di9).length : Int) == 0) := by
  rw [fm5]; simp only [fl4, beq_iff_eq]; omega
 unfold eu0 fldF endF FMp;rw [e0, e1, e2, e3, Bool.not_not]
set_option maxHeartbeats 8000000 in
theorem ez8 (b : PB) (K : List D) (hK : K.length ≤ 1000000000000) (h1 : b.cj.vs.length + b.cj.as.length ≤ 1000000000000) (h2 : ez1 b.cl ≤ 1000000000000) : Ev E 65 [et3 b K] (.d (.bool (eu0 b K.length))) := by
 have hs := ez6 b.op;have hb := ez0 b.e;have hc := ez3 b.cl h2;rw [ez7];obtain ⟨op, cj, cl, e, nm, it, od, sk, lm⟩ := b;obtain ⟨vs, as28⟩ := cj;obtain ⟨ck, copt, cds, cps, cwh, ce, cnm, cit, cod, csk, clm, cst, cns⟩ := cl;simp only at hs hb hc h1 ⊢;have hlv : (vs.map D.str).length = vs.length := by simp
 have hla : (as28.map eg7).length = as28.length := by simp
 have g4 : (!(nm.toList == (⟨#[]⟩ : ByteArray).toList)) = !(s0B nm) := rfl;generalize dj7 e = ze at *;generalize et9 _ = zc at *;generalize s0B nm = zn at *
 show Ev E 65 [.agg [.int op, .sl K, .sl (vs.map D.str), .sl (as28.map eg7), .int ck, .bool copt, .bool cds, .sl (cps.map di7), .sl (cy2 cwh), .int ce.op, .int ce.v.k, .int ce.v.n, .int ce.v.d, .str ce.v.s, .sl (kids ce.v), .str ce.nm, .bool ce.ds, .sl (cy1 ce), .str cnm, .sl (cit.map di8), .sl (cod.map di9), .int csk, .int clm, .sl (cst.map dj0), .sl (cns.map .str),
  .int e.op, .int e.v.k, .int e.v.n, .int e.v.d, .str e.v.s, .sl (kids e.v), .str e.nm, .bool e.ds, .sl (cy1 e), .str nm, .sl (it.map di8), .sl (od.map di9), .int sk, .int lm]] _
 generalize vs.map D.str = LV at *;generalize as28.map eg7 = LA at *;generalize it.map di8 = LI at *;generalize od.map di9 = LO at *;rcases ez5 op with rfl | rfl | rfl | rfl | rfl | rfl | rfl | rfl | rfl | rfl | rfl | ⟨q1, q2, q3, q4, q5, q6, q7, q8, q9, q10, q11⟩
 rotate_right
 ·have hk : et8 op = -1 := by
   have : (decide (op ≥ 5) && decide (op ≤ 11)) = false := by
    rw [Bool.and_eq_false_iff, decide_eq_false_iff_not, decide_eq_false_iff_not];simp only [beq_eq_false_iff_ne] at *;omega
   unfold et8;rw [q1, q2, q3, q4, this]; rfl
  have hn : ((K.length : Int) != et8 op) = true := by rw [hk, bne_iff_ne]; omega
  have hf : (ez4 op).2 = false := by unfold ez4; rw [q1, q2, q3, q4, q5, q6, q7, q8, q9, q10, q11]; rfl
  have hf1 : (ez4 op).1 = shP 0 false false false false false false false := by unfold ez4; rw [q1, q2, q3, q4, q5, q6, q7, q8, q9, q10, q11]; rfl
  rw [hf, hf1] at hs;rw [hn];show Ev E 65 _ (.d (.bool false));refine ye1 func65 ntmps65 fun _ _ _=>?_
  repeat' (first | refine yz ?_ | refine yp bs8 hs ?_ | refine yx ?_ | (refine yy ?_ ?_ <;> intro _) | exact zD | exact zL)
 ·have hs : Ev E 112 [.int 1] (.tup [shP 0 false false false false false false false, .bool true]) := hs;generalize hb0 : ((K.length : Int) != et8 1) = b0;generalize hb1 : decide ((LV.length : Int) + (LA.length : Int) > 0) = b1;generalize hb5 : decide ((LI.length : Int) > 0) = b5;generalize hb6 : ((LO.length : Int) == 0) = b6;generalize hb7 : (sk == 0) = b7;generalize hb8 : (lm == 0) = b8;generalize hb9 : (ck == 1) = b9;generalize hb10 : decide (sk ≥ -1) = b10;generalize hb11 : decide (lm ≥ -1) = b11;have hb0 : ((K.length : Int) != 0) = b0 := hb0;refine ye1 func65 ntmps65 fun _ _ _=>?_
  repeat' (first | refine yz ?_ | refine yp bs8 hs ?_ | refine yp bt0 hb ?_ | refine yp bs9 hc ?_ | refine yx ?_ | (refine yy ?_ ?_ <;> intro _) | (refine qV rfl ?_ ?_ <;> intro _) | exact zD | exact zL)
  all_goals (refine congrArg D.bool ?_; clear hs hb hc; subst hb7 hb8 hb9 hb10 hb11; simp_all [FMp] <;> omega)
 ·have hs : Ev E 112 [.int 2] (.tup [shP 0 true false false false false false false, .bool true]) := hs;generalize hb0 : ((K.length : Int) != et8 2) = b0;generalize hb1 : decide ((LV.length : Int) + (LA.length : Int) > 0) = b1;generalize hb5 : decide ((LI.length : Int) > 0) = b5;generalize hb6 : ((LO.length : Int) == 0) = b6;generalize hb7 : (sk == 0) = b7;generalize hb8 : (lm == 0) = b8;generalize hb9 : (ck == 1) = b9;generalize hb10 : decide (sk ≥ -1) = b10;generalize hb11 : decide (lm ≥ -1) = b11;have hb0 : ((K.length : Int) != 0) = b0 := hb0;refine ye1 func65 ntmps65 fun _ _ _=>?_
  repeat' (first | refine yz ?_ | refine yp bs8 hs ?_ | refine yp bt0 hb ?_ | refine yp bs9 hc ?_ | refine yx ?_ | (refine yy ?_ ?_ <;> intro _) | (refine qV rfl ?_ ?_ <;> intro _) | exact zD | exact zL)
  all_goals (refine congrArg D.bool ?_; clear hs hb hc; subst hb7 hb8 hb9 hb10 hb11; simp_all [FMp] <;> omega)
 ·have hs : Ev E 112 [.int 3] (.tup [shP 2 false false false false false false false, .bool true]) := hs;generalize hb0 : ((K.length : Int) != et8 3) = b0;generalize hb1 : decide ((LV.length : Int) + (LA.length : Int) > 0) = b1;generalize hb5 : decide ((LI.length : Int) > 0) = b5;generalize hb6 : ((LO.length : Int) == 0) = b6;generalize hb7 : (sk == 0) = b7;generalize hb8 : (lm == 0) = b8;generalize hb9 : (ck == 1) = b9;generalize hb10 : decide (sk ≥ -1) = b10;generalize hb11 : decide (lm ≥ -1) = b11;have hb0 : ((K.length : Int) != 2) = b0 := hb0;refine ye1 func65 ntmps65 fun _ _ _=>?_
  repeat' (first | refine yz ?_ | refine yp bs8 hs ?_ | refine yp bt0 hb ?_ | refine yp bs9 hc ?_ | refine yx ?_ | (refine yy ?_ ?_ <;> intro _) | (refine qV rfl ?_ ?_ <;> intro _) | exact zD | exact zL)
  all_goals (refine congrArg D.bool ?_; clear hs hb hc; subst hb7 hb8 hb9 hb10 hb11; simp_all [FMp] <;> omega)
 ·have hs : Ev E 112 [.int 4] (.tup [shP 2 false false false false false false false, .bool true]) := hs;generalize hb0 : ((K.length : Int) != et8 4) = b0;generalize hb1 : decide ((LV.length : Int) + (LA.length : Int) > 0) = b1;generalize hb5 : decide ((LI.length : Int) > 0) = b5;generalize hb6 : ((LO.length : Int) == 0) = b6;generalize hb7 : (sk == 0) = b7;generalize hb8 : (lm == 0) = b8;generalize hb9 : (ck == 1) = b9;generalize hb10 : decide (sk ≥ -1) = b10;generalize hb11 : decide (lm ≥ -1) = b11;have hb0 : ((K.length : Int) != 2) = b0 := hb0;refine ye1 func65 ntmps65 fun _ _ _=>?_
  repeat' (first | refine yz ?_ | refine yp bs8 hs ?_ | refine yp bt0 hb ?_ | refine yp bs9 hc ?_ | refine yx ?_ | (refine yy ?_ ?_ <;> intro _) | (refine qV rfl ?_ ?_ <;> intro _) | exact zD | exact zL)
  all_goals (refine congrArg D.bool ?_; clear hs hb hc; subst hb7 hb8 hb9 hb10 hb11; simp_all [FMp] <;> omega)
 ·have hs : Ev E 112 [.int 5] (.tup [shP 1 false true false false false false false, .bool true]) := hs;generalize hb0 : ((K.length : Int) != et8 5) = b0;generalize hb1 : decide ((LV.length : Int) + (LA.length : Int) > 0) = b1;generalize hb5 : decide ((LI.length : Int) > 0) = b5;generalize hb6 : ((LO.length : Int) == 0) = b6;generalize hb7 : (sk == 0) = b7;generalize hb8 : (lm == 0) = b8;generalize hb9 : (ck == 1) = b9;generalize hb10 : decide (sk ≥ -1) = b10;generalize hb11 : decide (lm ≥ -1) = b11;have hb0 : ((K.length : Int) != 1) = b0 := hb0;refine ye1 func65 ntmps65 fun _ _ _=>?_
  repeat' (first | refine yz ?_ | refine yp bs8 hs ?_ | refine yp bt0 hb ?_ | refine yp bs9 hc ?_ | refine yx ?_ | (refine yy ?_ ?_ <;> intro _) | (refine qV rfl ?_ ?_ <;> intro _) | exact zD | exact zL)
  all_goals (refine congrArg D.bool ?_; clear hs hb hc; subst hb7 hb8 hb9 hb10 hb11; simp_all [FMp] <;> omega)
 ·have hs : Ev E 112 [.int 6] (.tup [shP 1 false false true false false false false, .bool true]) := hs;generalize hb0 : ((K.length : Int) != et8 6) = b0;generalize hb1 : decide ((LV.length : Int) + (LA.length : Int) > 0) = b1;generalize hb5 : decide ((LI.length : Int) > 0) = b5;generalize hb6 : ((LO.length : Int) == 0) = b6;generalize hb7 : (sk == 0) = b7;generalize hb8 : (lm == 0) = b8;generalize hb9 : (ck == 1) = b9;generalize hb10 : decide (sk ≥ -1) = b10;generalize hb11 : decide (lm ≥ -1) = b11;have hb0 : ((K.length : Int) != 1) = b0 := hb0;refine ye1 func65 ntmps65 fun _ _ _=>?_
  repeat' (first | refine yz ?_ | refine yp bs8 hs ?_ | refine yp bt0 hb ?_ | refine yp bs9 hc ?_ | refine yx ?_ | (refine yy ?_ ?_ <;> intro _) | (refine qV rfl ?_ ?_ <;> intro _) | exact zD | exact zL)
  all_goals (refine congrArg D.bool ?_; clear hs hb hc; subst hb7 hb8 hb9 hb10 hb11; simp_all [FMp] <;> omega)
 ·have hs : Ev E 112 [.int 7] (.tup [shP 1 false false false false true false false, .bool true]) := hs;generalize hb0 : ((K.length : Int) != et8 7) = b0;generalize hb1 : decide ((LV.length : Int) + (LA.length : Int) > 0) = b1;generalize hb5 : decide ((LI.length : Int) > 0) = b5;generalize hb6 : ((LO.length : Int) == 0) = b6;generalize hb7 : (sk == 0) = b7;generalize hb8 : (lm == 0) = b8;generalize hb9 : (ck == 1) = b9;generalize hb10 : decide (sk ≥ -1) = b10;generalize hb11 : decide (lm ≥ -1) = b11;have hb0 : ((K.length : Int) != 1) = b0 := hb0;refine ye1 func65 ntmps65 fun _ _ _=>?_
  repeat' (first | refine yz ?_ | refine yp bs8 hs ?_ | refine yp bt0 hb ?_ | refine yp bs9 hc ?_ | refine yx ?_ | (refine yy ?_ ?_ <;> intro _) | (refine qV rfl ?_ ?_ <;> intro _) | exact zD | exact zL)
  all_goals (refine congrArg D.bool ?_; clear hs hb hc; subst hb7 hb8 hb9 hb10 hb11; simp_all [FMp] <;> omega)
 ·have hs : Ev E 112 [.int 8] (.tup [shP 1 false false false false true false false, .bool true]) := hs;generalize hb0 : ((K.length : Int) != et8 8) = b0;generalize hb1 : decide ((LV.length : Int) + (LA.length : Int) > 0) = b1;generalize hb5 : decide ((LI.length : Int) > 0) = b5;generalize hb6 : ((LO.length : Int) == 0) = b6;generalize hb7 : (sk == 0) = b7;generalize hb8 : (lm == 0) = b8;generalize hb9 : (ck == 1) = b9;generalize hb10 : decide (sk ≥ -1) = b10;generalize hb11 : decide (lm ≥ -1) = b11;have hb0 : ((K.length : Int) != 1) = b0 := hb0;refine ye1 func65 ntmps65 fun _ _ _=>?_
  repeat' (first | refine yz ?_ | refine yp bs8 hs ?_ | refine yp bt0 hb ?_ | refine yp bs9 hc ?_ | refine yx ?_ | (refine yy ?_ ?_ <;> intro _) | (refine qV rfl ?_ ?_ <;> intro _) | exact zD | exact zL)
  all_goals (refine congrArg D.bool ?_; clear hs hb hc; subst hb7 hb8 hb9 hb10 hb11; simp_all [FMp] <;> omega)
 ·have hs : Ev E 112 [.int 9] (.tup [shP 1 false false false false false false false, .bool true]) := hs;generalize hb0 : ((K.length : Int) != et8 9) = b0;generalize hb1 : decide ((LV.length : Int) + (LA.length : Int) > 0) = b1;generalize hb5 : decide ((LI.length : Int) > 0) = b5;generalize hb6 : ((LO.length : Int) == 0) = b6;generalize hb7 : (sk == 0) = b7;generalize hb8 : (lm == 0) = b8;generalize hb9 : (ck == 1) = b9;generalize hb10 : decide (sk ≥ -1) = b10;generalize hb11 : decide (lm ≥ -1) = b11;have hb0 : ((K.length : Int) != 1) = b0 := hb0;refine ye1 func65 ntmps65 fun _ _ _=>?_
  repeat' (first | refine yz ?_ | refine yp bs8 hs ?_ | refine yp bt0 hb ?_ | refine yp bs9 hc ?_ | refine yx ?_ | (refine yy ?_ ?_ <;> intro _) | (refine qV rfl ?_ ?_ <;> intro _) | exact zD | exact zL)
  all_goals (refine congrArg D.bool ?_; clear hs hb hc; subst hb7 hb8 hb9 hb10 hb11; simp_all [FMp] <;> omega)
 ·have hs : Ev E 112 [.int 10] (.tup [shP 1 false false false false false true false, .bool true]) := hs;generalize hb0 : ((K.length : Int) != et8 10) = b0;generalize hb1 : decide ((LV.length : Int) + (LA.length : Int) > 0) = b1;generalize hb5 : decide ((LI.length : Int) > 0) = b5;generalize hb6 : ((LO.length : Int) == 0) = b6;generalize hb7 : (sk == 0) = b7;generalize hb8 : (lm == 0) = b8;generalize hb9 : (ck == 1) = b9;generalize hb10 : decide (sk ≥ -1) = b10;generalize hb11 : decide (lm ≥ -1) = b11;have hb0 : ((K.length : Int) != 1) = b0 := hb0;refine ye1 func65 ntmps65 fun _ _ _=>?_
  repeat' (first | refine yz ?_ | refine yp bs8 hs ?_ | refine yp bt0 hb ?_ | refine yp bs9 hc ?_ | refine yx ?_ | (refine yy ?_ ?_ <;> intro _) | (refine qV rfl ?_ ?_ <;> intro _) | exact zD | exact zL)
  all_goals (refine congrArg D.bool ?_; clear hs hb hc; subst hb7 hb8 hb9 hb10 hb11; simp_all [FMp] <;> omega)
 ·have hs : Ev E 112 [.int 11] (.tup [shP 1 false false true true false false false, .bool true]) := hs;generalize hb0 : ((K.length : Int) != et8 11) = b0;generalize hb1 : decide ((LV.length : Int) + (LA.length : Int) > 0) = b1;generalize hb5 : decide ((LI.length : Int) > 0) = b5;generalize hb6 : ((LO.length : Int) == 0) = b6;generalize hb7 : (sk == 0) = b7;generalize hb8 : (lm == 0) = b8;generalize hb9 : (ck == 1) = b9;generalize hb10 : decide (sk ≥ -1) = b10;generalize hb11 : decide (lm ≥ -1) = b11;have hb0 : ((K.length : Int) != 1) = b0 := hb0;refine ye1 func65 ntmps65 fun _ _ _=>?_
  repeat' (first | refine yz ?_ | refine yp bs8 hs ?_ | refine yp bt0 hb ?_ | refine yp bs9 hc ?_ | refine yx ?_ | (refine yy ?_ ?_ <;> intro _) | (refine qV rfl ?_ ?_ <;> intro _) | exact zD | exact zL)
  all_goals (refine congrArg D.bool ?_; clear hs hb hc; subst hb7 hb8 hb9 hb10 hb11; simp_all [FMp] <;> omega)
end Go.Proofs.YtaiiailapeffgaaGreatDoor
namespace Go.Proofs.YtaiiailapeffgaaGreatDoor
set_option maxRecDepth 4000
open Go Go.Abs Go.Val Go.RowKit Go.Shelf Go.Proofs.Tryz
def ez9 (s : ByteArray) : Ex := .mk 2 br5 s false []
theorem fa0 (s : ByteArray) : dp (ez9 s) = 1 := by rw [ez9, dd4]; rfl
theorem fa1 (s : ByteArray) : nd (ez9 s) = 1 := by rw [ez9, dc9]; rfl
theorem fa2 (s : ByteArray) : (di3 (ez9 s) == 0) = dg9 s := by
 have h1 : di3 (ez9 s) = dh5 (ez9 s) false := by
  unfold di3;rw [show decide (dp (ez9 s) > 24) = false by rw [decide_eq_false_iff_not]; have := fa0 s; omega, show decide (nd (ez9 s) > 300) = false by rw [decide_eq_false_iff_not]; have := fa1 s; omega];rfl
 have h2 : dh4 (ez9 s) false = bif !(dg9 s) then 6 else 0 := by
  unfold dh4
  rw [show ((decide ((ez9 s).op < 1) || decide ((ez9 s).op > 24)) || (!db9 (ez9 s) || !dc5 (ez9 s))) = false by
   show ((false || false) || (!(kn0 (ez9 s) == 0) || !((false || db6 br5) && ((dc3 2 || isS s ⟨#[]⟩) && (false || !false))))) = false;rw [show (kn0 (ez9 s) == 0) = true from rfl, show db6 br5 = true from by decide +kernel, show dc3 2 = true from rfl];rfl]
  rfl
 rw [h1];show (dh5 (.mk 2 br5 s false []) false == 0) = _;rw [dh5];show ((bif dh4 (ez9 s) false != 0 then dh4 (ez9 s) false else dh6 [] _) == 0) = _;rw [h2]
 cases dg9 s <;> rfl
attribute [local irreducible] go SGo an2 Ev aw0 EvO EvS RGo
theorem fa3 (s : ByteArray) : Ev E 116 [.str s] (.d (.bool (dg9 s))) := by
 have h := di4 (ez9 s) (by rw [fa0]; decide) (by rw [fa1]; decide);have hc := fa2 s;generalize di3 (ez9 s) = z at *;rw [← hc];refine ye1 func116 ntmps116 fun _ _ _=>?_
 repeat' (first | refine yz ?_ | refine yp b26 h ?_ | refine yx ?_ | (refine yy ?_ ?_ <;> intro _) | exact zD | exact zL)
end Go.Proofs.YtaiiailapeffgaaGreatDoor
namespace Go.Proofs.YtaiiailapeffgaaGreatDoor
set_option maxRecDepth 4000
open Go Go.Abs Go.Val Go.Proofs.Tryz
attribute [local irreducible] go SGo an2 Ev aw0 EvO EvS PGo RGo cm0
open Go.RowKit
end Go.Proofs.YtaiiailapeffgaaGreatDoor
namespace Go.Proofs.YtaiiailapeffgaaGreatDoor
set_option maxRecDepth 4000
open Go Go.Abs Go.Val Go.RowKit Go.Sort Go.Proofs Go.Proofs.Tryz
end Go.Proofs.YtaiiailapeffgaaGreatDoor
namespace Go.Proofs.YtaiiailapeffgaaGreatDoor
set_option maxRecDepth 4000
open Go Go.Abs Go.Val Go.RowKit Go.Proofs.Tryz
attribute [local irreducible] go SGo an2 Ev aw0 EvO EvS RGo PGo
abbrev smE (e : Ex) : Prop := nd e ≤ 1000000
theorem fa4 {e : Ex} (h : smE e) : dp e ≤ 1000000 := by have h' : nd e ≤ 1000000 := h; have := dv3 e; omega
theorem fa5 (b : PB) (K : List D) (cols : List ByteArray) (hs : smE b.e) : Ev E 73 [et3 b K, .sl (cols.map .str)] (.d (.int (eu7 b cols))) := by
 have h1 := di4 b.e (fa4 hs) hs;have h2 := fa3 b.nm;have h3 := en2 b.e cols hs;have h4 := dl3 b.e;have h5 := cw6 cols b.nm;unfold eu7
 cases hz : di3 b.e != 0 with
 | true =>
  rw [cond_true];generalize di3 b.e = z at *;refine ye2 func73 ntmps73 fun _ _ _=>?_
  repeat' (first | refine yz ?_ | refine yp b26 h1 ?_ | refine yx ?_ | (refine yy ?_ ?_ <;> intro _) | exact zD | exact zL)
 | false =>
 have h0 : di3 b.e = 0 := by simpa using hz
 rw [h0] at h1;rw [cond_false];clear hz h0;generalize em6 b.e cols = kn at *;generalize dj2 b.e = ha at *;generalize cv9 cols b.nm = hc at *
 cases hw : dg9 b.nm with
 | false =>
  rw [hw] at h2;refine ye2 func73 ntmps73 fun _ _ _=>?_
  repeat' (first | refine yz ?_ | refine yp b26 h1 ?_ | refine yp bt1 h2 ?_ | refine yx ?_ | (refine yy ?_ ?_ <;> intro _) | exact zD | exact zL)
 | true =>
 rw [hw] at h2
 cases kn with
 | false =>
  refine ye2 func73 ntmps73 fun _ _ _=>?_
  repeat' (first | refine yz ?_ | refine yp b26 h1 ?_ | refine yp bt1 h2 ?_ | refine yp bt3 h3 ?_ | refine yx ?_ | (refine yy ?_ ?_ <;> intro _) | exact zD | exact zL)
 | true =>
 cases ha with
 | true =>
  refine ye2 func73 ntmps73 fun _ _ _=>?_
  repeat' (first | refine yz ?_ | refine yp b26 h1 ?_ | refine yp bt1 h2 ?_ | refine yp bt3 h3 ?_ | refine yp bt4 h4 ?_ | refine yx ?_ | (refine yy ?_ ?_ <;> intro _) | exact zD | exact zL)
 | false =>
 cases hc with
 | true =>
  refine ye2 func73 ntmps73 fun _ _ _=>?_
  repeat' (first | refine yz ?_ | refine yp b26 h1 ?_ | refine yp bt1 h2 ?_ | refine yp bt3 h3 ?_ | refine yp bt4 h4 ?_ | refine yp bt2 h5 ?_ | refine yx ?_ | (refine yy ?_ ?_ <;> intro _) | exact zD | exact zL)
 | false =>
  refine ye2 func73 ntmps73 fun _ _ _=>?_
  repeat' (first | refine yz ?_ | refine yp b26 h1 ?_ | refine yp bt1 h2 ?_ | refine yp bt3 h3 ?_ | refine yp bt4 h4 ?_ | refine yp bt2 h5 ?_ | refine yx ?_ | (refine yy ?_ ?_ <;> intro _) | exact zD | exact zL)
def adds (l : List ByteArray) (ns : List ByteArray) : List ByteArray := ns.foldl eu2 l
theorem fa6 : ∀ (ns l : List ByteArray), (adds l ns).length ≤ l.length + ns.length
 | [], l => by simp [adds]
 | s :: r, l => by
  have h1 := fa6 r (eu2 l s);have h2 : (eu2 l s).length ≤ l.length + 1 := by unfold eu2; cases s0B s || cv9 l s <;> simp
  show (adds (eu2 l s) r).length ≤ _;simp only [fk5]; omega
theorem fa7 (l : List ByteArray) (s : ByteArray) : (l ++ [s]).map D.str = l.map D.str ++ [.str s] := by simp
end Go.Proofs.YtaiiailapeffgaaGreatDoor
namespace Go.Proofs.YtaiiailapeffgaaGreatDoor
set_option maxRecDepth 4000
open Go Go.Abs Go.Val Go.RowKit Go.Proofs.Tryz
def cwB (b : PB) : Nat := b.cj.vs.length + (eu3 b.cl.ps).length + b.it.length + 1
mutual
def cwP : Pl → Nat
 | .mk b ks => cwB b + fa8 ks
def fa8 : List Pl → Nat
 | [] => 0
 | p :: r => cwP p + fa8 r
end
theorem fa9 : ∀ {l : List Pl} {p : Pl}, p ∈ l → cwP p ≤ fa8 l
 | [], _, h => by cases h
 | a :: r, p, h => by
  rw [fa8];rcases fl1.1 h with rfl | h
  ·omega
  ·have := fa9 h; omega
def lnS : List (List ByteArray) → Nat
 | [] => 0
 | c :: r => c.length + lnS r
theorem fb0 (a b : List ByteArray) : (eu1 a b).length ≤ a.length + b.length := by
 unfold eu1;have := fs0 (fun s => !(cv9 a s)) b;rw [fl8];omega
theorem fb1 : ∀ cols : List (List ByteArray), (cols.getD 0 []).length + (cols.getD 1 []).length ≤ lnS cols
 | [] => fk9 _
 | [c] => by show c.length + 0 ≤ c.length + 0; omega
 | c :: d :: r => by show c.length + d.length ≤ c.length + (d.length + lnS r); omega
theorem fb2 (l : List PA) : (eu4 l).length ≤ (eu3 l).length := by
 have h := fa6 (eu3 l) [];unfold adds at h;simp only [fm6] at h;unfold eu4;omega
theorem fb3 (g : Bool) (cols : List ByteArray) (l : List IT) : (eu6 g cols l []).1.length ≤ l.length := by
 by_cases h : (eu6 g cols l []).2 = 0
 ·rw [ey8 g cols l [] h, fr2, fl4];exact fk9 _
 ·rw [ey4 g cols l [] h];exact fm7 _
theorem fb4 (e : Int) (c : List ByteArray) : (eu8 e c).1.length ≤ c.length := by
 unfold eu8
 cases e != 0 with
 | true => exact fm7 _
 | false => exact fk9 _
theorem fb5 (b : PB) (cols : List (List ByteArray)) : (eu9 b cols).1.length ≤ cwB b + lnS cols := by
 have h2 := fb1 cols;have hv := fb2 b.cl.ps;unfold cwB;unfold eu9
 cases eu0 b cols.length with
 | false => exact fm7 _
 | true =>
 rw [fp3, cond_false]
 cases b.op == 1 with
 | true => exact fm7 _
 | false =>
 rw [cond_false]
 cases b.op == 2 with
 | true =>
  rw [cond_true];unfold mltF
  cases chkC b.cj != 0 with
  | true => exact fm7 _
  | false =>
   cases b.cj.vs.all fun s => dg9 s || unnF s with
   | true => show b.cj.vs.length ≤ _; omega
   | false => exact fm7 _
 | false =>
 rw [cond_false]
 cases b.op == 3 || b.op == 4 with
 | true => have := fb0 (cols.getD 0 []) (cols.getD 1 []); show (eu1 _ _).length ≤ _; omega
 | false =>
 rw [cond_false]
 cases b.op == 5 with
 | true =>
  rw [cond_true];have := fb0 (cols.getD 0 []) (eu4 b.cl.ps);unfold aplF
  cases dk0 b.cl != 0 with
  | true => exact fm7 _
  | false =>
  cases !((prxF b.cl.ps).all fun e => em6 e (cols.getD 0 [])) with
  | true => exact fm7 _
  | false =>
  cases !(b.cl.wh.all fun e => em6 e (eu1 (cols.getD 0 []) (eu4 b.cl.ps))) with
  | true => exact fm7 _
  | false =>
  cases b.cl.wh.any dj2 with
  | true => exact fm7 _
  | false => show (eu1 _ _).length ≤ _; omega
 | false =>
 rw [cond_false]
 cases b.op == 6 with
 | true => have := fb4 (em7 b.e (cols.getD 0 [])) (cols.getD 0 []); rw [cond_true]; omega
 | false =>
 rw [cond_false]
 cases b.op == 7 || b.op == 8 with
 | true =>
  rw [cond_true];have := fb3 (b.op == 8) (cols.getD 0 []) b.it
  cases decide (b.it.length > 24) with
  | true => exact fm7 _
  | false => rw [cond_false]; omega
 | false =>
 rw [cond_false]
 cases b.op == 9 with
 | true => show (cols.getD 0 []).length ≤ _; omega
 | false =>
 rw [cond_false]
 cases b.op == 10 with
 | true => have := fb4 (sotF (cols.getD 0 []) b.od) (cols.getD 0 []); rw [cond_true]; omega
 | false =>
  have := fb4 (eu7 b (cols.getD 0 [])) (cols.getD 0 [] ++ [b.nm]);rw [fl8, fk5, fm6] at this;rw [cond_false];omega
theorem fb6 (p : Pl) : (ev0 p).1.length ≤ cwP p := by
 refine et2 (P := fun p => (ev0 p).1.length ≤ cwP p) (fun b ks ih => ?_) p
 have key : ∀ l : List Pl, (∀ x ∈ l, (ev0 x).1.length ≤ cwP x) → lnS (ev1 l).1 ≤ fa8 l := by
  intro l
  induction l with
  | nil => intro _; exact fk9 _
  | cons a r ihr =>
   intro h;have h1 := h a (by simp);have h2 := ihr fun x hx => h x (by simp [hx])
   rw [ev1, fa8]
   cases (ev0 a).2 != 0 with
   | true => exact fm7 _
   | false =>
    cases (ev1 r).2 != 0 with
    | true => exact fm7 _
    | false => show (ev0 a).1.length + lnS (ev1 r).1 ≤ _; omega
 have hk := key ks ih;rw [ev0, cwP]
 cases (ev1 ks).2 != 0 with
 | true => exact fm7 _
 | false =>
  have := fb5 b (ev1 ks).1;rw [cond_false];omega
end Go.Proofs.YtaiiailapeffgaaGreatDoor
namespace Go.Proofs.YtaiiailapeffgaaGreatDoor
set_option maxRecDepth 4000
open Go Go.Abs Go.Val Go.RowKit Go.Proofs.Tryz
attribute [local irreducible] go SGo an2 Ev aw0 EvO EvS RGo PGo
theorem fb7 : ∀ a b : List Pl, ev3 (a ++ b) = ev3 a + ev3 b
 | [], b => by rw [fr2, ev3]; omega
 | x :: r, b => by rw [fs4, ev3, ev3, fb7 r b]; omega
theorem fb8 {l : List Pl} {i : Nat} {x : Pl} (h : l[i]? = some x) : ev3 (l.take (i + 1)) = ev3 (l.take i) + szP x := by
 rw [fp0, h, fb7];show _ + ev3 [x] = _;rw [ev3, ev3]; omega
theorem fb9 (l : List Pl) (i : Nat) : ev3 (l.take i) ≤ ev3 l := by
 have h := fb7 (l.take i) (l.drop i);rw [ft8] at h;omega
structure SPiP (n : Nat) where
 i : Nat
 hi : i ≤ n
theorem fc0 (p : Pl) : et4 p = et3 p.b (p.ks.map et4) := by obtain ⟨b, ks⟩ := p; exact et7 b ks
theorem fc1 (p : Pl) : szP p ≤ 1000000 → Ev E 32 [et4 p] (.d (.int (szP p))) := by
 refine et2 (P := fun p => szP p ≤ 1000000 → Ev E 32 [et4 p] (.d (.int (szP p)))) (fun b ks ih hn => ?_) p;rw [szP] at hn;have hle : (ks.map et4).length = ks.length := by simp
 have hkl := ev6 ks;rw [et7, szP];have hrt : ((ev3 ks + 1 : Nat) : Int) = 1 + (ev3 ks : Int) := by omega
 rw [hrt];refine ye1 func32 ntmps32 fun _ _ _=>?_
 repeat' (first | refine yz ?_ | refine yx ?_ | (refine yy ?_ ?_ <;> intro _) | exact zD | exact zL)
 refine ac7 (α := SPiP ks.length) (fun p => ⟨[(3, .d (.int (1 + (ev3 (ks.take p.i) : Int)))), (7, .d (.sl (ks.map et4))), (8, .d (.int (ks.map et4).length)), (9, .d (.int p.i))], []⟩) (fun p => ks.length - p.i) ⟨0, by omega⟩ (zle 0) ?_;rintro ⟨i, hi⟩;dsimp only;have hpt := fb9 ks i;rcases fk1 i ks.length with hlt | hge
 ·have g1 : decide ((i : Int) < ((ks.map et4).length : Int)) = true := by rw [hle]; simpa using hlt
  have hx0 := fk0 hlt;generalize ks[i] = x at hx0;have hx := dk2 (f := et4) hx0;have hm := fk4 hx0;have hsx := ev5 hm;have hc := ih x hm (by omega);have ht := fb8 hx0;have e1 : 1 + (ev3 (ks.take i) : Int) + (szP x : Int) = 1 + ((ev3 (ks.take (i + 1)) : Nat) : Int) := by rw [ht]; omega
  rw [fc0] at hx hc
  repeat' (first | refine yz ?_ | refine qI (et3 x.b (x.ks.map et4)) rfl (ap2 rfl) rfl rfl rfl rfl rfl rfl (by first | omega | decide) hx ?_ | refine yp b32 hc ?_ | refine yx ?_ | (refine yy ?_ ?_ <;> intro _) | exact zD | exact zL)
  refine ac1 ?_;refine ⟨⟨i + 1, by omega⟩, by dsimp only; omega, ?_⟩;dsimp only;rw [← e1];exact (zle 0)
 ·have g1 : decide ((i : Int) < ((ks.map et4).length : Int)) = false := by rw [hle]; simp; omega
  rw [fn4 hge]
  repeat' (first | refine yz ?_ | refine yx ?_ | (refine yy ?_ ?_ <;> intro _) | exact zD | exact zL)
abbrev oLv (l : Int) : aa5 := .var 3 (.w (.d (.int l)))
theorem fc2 (l : Int) (f : Pl → Bool) (ks : List Pl) (hmax : ks.length ≤ 9223372036854775807) (hf : ∀ x ∈ ks, EvS E 64 [.d (et4 x), .ptr 0 0] [oLv l] (.d (.bool (f x))) [oLv l]) :
  EvS E 111 [.d (.sl (ks.map et4)), .clo 64 [.ptr 0 0]] [oLv l] (.d (.int (dk4 (ks.findIdx? f)))) [oLv l] := by
 have hle : (ks.map et4).length = ks.length := by simp
 refine yn func111 ntmps111 fun _ _ _ _=>?_
 repeat' (first | refine yz ?_ | refine yx ?_ | (refine yy ?_ ?_ <;> intro _) | exact zD | exact zL)
 refine ac7 (α := SFc ks f) (fun p => ⟨[(0, .d (.sl (ks.map et4))), (1, .clo 64 [.ptr 0 0]), (7, .d (.int (ks.map et4).length)), (8, .d (.int p.i))], [oLv l]⟩) (fun p => ks.length - p.i) ⟨0, by omega, fun j hj => absurd hj (by omega)⟩ (zle 1) ?_;rintro ⟨i, hi, ok⟩;dsimp only;rcases fk1 i ks.length with hlt | hge
 ·have g1 : decide ((i : Int) < ((ks.map et4).length : Int)) = true := by rw [hle]; simpa using hlt
  have hx0 := fk0 hlt;generalize ks[i] = x at hx0;have hx := dk2 (f := et4) hx0;have h1 := hf x (fk4 hx0);rw [fc0] at hx h1
  cases hc : f x with
  | true =>
   rw [hc] at h1;rw [dk5 hx0 hc ok]
   repeat' (first | refine yz ?_ | refine qI (et3 x.b (x.ks.map et4)) rfl (ap2 rfl) rfl rfl rfl rfl rfl rfl (by first | omega | decide) hx ?_ | refine bc9 [0] rfl rfl rfl rfl (FnX.clo _ _) b64 (h1) rfl rfl rfl rfl rfl ?_ | refine bd2 [0] rfl rfl rfl rfl rfl ?_ | refine yx ?_ | (refine yy ?_ ?_ <;> intro _) | exact zD | exact zL)
   all_goals rfl
  | false =>
   rw [hc] at h1
   repeat' (first | refine yz ?_ | refine qI (et3 x.b (x.ks.map et4)) rfl (ap2 rfl) rfl rfl rfl rfl rfl rfl (by first | omega | decide) hx ?_ | refine bc9 [0] rfl rfl rfl rfl (FnX.clo _ _) b64 (h1) rfl rfl rfl rfl rfl ?_ | refine yx ?_ | (refine yy ?_ ?_ <;> intro _) | exact zD | exact zL)
   refine ac1 ?_;exact ⟨⟨i + 1, by omega, SFc.next hx0 hc ok⟩, by dsimp only; omega, (zle 1)⟩
 ·have g1 : decide ((i : Int) < ((ks.map et4).length : Int)) = false := by rw [hle]; simp; omega
  rw [dk6 fun j hj => ok j (by omega)]
  repeat' (first | refine yz ?_ | refine bd2 [0] rfl rfl rfl rfl rfl ?_ | refine yx ?_ | (refine yy ?_ ?_ <;> intro _) | exact zD | exact zL)
  all_goals rfl
theorem fc3 (l : Int) (f : Pl → Bool) (ks : List Pl) (hmax : ks.length ≤ 9223372036854775807) (hf : ∀ x ∈ ks, EvS E 64 [.d (et4 x), .ptr 0 0] [oLv l] (.d (.bool (f x))) [oLv l]) :
  EvS E 63 [.d (.sl (ks.map et4)), .clo 64 [.ptr 0 0]] [oLv l] (.d (.bool (ks.any f))) [oLv l] := by
 have h := fc2 l f ks hmax hf;rw [← dk7];refine yn func63 ntmps63 fun _ _ _ _=>?_
 repeat' (first | refine yz ?_ | refine yc [0] b111 (h) ?_ | refine bd2 [0] rfl rfl rfl rfl rfl ?_ | refine yx ?_ | (refine yy ?_ ?_ <;> intro _) | exact zD | exact zL)
 all_goals rfl
def dpB (l : Int) (p : Pl) : Bool := decide ((dpP p : Int) > l)
theorem fc4 {l : Int} (h : 1 ≤ l) (b : PB) (ks : List Pl) : dpB l (.mk b ks) = ks.any (dpB (l - 1)) := by
  unfold dpB;rw [dpP, fm5, decide_eq_true_eq, List.any_eq_true]
  have key : ∀ ks : List Pl, ((ev2 ks : Int) > l - 1) ↔ ∃ x ∈ ks, (dpP x : Int) > l - 1 := by
    intro ks
    induction ks with
    | nil => rw [ev2]; constructor
             · intro h'; omega
             · rintro ⟨x, hx, -⟩; cases hx
    | cons a r ih =>
      rw [ev2];constructor
      · intro h'
        by_cases h1 : (dpP a : Int) > l - 1
        · exact ⟨a, by simp, h1⟩
        · obtain ⟨x, hx, hd⟩ := ih.1 (by omega);exact ⟨x, by simp [hx], hd⟩
      · rintro ⟨x, hx, hd⟩;rcases fl1.1 hx with rfl | hx
        · omega
        · have := ih.2 ⟨x, hx, hd⟩;omega
  have h1 : ((ev2 ks + 1 : Nat) : Int) > l ↔ (ev2 ks : Int) > l - 1 := by omega
  rw [h1, key];simp only [decide_eq_true_eq]
theorem fc5 (p : Pl) : szP p ≤ 1000000 → ∀ l : Int, -1000 ≤ l → l ≤ 1000 → Ev E 31 [et4 p, .int l] (.d (.bool (dpB l p))) := by
 refine et2 (P := fun p => szP p ≤ 1000000 → ∀ l : Int, -1000 ≤ l → l ≤ 1000 → Ev E 31 [et4 p, .int l] (.d (.bool (dpB l p)))) (fun b ks ih hn l h0 h1 => ?_) p;rw [szP] at hn;have hkl := ev6 ks
 cases c1 : decide (l < 1) with
 | true =>
  have hd : dpB l (.mk b ks) = true := by
   have := of_decide_eq_true c1;unfold dpB; rw [dpP, decide_eq_true_eq]; omega
  rw [hd, et7];refine ye2 func31 ntmps31 fun _ _ _=>?_
  repeat' (first | refine yz ?_ | refine yx ?_ | (refine yy ?_ ?_ <;> intro _) | exact zD | exact zL)
 | false =>
  have hl : 1 ≤ l := by have := of_decide_eq_false c1; omega
  rw [fc4 hl]
  have hc := fc3 l (dpB (l - 1)) ks (by omega) fun x hx => by
   have hsx := ev5 hx;have h := ih x hx (by omega) (l - 1) (by omega) (by omega);rw [fc0] at h ⊢;refine yn func64 ntmps64 fun _ _ _ _=>?_
   repeat' (first | refine yz ?_ | refine yp b31 h ?_ | refine bd2 [0] rfl rfl rfl rfl rfl ?_ | refine yx ?_ | (refine yy ?_ ?_ <;> intro _) | exact zD | exact zL)
   all_goals rfl
  rw [et7];refine ye2 func31 ntmps31 fun _ _ _=>?_
  repeat' (first | refine yz ?_ | refine bc7 rfl rfl rfl rfl rfl ?_ | refine yc [1] b63 (hc) ?_ | refine yx ?_ | (refine yy ?_ ?_ <;> intro _) | exact zD | exact zL)
theorem fc6 {C : Cx} {s : St} {r : List It} {fn : Func} {t : Nat} (hr : fn.results = #[.tmp t]) (h : lk s.tm t = .zc) : go C (.code .ret :: r) s (an6 C fn .zc) := by
 refine ac3 ?_;intro F σ w a hi hn hm hs;have h1 := hs t;rw [h] at h1;refine ⟨a.tmps.getD t undef, F, ?_, fun _ h => h, fun b hb => ⟨hi.flt b hb, hn b hb⟩, h1⟩;have h2 : (an9 a (.tmp t)).run C.E.P w = .ok (a.tmps.getD t undef) w := by simp only [an9, Sem.run_pure]
 rw [ao1, hr];simp [h2]
theorem fc7 : Ev E 74 [.sl []] .zc := by
 refine ye1 func74 ntmps74 fun _ _ _=>?_
 repeat' (first | (refine bp3 2 rfl ?_) | (refine bp0 ?_) | (refine bp1 ?_) | (refine fc6 rfl rfl) | refine yz ?_ | (refine ay6 rfl (fun _ => ?_) ?_) | refine yx ?_ | (refine yy ?_ ?_ <;> intro _) | exact zD | exact zL)
structure SBoP (b : List ByteArray) where
 i : Nat
 hi : i ≤ b.length
def joi (a b : List ByteArray) (i : Nat) : List ByteArray := a ++ (b.take i).filter fun s => !(cv9 a s)
theorem fc8 {a b : List ByteArray} {i : Nat} {x : ByteArray} (h : b[i]? = some x) : joi a b (i + 1) = bif cv9 a x then joi a b i else joi a b i ++ [x] := by
 unfold joi;rw [fp0, h]
 cases hc : cv9 a x with
 | true => simp [hc]
 | false => simp [hc]
theorem fc9 (a b : List ByteArray) (i : Nat) : (joi a b i).length ≤ a.length + b.length := by
 unfold joi;have h1 := fs0 (fun s => !(cv9 a s)) (b.take i);have h2 : (b.take i).length ≤ b.length := by rw [fm1]; omega
 rw [fl8];omega
theorem fd0 (a b : List ByteArray) (ha : a.length ≤ 1000000) (hb : b.length ≤ 1000000) : Ev E 67 [.sl (a.map .str), .sl (b.map .str)] (.d (.sl ((eu1 a b).map .str))) := by
 have hle : (b.map D.str).length = b.length := by simp
 have hle1 : (a.map D.str).length = a.length := by simp
 have hj : eu1 a b = joi a b b.length := by unfold eu1 joi; rw [List.take_length]
 rw [hj]
 by_cases h0 : a = []
 ·subst h0;have hz := fc7;refine ye2 func67 ntmps67 fun _ _ _=>?_
  repeat' (first | refine yz ?_ | refine yp b74 hz ?_ | refine yx ?_ | (refine yy ?_ ?_ <;> intro _) | exact zD | exact zL)
  refine ac7 (α := SBoP b) (fun p => ⟨[(0, .d (.sl [])), (5, bp5 0 ((joi [] b p.i).map .str)), (10, .d (.sl (b.map .str))), (11, .d (.int (b.map D.str).length)), (12, .d (.int p.i))], ay5 9 1 ((joi [] b p.i).map .str)⟩) (fun p => b.length - p.i) ⟨0, by omega⟩ (zle 0) ?_;rintro ⟨i, hi⟩;dsimp only;have hol := fc9 [] b i;rcases fk1 i b.length with hlt | hge
  ·have g1 : decide ((i : Int) < ((b.map D.str).length : Int)) = true := by rw [hle]; simpa using hlt
   have hx0 := fk0 hlt;generalize b[i] = x at hx0;have hx := dk2 (f := D.str) hx0;have hc := cw6 [] x;have hat := fc8 (a := []) hx0
   cases hh : cv9 [] x with
   | true => simp [cv9] at hh
   | false =>
    rw [hh, cond_false] at hat;rw [hh] at hc;generalize joi [] b i = o at *
    match o, hol with
    | [], hol =>
     dsimp only [bp5, ay5, List.map]
     repeat' (first | refine yz ?_ | refine yi (.str x) hx ?_ | refine yp bt2 hc ?_ | (refine bp2 ?_ ?_; exact ⟨by simp, fun d hd => by (obtain rfl := fl7.1 hd; rfl), by (show 1 * 16 ≤ 140737488355328; omega), by (show 1 ≤ 9223372036854775807; omega)⟩) | refine yx ?_ | (refine yy ?_ ?_ <;> intro _) | exact zD | exact zL)
     refine ac1 ?_;refine ⟨⟨i + 1, by omega⟩, by dsimp only; omega, ?_⟩;dsimp only;rw [hat];exact (bj9 [0])
    | y :: q, hol =>
     dsimp only [bp5, ay5, List.map]
     repeat' (first | refine yz ?_ | refine yi (.str x) hx ?_ | refine yp bt2 hc ?_ | (refine qS rfl ⟨by simp, fun d hd => by (obtain rfl := fl7.1 hd; rfl), by (show _ * 16 ≤ 140737488355328; simp; simp only [fk5] at hol; omega), by (show _ ≤ 9223372036854775807; simp; simp only [fk5] at hol; omega)⟩ ?_) | refine yx ?_ | (refine yy ?_ ?_ <;> intro _) | exact zD | exact zL)
     refine ac1 ?_;refine ⟨⟨i + 1, by omega⟩, by dsimp only; omega, ?_⟩;dsimp only;rw [hat, fa7];exact (bj9 [1])
  ·have g1 : decide ((i : Int) < ((b.map D.str).length : Int)) = false := by rw [hle]; simp; omega
   obtain rfl : i = b.length := by omega
   generalize joi [] b b.length = o at *
   match o with
   | [] =>
    dsimp only [bp5, ay5, List.map];refine bp4 5 rfl ?_
    repeat' (first | refine yz ?_ | refine yx ?_ | (refine yy ?_ ?_ <;> intro _) | exact zD | exact zL)
   | y :: q =>
    dsimp only [bp5, ay5, List.map];refine au6 0 rfl ?_;dsimp only [ar8, ar7, as0, ar9, List.map, List.set]
    repeat' (first | refine yz ?_ | refine yx ?_ | (refine yy ?_ ?_ <;> intro _) | exact zD | exact zL)
 ·have hz := cw9 a h0 (by omega);refine ye2 func67 ntmps67 fun _ _ _=>?_
  repeat' (first | refine yz ?_ | refine ay9 rfl rfl rfl rfl rfl rfl b74 (hz) ?_ | refine yx ?_ | (refine yy ?_ ?_ <;> intro _) | exact zD | exact zL)
  refine ac7 (α := SBoP b) (fun p => ⟨[(0, .d (.sl (a.map .str))), (5, bp5 0 ((joi a b p.i).map .str)), (10, .d (.sl (b.map .str))), (11, .d (.int (b.map D.str).length)), (12, .d (.int p.i))], ay5 9 1 ((joi a b p.i).map .str)⟩) (fun p => b.length - p.i) ⟨0, by omega⟩ (by
   have e0 : joi a b 0 = a := by unfold joi; simp
   dsimp only;rw [e0]
   match a, h0 with
   | x :: r, _ => exact (zle 1)) ?_
  rintro ⟨i, hi⟩;dsimp only;have hol := fc9 a b i;rcases fk1 i b.length with hlt | hge
  ·have g1 : decide ((i : Int) < ((b.map D.str).length : Int)) = true := by rw [hle]; simpa using hlt
   have hx0 := fk0 hlt;generalize b[i] = x at hx0;have hx := dk2 (f := D.str) hx0;have hc := cw6 a x;have hat := fc8 (a := a) hx0
   cases hh : cv9 a x with
   | true =>
    rw [hh, cond_true] at hat;rw [hh] at hc;generalize joi a b i = o at *
    match o with
    | [] =>
     dsimp only [bp5, ay5, List.map]
     repeat' (first | refine yz ?_ | refine yi (.str x) hx ?_ | refine yp bt2 hc ?_ | refine yx ?_ | (refine yy ?_ ?_ <;> intro _) | exact zD | exact zL)
     refine ac1 ?_;refine ⟨⟨i + 1, by omega⟩, by dsimp only; omega, ?_⟩;dsimp only;rw [hat];exact (zle 0)
    | y :: q =>
     dsimp only [bp5, ay5, List.map]
     repeat' (first | refine yz ?_ | refine yi (.str x) hx ?_ | refine yp bt2 hc ?_ | refine yx ?_ | (refine yy ?_ ?_ <;> intro _) | exact zD | exact zL)
     refine ac1 ?_;refine ⟨⟨i + 1, by omega⟩, by dsimp only; omega, ?_⟩;dsimp only;rw [hat];exact (zle 1)
   | false =>
    rw [hh, cond_false] at hat;rw [hh] at hc;generalize joi a b i = o at *
    match o, hol with
    | [], hol =>
     dsimp only [bp5, ay5, List.map]
     repeat' (first | refine yz ?_ | refine yi (.str x) hx ?_ | refine yp bt2 hc ?_ | (refine bp2 ?_ ?_; exact ⟨by simp, fun d hd => by (obtain rfl := fl7.1 hd; rfl), by (show 1 * 16 ≤ 140737488355328; omega), by (show 1 ≤ 9223372036854775807; omega)⟩) | refine yx ?_ | (refine yy ?_ ?_ <;> intro _) | exact zD | exact zL)
     refine ac1 ?_;refine ⟨⟨i + 1, by omega⟩, by dsimp only; omega, ?_⟩;dsimp only;rw [hat];exact (bj9 [0])
    | y :: q, hol =>
     dsimp only [bp5, ay5, List.map]
     repeat' (first | refine yz ?_ | refine yi (.str x) hx ?_ | refine yp bt2 hc ?_ | (refine qS rfl ⟨by simp, fun d hd => by (obtain rfl := fl7.1 hd; rfl), by (show _ * 16 ≤ 140737488355328; simp; simp only [fk5] at hol; omega), by (show _ ≤ 9223372036854775807; simp; simp only [fk5] at hol; omega)⟩ ?_) | refine yx ?_ | (refine yy ?_ ?_ <;> intro _) | exact zD | exact zL)
     refine ac1 ?_;refine ⟨⟨i + 1, by omega⟩, by dsimp only; omega, ?_⟩;dsimp only;rw [hat, fa7];exact (bj9 [1])
  ·have g1 : decide ((i : Int) < ((b.map D.str).length : Int)) = false := by rw [hle]; simp; omega
   obtain rfl : i = b.length := by omega
   generalize joi a b b.length = o at *
   match o with
   | [] =>
    dsimp only [bp5, ay5, List.map];refine bp4 5 rfl ?_
    repeat' (first | refine yz ?_ | refine yx ?_ | (refine yy ?_ ?_ <;> intro _) | exact zD | exact zL)
   | y :: q =>
    dsimp only [bp5, ay5, List.map];refine au6 0 rfl ?_;dsimp only [ar8, ar7, as0, ar9, List.map, List.set]
    repeat' (first | refine yz ?_ | refine yx ?_ | (refine yy ?_ ?_ <;> intro _) | exact zD | exact zL)
attribute [local irreducible] RGw
abbrev oPlB (b : PB) (K : List D) : aa5 := .var 40 (.w (.d (et3 b K)))
def fd1 (p : Pl) : D := .sl ((ev0 p).1.map .str)
theorem fd2 : ∀ {ks : List Pl} {i : Nat} {x : Pl}, ks[i]? = some x → (∀ p ∈ ks.take i, (ev0 p).2 = 0) → (ev0 x).2 ≠ 0 → ev1 ks = ([], (ev0 x).2)
 | [], _, _, h, _, _ => by cases h
 | p :: r, 0, x, h, _, hx => by
  obtain rfl : p = x := by simpa using h
  rw [ev1, show ((ev0 p).2 != 0) = true by simpa using hx, cond_true]
 | p :: r, i + 1, x, h, h0, hx => by
  have ih := fd2 (ks := r) (i := i) (x := x) (by simpa using h) (fun q hq => h0 q (by simp [hq])) hx;rw [ev1, h0 p (by simp), ih, show ((ev0 x).2 != 0) = true by simpa using hx];rfl
theorem fd3 : ∀ {ks : List Pl}, (∀ p ∈ ks, (ev0 p).2 = 0) → ev1 ks = (ks.map fun p => (ev0 p).1, 0)
 | [], _ => rfl
 | p :: r, h => by
  rw [ev1, h p (by simp), fd3 fun q hq => h q (by simp [hq])];rfl
structure SiC (ks : List Pl) where
 i : Nat
 hi : i ≤ ks.length
 ok : ∀ p ∈ ks.take i, (ev0 p).2 = 0
structure SmB (b : PB) : Prop where
 vs : b.cj.vs.length ≤ 1000000
 at_ : b.cj.as.length ≤ 1000000
 ln : ez1 b.cl ≤ 1000000000000
 e : smE b.e
 op4 : b.op = 1 ∨ b.op = 3 ∨ b.op = 6 ∨ b.op = 11
theorem fd4 {op : Int} {n : Nat} (h : et8 op = n) : (op = 1 ∧ n = 0) ∨ (op = 2 ∧ n = 0) ∨ (op = 3 ∧ n = 2) ∨ (op = 4 ∧ n = 2) ∨ (op = 5 ∧ n = 1) ∨ (op = 6 ∧ n = 1) ∨ (op = 7 ∧ n = 1) ∨ (op = 8 ∧ n = 1) ∨ (op = 9 ∧ n = 1) ∨ (op = 10 ∧ n = 1) ∨ (op = 11 ∧ n = 1) := by
 unfold et8 at h
 cases c1 : op == 1 || op == 2 with
 | true =>
  rw [c1, cond_true] at h;have hn : n = 0 := by omega
  have ho : op = 1 ∨ op = 2 := by simpa using c1
  subst hn;rcases ho with rfl | rfl <;> simp
 | false =>
 cases c2 : op == 3 || op == 4 with
 | true =>
  rw [c1, c2] at h;have h : (2 : Int) = n := h;have hn : n = 2 := by omega
  have ho : op = 3 ∨ op = 4 := by simpa using c2
  subst hn;rcases ho with rfl | rfl <;> simp
 | false =>
 cases c3 : decide (op ≥ 5) && decide (op ≤ 11) with
 | true =>
  rw [c1, c2, c3] at h;have h : (1 : Int) = n := h;have hn : n = 1 := by omega
  have h5 : op ≥ 5 ∧ op ≤ 11 := by simpa using c3
  have ho : op = 5 ∨ op = 6 ∨ op = 7 ∨ op = 8 ∨ op = 9 ∨ op = 10 ∨ op = 11 := by omega
  subst hn;rcases ho with rfl | rfl | rfl | rfl | rfl | rfl | rfl <;> simp
 | false =>
  rw [c1, c2, c3] at h;have h : (-1 : Int) = n := h;exact absurd h (by omega)
theorem fd5 {b : PB} {cols : List (List ByteArray)} (h : eu0 b cols.length = true) : eu9 b cols =
  bif b.op == 1 then ([], 0) else bif b.op == 2 then mltF b.cj else bif b.op == 3 || b.op == 4 then (eu1 (cols.getD 0 []) (cols.getD 1 []), 0) else
  bif b.op == 5 then aplF b.cl (cols.getD 0 []) else bif b.op == 6 then eu8 (em7 b.e (cols.getD 0 [])) (cols.getD 0 []) else
  bif b.op == 7 || b.op == 8 then (bif decide (b.it.length > 24) then erR 4 else eu6 (b.op == 8) (cols.getD 0 []) b.it []) else bif b.op == 9 then (cols.getD 0 [], 0) else
  bif b.op == 10 then eu8 (sotF (cols.getD 0 []) b.od) (cols.getD 0 []) else eu8 (eu7 b (cols.getD 0 [])) (cols.getD 0 [] ++ [b.nm]) := by
 unfold eu9;rw [h, fp3, cond_false]
set_option maxHeartbeats 8000000 in
theorem fd6 (p : Pl) : alB SmB p → szP p ≤ 1000000 → cwP p ≤ 1000000 → Ev E 33 [et4 p] (.tup [.sl ((ev0 p).1.map .str), .int (ev0 p).2]) := by
 refine et2 (P := fun p => alB SmB p → szP p ≤ 1000000 → cwP p ≤ 1000000 → Ev E 33 [et4 p] (.tup [.sl ((ev0 p).1.map .str), .int (ev0 p).2])) (fun b ks ih hs hz hw => ?_) p;rw [alB] at hs;rw [szP] at hz;rw [cwP] at hw;have hks := ey7 hs.2;have hkl := ev6 ks;have hsb := hs.1;have hle : (ks.map et4).length = ks.length := by simp
 have hf := ez8 b (ks.map et4) (by rw [hle]; omega) (by have := hsb.vs; have := hsb.at_; omega) hsb.ln;rw [et7];generalize hR : ev0 (.mk b ks) = R;refine ye1 func33 ntmps33 fun _ _ _=>?_
 repeat' (first | refine yz ?_ | refine yx ?_ | (refine yy ?_ ?_ <;> intro _) | exact zD | exact zL)
 refine ac7 (α := SiC ks) (fun q => ⟨[(1, .ptr 0 0), (4, bi6 1 ((ks.take q.i).map fd1)), (12, .d (.sl (ks.map et4))), (13, .d (.int (ks.map et4).length)), (14, .d (.int q.i))], [oPlB b (ks.map et4)] ++ ay5 29 1 ((ks.take q.i).map fd1)⟩) (fun q => ks.length - q.i) ⟨0, by omega, fun _ h => by cases h⟩ (zle 1) ?_;rintro ⟨i, hi, ok⟩;dsimp only;rcases fk1 i ks.length with hlt | hge
 ·have g1 : decide ((i : Int) < ((ks.map et4).length : Int)) = true := by rw [hle]; simpa using hlt
  have hx0 := fk0 hlt;generalize ks[i] = x at hx0;have hx := dk2 (f := et4) hx0;have hm := fk4 hx0;have hsx := ev5 hm;have hwx := fa9 hm;have hc := ih x hm (hks x hm) (by omega) (by omega);have htk : (ks.take (i + 1)).map fd1 = (ks.take i).map fd1 ++ [fd1 x] := by rw [fp0, hx0, fo1]; rfl
  have hln : ((ks.take i).map fd1).length ≤ 1000000 := by rw [fl4, fm1]; omega
  rw [fc0] at hx hc
  cases hz0 : (ev0 x).2 != 0 with
  | true =>
   have hne : (ev0 x).2 ≠ 0 := by simpa using hz0
   have hR2 : R = erR (ev0 x).2 := by
    rw [← hR, ev0, fd2 hx0 ok hne, show ((([] : List (List ByteArray)), (ev0 x).2).2 != 0) = true from hz0];rfl
   subst hR2;generalize (ev0 x).2 = z at *;clear htk
   match (ks.take i).map fd1 with
   | [] =>
    dsimp only [bi6, ay5, List.append, HAppend.hAppend, Append.append]
    repeat' (first | refine yz ?_ | refine qI (et3 x.b (x.ks.map et4)) rfl (ap2 rfl) rfl rfl rfl rfl rfl rfl (by first | omega | decide) hx ?_ | refine yp b33 hc ?_ | refine yx ?_ | (refine yy ?_ ?_ <;> intro _) | exact zD | exact zL)
   | d :: r =>
    dsimp only [bi6, ay5, List.append, HAppend.hAppend, Append.append]
    repeat' (first | refine yz ?_ | refine qI (et3 x.b (x.ks.map et4)) rfl (ap2 rfl) rfl rfl rfl rfl rfl rfl (by first | omega | decide) hx ?_ | refine yp b33 hc ?_ | refine yx ?_ | (refine yy ?_ ?_ <;> intro _) | exact zD | exact zL)
  | false =>
   have h0 : (ev0 x).2 = 0 := by simpa using hz0
   rw [h0] at hc
   have hok : ∀ p ∈ ks.take (i + 1), (ev0 p).2 = 0 := by
    intro p hp;rw [fp0, hx0] at hp;rcases fm8.1 hp with hp | hp
    ·exact ok p hp
    ·obtain rfl : p = x := by simpa using hp
     exact h0
   generalize (ks.take i).map fd1 = K at *
   match K with
   | [] =>
    dsimp only [bi6, ay5, List.append, HAppend.hAppend, Append.append]
    repeat' (first | refine yz ?_ | refine qI (et3 x.b (x.ks.map et4)) rfl (ap2 rfl) rfl rfl rfl rfl rfl rfl (by first | omega | decide) hx ?_ | refine yp b33 hc ?_ | (refine qS rfl ⟨by simp, fun d hd => by (obtain rfl := fl7.1 hd; rfl), by (show _ * 24 ≤ 140737488355328; simp <;> omega), by (show _ ≤ 9223372036854775807; simp <;> omega)⟩ ?_) | refine yx ?_ | (refine yy ?_ ?_ <;> intro _) | exact zD | exact zL)
    refine ac1 ?_;refine ⟨⟨i + 1, by omega, hok⟩, by dsimp only; omega, ?_⟩;dsimp only;rw [htk];exact (bj9 [0, 2])
   | d :: r =>
    have hr : r.length ≤ 999999 := by simp only [fk5] at hln; omega
    dsimp only [bi6, ay5, List.append, HAppend.hAppend, Append.append]
    repeat' (first | refine yz ?_ | refine qI (et3 x.b (x.ks.map et4)) rfl (ap2 rfl) rfl rfl rfl rfl rfl rfl (by first | omega | decide) hx ?_ | refine yp b33 hc ?_ | (refine qS rfl ⟨by simp, fun d hd => by (obtain rfl := fl7.1 hd; rfl), by (show _ * 24 ≤ 140737488355328; simp <;> omega), by (show _ ≤ 9223372036854775807; simp <;> omega)⟩ ?_) | refine yx ?_ | (refine yy ?_ ?_ <;> intro _) | exact zD | exact zL)
    refine ac1 ?_;refine ⟨⟨i + 1, by omega, hok⟩, by dsimp only; omega, ?_⟩;dsimp only;rw [htk];exact (bj9 [0, 3])
 ·have g1 : decide ((i : Int) < ((ks.map et4).length : Int)) = false := by rw [hle]; simp; omega
  have hall : ∀ p ∈ ks, (ev0 p).2 = 0 := by rw [fn4 hge] at ok; exact ok
  have hsel : R = eu9 b (ks.map fun p => (ev0 p).1) := by rw [← hR, ev0, fd3 hall]; rfl
  have hcw : ∀ p ∈ ks, (ev0 p).1.length ≤ 1000000 := fun p hp => by have h1 := fb6 p; have h2 := fa9 hp; omega
  rw [fn4 hge];clear hge ok hR ih hks hall hi;rw [hle] at hf
  cases hfm : eu0 b ks.length with
  | false =>
   have hR : R = ([], 25) := by rw [hsel]; unfold eu9; rw [fl4, hfm]; rfl
   subst hR;rw [hfm] at hf;clear hsel hcw;generalize ks.map fd1 = K at *
   match K with
   | [] =>
    dsimp only [bi6, ay5, List.append, HAppend.hAppend, Append.append]
    repeat' (first | refine yz ?_ | refine yp b65 hf ?_ | refine yx ?_ | (refine yy ?_ ?_ <;> intro _) | exact zD | exact zL)
   | d :: r =>
    dsimp only [bi6, ay5, List.append, HAppend.hAppend, Append.append]
    repeat' (first | refine yz ?_ | refine yp b65 hf ?_ | refine yx ?_ | (refine yy ?_ ?_ <;> intro _) | exact zD | exact zL)
  | true =>
   rw [hfm] at hf;have hse := fd5 (b := b) (cols := ks.map fun p => (ev0 p).1) (by rw [fl4]; exact hfm);rw [hse] at hsel;clear hse;have hko := fd4 (ew8 hfm);clear hfm;obtain ⟨op, cj, cl, e, nm, it, od, sk, lm⟩ := b;dsimp only at hko hsel;rcases hko with ⟨rfl, hn⟩ | ⟨rfl, hn⟩ | ⟨rfl, hn⟩ | ⟨rfl, hn⟩ | ⟨rfl, hn⟩ | ⟨rfl, hn⟩ | ⟨rfl, hn⟩ | ⟨rfl, hn⟩ | ⟨rfl, hn⟩ | ⟨rfl, hn⟩ | ⟨rfl, hn⟩
   ·-- op 1
    obtain rfl : ks = [] := List.length_eq_zero_iff.1 hn;obtain rfl : R = ([], 0) := hsel
    repeat' (first | refine yz ?_ | refine yp b65 hf ?_ | refine yx ?_ | (refine yy ?_ ?_ <;> intro _) | exact zD | exact zL)
   ·exact absurd (show (2 : Int) = 1 ∨ (2 : Int) = 3 ∨ (2 : Int) = 6 ∨ (2 : Int) = 11 from hsb.op4) (by decide)
   ·-- op 3
    obtain ⟨k, l, rfl⟩ : ∃ k l, ks = [k, l] := by (match ks, hn with | [k, l], _ => exact ⟨k, l, rfl⟩)
    have hcl := hcw k (by simp);have hcl2 := hcw l (by simp);dsimp only [List.map, fd1, bi6, ay5, List.append, HAppend.hAppend, Append.append, List.getD_cons_zero] at *;generalize (ev0 k).1 = c at *;generalize (ev0 l).1 = d at *;have hk0 : ([D.sl (c.map D.str), D.sl (d.map D.str)] : List D)[((0 : Int)).toNat]? = some (.sl (c.map .str)) := rfl;have hk1 : ([D.sl (c.map D.str), D.sl (d.map D.str)] : List D)[((1 : Int)).toNat]? = some (.sl (d.map .str)) := rfl;have hj := fd0 c d hcl hcl2;obtain rfl : R = (eu1 c d, 0) := hsel;generalize eu1 c d = z at *
    repeat' (first | refine yz ?_ | refine yp b65 hf ?_ | (refine qS rfl ?_ ?_; exact ⟨by decide, by (simp <;> omega)⟩) | refine qW (.sl (c.map .str)) rfl rfl rfl rfl rfl rfl hk0 rfl ?_ | refine qW (.sl (d.map .str)) rfl rfl rfl rfl rfl rfl hk1 rfl ?_ | refine yp b67 hj ?_ | refine yx ?_ | (refine yy ?_ ?_ <;> intro _) | exact zD | exact zL)
   ·exact absurd (show (4 : Int) = 1 ∨ (4 : Int) = 3 ∨ (4 : Int) = 6 ∨ (4 : Int) = 11 from hsb.op4) (by decide)
   ·exact absurd (show (5 : Int) = 1 ∨ (5 : Int) = 3 ∨ (5 : Int) = 6 ∨ (5 : Int) = 11 from hsb.op4) (by decide)
   ·-- op 6
    obtain ⟨k, rfl⟩ := List.length_eq_one_iff.1 hn;have hcl := hcw k (by simp);dsimp only [List.map, fd1, bi6, ay5, List.append, HAppend.hAppend, Append.append, List.getD_cons_zero] at *;generalize (ev0 k).1 = c at *;have hk0 : ([D.sl (c.map D.str)] : List D)[((0 : Int)).toNat]? = some (.sl (c.map .str)) := rfl;have hx := en3 e c (fa4 hsb.e) hsb.e
    cases hz0 : em7 e c != 0 with
    | true =>
     have hR2 : R = ([], em7 e c) := by rw [hsel]; show eu8 (em7 e c) c = _; unfold eu8; rw [hz0]; rfl
     subst hR2;clear hsel;generalize em7 e c = z at *
     repeat' (first | refine yz ?_ | refine yp b65 hf ?_ | (refine qS rfl ?_ ?_; exact ⟨by decide, by (simp <;> omega)⟩) | refine qW (.sl (c.map .str)) rfl rfl rfl rfl rfl rfl hk0 rfl ?_ | refine yp b71 hx ?_ | refine yx ?_ | (refine yy ?_ ?_ <;> intro _) | exact zD | exact zL)
    | false =>
     have hz1 : em7 e c = 0 := by simpa using hz0
     have hR2 : R = (c, 0) := by rw [hsel]; show eu8 (em7 e c) c = _; unfold eu8; rw [hz0]; rfl
     subst hR2;rw [hz1] at hx;clear hsel
     repeat' (first | refine yz ?_ | refine yp b65 hf ?_ | (refine qS rfl ?_ ?_; exact ⟨by decide, by (simp <;> omega)⟩) | refine qW (.sl (c.map .str)) rfl rfl rfl rfl rfl rfl hk0 rfl ?_ | refine yp b71 hx ?_ | refine yx ?_ | (refine yy ?_ ?_ <;> intro _) | exact zD | exact zL)
   ·exact absurd (show (7 : Int) = 1 ∨ (7 : Int) = 3 ∨ (7 : Int) = 6 ∨ (7 : Int) = 11 from hsb.op4) (by decide)
   ·exact absurd (show (8 : Int) = 1 ∨ (8 : Int) = 3 ∨ (8 : Int) = 6 ∨ (8 : Int) = 11 from hsb.op4) (by decide)
   ·exact absurd (show (9 : Int) = 1 ∨ (9 : Int) = 3 ∨ (9 : Int) = 6 ∨ (9 : Int) = 11 from hsb.op4) (by decide)
   ·exact absurd (show (10 : Int) = 1 ∨ (10 : Int) = 3 ∨ (10 : Int) = 6 ∨ (10 : Int) = 11 from hsb.op4) (by decide)
   ·-- op 11
    obtain ⟨k, rfl⟩ := List.length_eq_one_iff.1 hn;have hcl := hcw k (by simp);dsimp only [List.map, fd1, bi6, ay5, List.append, HAppend.hAppend, Append.append, List.getD_cons_zero] at *;generalize (ev0 k).1 = c at *;have hk0 : ([D.sl (c.map D.str)] : List D)[((0 : Int)).toNat]? = some (.sl (c.map .str)) := rfl;have hx := fa5 ⟨11, cj, cl, e, nm, it, od, sk, lm⟩ [et4 k] c hsb.e
    by_cases h0 : c = []
    ·subst h0;have hcl2 := fc7
     cases hz0 : eu7 ⟨11, cj, cl, e, nm, it, od, sk, lm⟩ [] != 0 with
     | true =>
      have hR2 : R = ([], eu7 ⟨11, cj, cl, e, nm, it, od, sk, lm⟩ []) := by rw [hsel]; show eu8 (eu7 ⟨11, cj, cl, e, nm, it, od, sk, lm⟩ []) ([] ++ [nm]) = _; unfold eu8; rw [hz0]; rfl
      subst hR2;clear hsel;generalize eu7 ⟨11, cj, cl, e, nm, it, od, sk, lm⟩ [] = z at *
      repeat' (first | refine bk5 (id := 34) [5] [] (by kernel_rfl) (by kernel_rfl) (by repeat (first | exact trivial | refine ⟨⟨rfl, rfl⟩, ?_⟩ | refine ⟨trivial, ?_⟩)) ?_ | refine reF (id := 34) (i := 0) 5 (by kernel_rfl) rfl ?_ | refine reF (id := 34) (i := 6) 1 (by kernel_rfl) rfl ?_ | refine reN ?_ | refine yz ?_ | refine yp b65 hf ?_ | (refine qS rfl ?_ ?_; exact ⟨by decide, by (simp <;> omega)⟩) | refine qW (.sl (([] : List ByteArray).map .str)) rfl rfl rfl rfl rfl rfl hk0 rfl ?_ | refine yp b73 hx ?_ | refine yp b74 hcl2 ?_ | refine reZ (id := 34) (i := 5) (⟨by simp, fun d hd => by (obtain rfl := fl7.1 hd; rfl), by (show 1 * 16 ≤ 140737488355328; omega), by (show 1 ≤ 9223372036854775807; omega)⟩) rfl rfl rfl rfl rfl rfl rfl rfl rfl rfl (by repeat (first | exact trivial | refine ⟨⟨rfl, rfl⟩, ?_⟩ | refine ⟨trivial, ?_⟩)) ?_ | refine yx ?_ | (refine yy ?_ ?_ <;> intro _) | exact zD | exact zL)
     | false =>
      have hz1 : eu7 ⟨11, cj, cl, e, nm, it, od, sk, lm⟩ [] = 0 := by simpa using hz0
      have hR2 : R = ([] ++ [nm], 0) := by rw [hsel]; show eu8 (eu7 ⟨11, cj, cl, e, nm, it, od, sk, lm⟩ []) ([] ++ [nm]) = _; unfold eu8; rw [hz0]; rfl
      subst hR2;rw [hz1] at hx;clear hsel hz0 hz1;have hmp : ([] ++ [nm]).map D.str = ([] : List ByteArray).map D.str ++ [.str nm] := by simp
      rw [hmp]
      repeat' (first | refine bk5 (id := 34) [5] [] (by kernel_rfl) (by kernel_rfl) (by repeat (first | exact trivial | refine ⟨⟨rfl, rfl⟩, ?_⟩ | refine ⟨trivial, ?_⟩)) ?_ | refine reF (id := 34) (i := 0) 5 (by kernel_rfl) rfl ?_ | refine reF (id := 34) (i := 6) 1 (by kernel_rfl) rfl ?_ | refine reN ?_ | refine yz ?_ | refine yp b65 hf ?_ | (refine qS rfl ?_ ?_; exact ⟨by decide, by (simp <;> omega)⟩) | refine qW (.sl (([] : List ByteArray).map .str)) rfl rfl rfl rfl rfl rfl hk0 rfl ?_ | refine yp b73 hx ?_ | refine yp b74 hcl2 ?_ | refine reZ (id := 34) (i := 5) (⟨by simp, fun d hd => by (obtain rfl := fl7.1 hd; rfl), by (show 1 * 16 ≤ 140737488355328; omega), by (show 1 ≤ 9223372036854775807; omega)⟩) rfl rfl rfl rfl rfl rfl rfl rfl rfl rfl (by repeat (first | exact trivial | refine ⟨⟨rfl, rfl⟩, ?_⟩ | refine ⟨trivial, ?_⟩)) ?_ | refine yx ?_ | (refine yy ?_ ?_ <;> intro _) | exact zD | exact zL)
      refine au6 2 rfl ?_;dsimp only [ar8, ar7, as0, ar9, List.map, List.set]
      repeat' (first | refine yz ?_ | refine yx ?_ | (refine yy ?_ ?_ <;> intro _) | exact zD | exact zL)
    ·have hcl2 := cw9 c h0 (by omega)
     cases hz0 : eu7 ⟨11, cj, cl, e, nm, it, od, sk, lm⟩ c != 0 with
     | true =>
      have hR2 : R = ([], eu7 ⟨11, cj, cl, e, nm, it, od, sk, lm⟩ c) := by rw [hsel]; show eu8 (eu7 ⟨11, cj, cl, e, nm, it, od, sk, lm⟩ c) (c ++ [nm]) = _; unfold eu8; rw [hz0]; rfl
      subst hR2;clear hsel;generalize eu7 ⟨11, cj, cl, e, nm, it, od, sk, lm⟩ c = z at *
      repeat' (first | refine bk5 (id := 34) [1,5] [] (by kernel_rfl) (by kernel_rfl) (by repeat (first | exact trivial | refine ⟨⟨rfl, rfl⟩, ?_⟩ | refine ⟨trivial, ?_⟩)) ?_ | refine reF (id := 34) (i := 0) 1 (by kernel_rfl) rfl ?_ | (refine reV (id := 34) (i := 2) rfl rfl rfl rfl rfl rfl ?_ ?_; (first | exact True.intro | rfl | assumption | omega | (simp only [inR]; omega) | ((show _ ≤ (9223372036854775807 : Nat)); (try simp only [ByteArray.size_append]); omega) | exact av0 (by omega) (by omega) | exact av1 (by omega) (by omega) | exact ⟨rfl, by decide, by decide⟩)) | (refine reV (id := 34) (i := 3) rfl rfl rfl rfl rfl rfl ?_ ?_; (first | exact True.intro | rfl | assumption | omega | (simp only [inR]; omega) | ((show _ ≤ (9223372036854775807 : Nat)); (try simp only [ByteArray.size_append]); omega) | exact av0 (by omega) (by omega) | exact av1 (by omega) (by omega) | exact ⟨rfl, by decide, by decide⟩)) | refine reF (id := 34) (i := 6) 1 (by kernel_rfl) rfl ?_ | refine reN ?_ | refine yz ?_ | refine yp b65 hf ?_ | (refine qS rfl ?_ ?_; exact ⟨by decide, by (simp <;> omega)⟩) | refine qW (.sl (c.map .str)) rfl rfl rfl rfl rfl rfl hk0 rfl ?_ | refine yp b73 hx ?_ | refine bo2 (id := 34) (i := 1) rfl rfl rfl rfl rfl rfl b74 rfl (hcl2) (by repeat (first | exact trivial | refine ⟨⟨rfl, rfl⟩, ?_⟩ | refine ⟨trivial, ?_⟩)) ?_ | (refine reV2 (id := 34) (i := 4) rfl rfl rfl rfl rfl rfl ?_ ?_; (first | exact True.intro | rfl | assumption | omega | (simp only [inR]; omega) | ((show _ ≤ (9223372036854775807 : Nat)); (try simp only [ByteArray.size_append]); omega) | exact av0 (by omega) (by omega) | exact av1 (by omega) (by omega) | exact ⟨rfl, by decide, by decide⟩)) | refine reS (id := 34) (i := 5) rfl rfl rfl rfl (⟨by simp, fun d hd => by (obtain rfl := fl7.1 hd; rfl), by (show ((c.map D.str).length + 1) * 16 ≤ 140737488355328; rw [fl4]; omega), by (show (c.map D.str).length + 1 ≤ 9223372036854775807; rw [fl4]; omega)⟩) (by repeat (first | exact trivial | refine ⟨⟨rfl, rfl⟩, ?_⟩ | refine ⟨trivial, ?_⟩)) ?_ | refine yx ?_ | (refine yy ?_ ?_ <;> intro _) | exact zD | exact zL)
     | false =>
      have hz1 : eu7 ⟨11, cj, cl, e, nm, it, od, sk, lm⟩ c = 0 := by simpa using hz0
      have hR2 : R = (c ++ [nm], 0) := by rw [hsel]; show eu8 (eu7 ⟨11, cj, cl, e, nm, it, od, sk, lm⟩ c) (c ++ [nm]) = _; unfold eu8; rw [hz0]; rfl
      subst hR2;rw [hz1] at hx;clear hsel hz0 hz1;have hmp : (c ++ [nm]).map D.str = c.map D.str ++ [.str nm] := by simp
      rw [hmp]
      repeat' (first | refine bk5 (id := 34) [1,5] [] (by kernel_rfl) (by kernel_rfl) (by repeat (first | exact trivial | refine ⟨⟨rfl, rfl⟩, ?_⟩ | refine ⟨trivial, ?_⟩)) ?_ | refine reF (id := 34) (i := 0) 1 (by kernel_rfl) rfl ?_ | (refine reV (id := 34) (i := 2) rfl rfl rfl rfl rfl rfl ?_ ?_; (first | exact True.intro | rfl | assumption | omega | (simp only [inR]; omega) | ((show _ ≤ (9223372036854775807 : Nat)); (try simp only [ByteArray.size_append]); omega) | exact av0 (by omega) (by omega) | exact av1 (by omega) (by omega) | exact ⟨rfl, by decide, by decide⟩)) | (refine reV (id := 34) (i := 3) rfl rfl rfl rfl rfl rfl ?_ ?_; (first | exact True.intro | rfl | assumption | omega | (simp only [inR]; omega) | ((show _ ≤ (9223372036854775807 : Nat)); (try simp only [ByteArray.size_append]); omega) | exact av0 (by omega) (by omega) | exact av1 (by omega) (by omega) | exact ⟨rfl, by decide, by decide⟩)) | refine reF (id := 34) (i := 6) 1 (by kernel_rfl) rfl ?_ | refine reN ?_ | refine yz ?_ | refine yp b65 hf ?_ | (refine qS rfl ?_ ?_; exact ⟨by decide, by (simp <;> omega)⟩) | refine qW (.sl (c.map .str)) rfl rfl rfl rfl rfl rfl hk0 rfl ?_ | refine yp b73 hx ?_ | refine bo2 (id := 34) (i := 1) rfl rfl rfl rfl rfl rfl b74 rfl (hcl2) (by repeat (first | exact trivial | refine ⟨⟨rfl, rfl⟩, ?_⟩ | refine ⟨trivial, ?_⟩)) ?_ | (refine reV2 (id := 34) (i := 4) rfl rfl rfl rfl rfl rfl ?_ ?_; (first | exact True.intro | rfl | assumption | omega | (simp only [inR]; omega) | ((show _ ≤ (9223372036854775807 : Nat)); (try simp only [ByteArray.size_append]); omega) | exact av0 (by omega) (by omega) | exact av1 (by omega) (by omega) | exact ⟨rfl, by decide, by decide⟩)) | refine reS (id := 34) (i := 5) rfl rfl rfl rfl (⟨by simp, fun d hd => by (obtain rfl := fl7.1 hd; rfl), by (show ((c.map D.str).length + 1) * 16 ≤ 140737488355328; rw [fl4]; omega), by (show (c.map D.str).length + 1 ≤ 9223372036854775807; rw [fl4]; omega)⟩) (by repeat (first | exact trivial | refine ⟨⟨rfl, rfl⟩, ?_⟩ | refine ⟨trivial, ?_⟩)) ?_ | refine yx ?_ | (refine yy ?_ ?_ <;> intro _) | exact zD | exact zL)
      refine au6 3 rfl ?_;dsimp only [ar8, ar7, as0, ar9, List.map, List.set]
      repeat' (first | refine yz ?_ | refine yx ?_ | (refine yy ?_ ?_ <;> intro _) | exact zD | exact zL)
theorem fd7 (p : Pl) (hs : alB SmB p) (hz : szP p ≤ 1000000) (hw : cwP p ≤ 1000000) : Ev E 21 [et4 p] (.tup [.sl ((ev4 p).1.map .str), .int (ev4 p).2]) := by
 have h1 := fc5 p hz 200 (by decide) (by decide);have hd : dpB 200 p = decide (dpP p > 200) := by unfold dpB; rw [decide_eq_decide]; omega
 rw [hd] at h1;clear hd;have h2 := fc1 p hz;have h3 := fd6 p hs hz hw;obtain ⟨b, ks⟩ := p;rw [et7] at *;unfold ev4;generalize szP (.mk b ks) = sz at *;generalize ev0 (.mk b ks) = c at *
 cases c1 : decide (dpP (.mk b ks) > 200) with
 | true =>
  rw [cond_true];rw [c1] at h1;refine ye1 func21 ntmps21 fun _ _ _=>?_
  repeat' (first | refine yz ?_ | refine yp b31 h1 ?_ | refine yx ?_ | (refine yy ?_ ?_ <;> intro _) | exact zD | exact zL)
 | false =>
  rw [c1] at h1;rw [cond_false]
  cases c2 : decide (sz > 2000) with
  | true =>
   rw [cond_true];have g1 := yT ((sz : Int) > 2000) (by have := of_decide_eq_true c2; omega);refine ye1 func21 ntmps21 fun _ _ _=>?_
   repeat' (first | refine yz ?_ | refine yp b31 h1 ?_ | refine yp b32 h2 ?_ | refine yx ?_ | (refine yy ?_ ?_ <;> intro _) | exact zD | exact zL)
  | false =>
   rw [cond_false];have g1 := yF ((sz : Int) > 2000) (by have := of_decide_eq_false c2; omega);refine ye1 func21 ntmps21 fun _ _ _=>?_
   repeat' (first | refine yz ?_ | refine yp b31 h1 ?_ | refine yp b32 h2 ?_ | refine yp b33 h3 ?_ | refine yx ?_ | (refine yy ?_ ?_ <;> intro _) | exact zD | exact zL)
end Go.Proofs.YtaiiailapeffgaaGreatDoor
