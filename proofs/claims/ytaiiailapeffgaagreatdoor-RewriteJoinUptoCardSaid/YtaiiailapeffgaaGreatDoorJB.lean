/- Sizes, depths and shapes of plans, the check of an expression over columns, columns joined, by the specification; The check of a plan of units, joins, filters and unwindings, by the specification; The plan of the law RewriteJoin, its check and Push, by the program; The law of this text in plain engine's terms (its card: text VJoin). Conditions: each part's own, as it says. -/
import Derived.Test.YtaiiailapeffgaaGreatDoorGC
import Derived.Test.YtaiiailapeffgaaGreatDoorJA
import Derived.Test.YtaiiailapeffgaaGreatDoorPB
import Derived.Test.YtaiiailapeffgaaGreatDoorCA
import Derived.Test.YtaiiailapeffgaaGreatDoorMD
import Derived.Test.YtaiiailapeffgaaGreatDoorUC
import Derived.Test.YtaiiailapeffgaaGreatDoorEC
set_option linter.unusedVariables false
set_option linter.unusedSimpArgs false
namespace Go.Proofs.YtaiiailapeffgaaGreatDoor
set_option maxRecDepth 4000
open Go Go.Abs Go.Val Go.RowKit Go.Proofs.Tryz
attribute [local irreducible] go SGo an2 Ev aw0 EvO EvS RGo RGw PGo
abbrev oPK (b : PB) (K : List D) : aa5 := .var 40 (.w (.d (et3 b K)))
theorem fh1 (p : Pl) : szP p ≤ 1000000 → Ev E 19 [et4 p] (.d (.int (szP p))) := by
 refine et2 (P := fun p => szP p ≤ 1000000 → Ev E 19 [et4 p] (.d (.int (szP p)))) (fun b ks ih hn => ?_) p;rw [szP] at hn;have hle : (ks.map et4).length = ks.length := by simp
 have hkl := ev6 ks;rw [et7, szP];have hrt : ((ev3 ks + 1 : Nat) : Int) = 1 + (ev3 ks : Int) := by omega
 rw [hrt];refine ye1 func19 ntmps19 fun _ _ _=>?_
 repeat' (first | refine yz ?_ | refine yx ?_ | (refine yy ?_ ?_ <;> intro _) | exact zD | exact zL)
 refine ac7 (α := SPiP ks.length) (fun p => ⟨[(1, .ptr 0 0), (3, .d (.int (1 + (ev3 (ks.take p.i) : Int)))), (4, .d (.int p.i))], [oPK b (ks.map et4)]⟩) (fun p => ks.length - p.i) ⟨0, by omega⟩ (zle 1) ?_;rintro ⟨i, hi⟩;dsimp only;have hpt := fb9 ks i;rcases fk1 i ks.length with hlt | hge
 ·have g1 : decide ((i : Int) < ((ks.map et4).length : Int)) = true := by rw [hle]; simpa using hlt
  have hx0 := fk0 hlt;generalize ks[i] = x at hx0;have hx := dk2 (f := et4) hx0;have hm := fk4 hx0;have hsx := ev5 hm;have hc := ih x hm (by omega);have ht := fb8 hx0;have e1 : 1 + (ev3 (ks.take i) : Int) + (szP x : Int) = 1 + ((ev3 (ks.take (i + 1)) : Nat) : Int) := by rw [ht]; omega
  rw [fc0] at hx hc
  repeat' (first | refine yz ?_ | refine qI (et3 x.b (x.ks.map et4)) rfl (ap2 rfl) rfl rfl rfl rfl rfl rfl (by first | omega | decide) hx ?_ | refine yp b19 hc ?_ | refine yx ?_ | (refine yy ?_ ?_ <;> intro _) | exact zD | exact zL)
  refine ac1 ?_;refine ⟨⟨i + 1, by omega⟩, by dsimp only; omega, ?_⟩;dsimp only;rw [← e1];exact (zle 1)
 ·have g1 : decide ((i : Int) < ((ks.map et4).length : Int)) = false := by rw [hle]; simp; omega
  rw [fn4 hge]
  repeat' (first | refine yz ?_ | refine yx ?_ | (refine yy ?_ ?_ <;> intro _) | exact zD | exact zL)
theorem fh2 : ∀ a b : List Pl, ev2 (a ++ b) = max (ev2 a) (ev2 b)
 | [], b => by rw [fr2, ev2]; omega
 | x :: r, b => by rw [fs4, ev2, ev2, fh2 r b]; omega
theorem fh3 {l : List Pl} {i : Nat} {x : Pl} (h : l[i]? = some x) : ev2 (l.take (i + 1)) = max (ev2 (l.take i)) (dpP x) := by
 rw [fp0, h, fh2];show max _ (ev2 [x]) = _;rw [ev2, ev2]; omega
theorem fh4 (p : Pl) : szP p ≤ 1000000 → Ev E 18 [et4 p] (.d (.int (dpP p))) := by
 refine et2 (P := fun p => szP p ≤ 1000000 → Ev E 18 [et4 p] (.d (.int (dpP p)))) (fun b ks ih hn => ?_) p;have hdz := ev7 (.mk b ks);rw [szP] at hn hdz;rw [dpP] at hdz;have hle : (ks.map et4).length = ks.length := by simp
 have hkl := ev6 ks;rw [et7, dpP];refine ye1 func18 ntmps18 fun _ _ _=>?_
 repeat' (first | refine yz ?_ | refine yx ?_ | (refine yy ?_ ?_ <;> intro _) | exact zD | exact zL)
 refine ac7 (α := SPiP ks.length) (fun p => ⟨[(1, .ptr 0 0), (3, .d (.int (ev2 (ks.take p.i) : Nat))), (4, .d (.int p.i))], [oPK b (ks.map et4)]⟩) (fun p => ks.length - p.i) ⟨0, by omega⟩ (zle 1) ?_;rintro ⟨i, hi⟩;dsimp only;rcases fk1 i ks.length with hlt | hge
 ·have g1 : decide ((i : Int) < ((ks.map et4).length : Int)) = true := by rw [hle]; simpa using hlt
  have hx0 := fk0 hlt;generalize ks[i] = x at hx0;have hx := dk2 (f := et4) hx0;have hm := fk4 hx0;have hsx := ev5 hm;have hdx := ev7 x;have hc := ih x hm (by omega);have ht := fh3 hx0;have e1 : max ((ev2 (ks.take i) : Nat) : Int) ((dpP x : Nat) : Int) = ((ev2 (ks.take (i + 1)) : Nat) : Int) := by rw [ht]; omega
  rw [fc0] at hx hc
  repeat' (first | refine yz ?_ | refine qI (et3 x.b (x.ks.map et4)) rfl (ap2 rfl) rfl rfl rfl rfl rfl rfl (by first | omega | decide) hx ?_ | refine yp b18 hc ?_ | refine yx ?_ | (refine yy ?_ ?_ <;> intro _) | exact zD | exact zL)
  refine ac1 ?_;refine ⟨⟨i + 1, by omega⟩, by dsimp only; omega, ?_⟩;dsimp only;rw [← e1];exact (zle 1)
 ·have g1 : decide ((i : Int) < ((ks.map et4).length : Int)) = false := by rw [hle]; simp; omega
  rw [fn4 hge];have e2 : ((ev2 ks + 1 : Nat) : Int) = (ev2 ks : Int) + 1 := by omega
  rw [e2]
  repeat' (first | refine yz ?_ | refine yx ?_ | (refine yy ?_ ?_ <;> intro _) | exact zD | exact zL)
set_option maxHeartbeats 2000000 in
theorem fh5 (c : CL) : Ev E 97 [dj1 c] (.d (.bool (et9 c))) := by
 have hb := es8 c.e;unfold et9;obtain ⟨k, opt, ds, ps, wh, e, nm, it, od, sk, lm, st, ns⟩ := c;simp only at hb ⊢;have l1 : (((ps.map di7).length : Int) == 0) = (ps.length == 0) := by rw [fl4, fm5, beq_iff_eq, beq_iff_eq]; omega
 have l2 : (((cy2 wh).length : Int) == 0) = (wh.length == 0) := by rw [cy9, fm5, beq_iff_eq, beq_iff_eq]; omega
 have l3 : (((it.map di8).length : Int) == 0) = (it.length == 0) := by rw [fl4, fm5, beq_iff_eq, beq_iff_eq]; omega
 have l4 : (((od.map di9).length : Int) == 0) = (od.length == 0) := by rw [fl4, fm5, beq_iff_eq, beq_iff_eq]; omega
 have l5 : (((st.map dj0).length : Int) == 0) = (st.length == 0) := by rw [fl4, fm5, beq_iff_eq, beq_iff_eq]; omega
 have l6 : (((ns.map D.str).length : Int) == 0) = (ns.length == 0) := by rw [fl4, fm5, beq_iff_eq, beq_iff_eq]; omega
 rw [← l1, ← l2, ← l3, ← l4, ← l5, ← l6];clear l1 l2 l3 l4 l5 l6;obtain ⟨ze, hze⟩ : ∃ b, dj7 e = b := ⟨_, rfl⟩;rw [hze] at hb ⊢;show Ev E 97 [.agg [.int k, .bool opt, .bool ds, .sl (ps.map di7), .sl (cy2 wh), .int e.op, .int e.v.k, .int e.v.n, .int e.v.d, .str e.v.s, .sl (kids e.v), .str e.nm, .bool e.ds, .sl (cy1 e), .str nm, .sl (it.map di8), .sl (od.map di9), .int sk, .int lm, .sl (st.map dj0), .sl (ns.map D.str)]] (.d (.bool (k == 0 && (!opt && (!ds && (((ps.map di7).length : Int) == 0 && (((cy2 wh).length : Int) == 0 && (ze && ((nm.toList == (⟨#[]⟩ : ByteArray).toList) && (((it.map di8).length : Int) == 0 && (((od.map di9).length : Int) == 0 && (sk == 0 && (lm == 0 && (((st.map dj0).length : Int) == 0 && ((ns.map D.str).length : Int) == 0))))))))))))));generalize ps.map di7 = L1 at *;generalize cy2 wh = L2 at *;generalize it.map di8 = L3 at *;generalize od.map di9 = L4 at *;generalize st.map dj0 = L5 at *;generalize ns.map D.str = L6 at *;refine ye1 func97 ntmps97 fun _ _ _=>?_
 repeat' (first | refine yz ?_ | refine yp b98 hb ?_ | refine yx ?_ | (refine yy ?_ ?_ <;> intro _) | (refine qV rfl ?_ ?_ <;> intro _) | exact zD | exact zL)
 all_goals (refine congrArg D.bool ?_; clear hb hze; simp_all)
theorem fh6 : Ev E 96 [.int 1] (.d (.int 0)) := by
 refine ye1 func96 ntmps96 fun _ _ _=>?_
 repeat' (first | refine yz ?_ | refine yx ?_ | (refine yy ?_ ?_ <;> intro _) | exact zD | exact zL)
theorem fh7 : Ev E 96 [.int 3] (.d (.int 2)) := by
 refine ye1 func96 ntmps96 fun _ _ _=>?_
 repeat' (first | refine yz ?_ | refine yx ?_ | (refine yy ?_ ?_ <;> intro _) | exact zD | exact zL)
theorem fh8 : Ev E 96 [.int 6] (.d (.int 1)) := by
 refine ye1 func96 ntmps96 fun _ _ _=>?_
 repeat' (first | refine yz ?_ | refine yx ?_ | (refine yy ?_ ?_ <;> intro _) | exact zD | exact zL)
theorem fh9 : Ev E 96 [.int 11] (.d (.int 1)) := by
 refine ye1 func96 ntmps96 fun _ _ _=>?_
 repeat' (first | refine yz ?_ | refine yx ?_ | (refine yy ?_ ?_ <;> intro _) | exact zD | exact zL)
set_option maxHeartbeats 8000000 in
theorem fi0 (b : PB) (K : List D) (hop : b.op = 1 ∨ b.op = 3 ∨ b.op = 6 ∨ b.op = 11) (hK : K.length ≤ 1000000000000) (h1 : b.cj.vs.length + b.cj.as.length ≤ 1000000000000) : Ev E 54 [et3 b K] (.d (.bool (eu0 b K.length))) := by
 have hb := es8 b.e;have hc := fh5 b.cl;rw [ez7];obtain ⟨op, cj, cl, e, nm, it, od, sk, lm⟩ := b;obtain ⟨vs, as28⟩ := cj;obtain ⟨ck, copt, cds, cps, cwh, ce, cnm, cit, cod, csk, clm, cst, cns⟩ := cl;simp only at hop hb hc h1 ⊢;have hlv : (vs.map D.str).length = vs.length := by simp
 have hla : (as28.map eg7).length = as28.length := by simp
 have g4 : (!(nm.toList == (⟨#[]⟩ : ByteArray).toList)) = !(s0B nm) := rfl;generalize dj7 e = ze at *;generalize et9 _ = zc at *;generalize s0B nm = zn at *
 show Ev E 54 [.agg [.int op, .sl K, .sl (vs.map D.str), .sl (as28.map eg7), .int ck, .bool copt, .bool cds, .sl (cps.map di7), .sl (cy2 cwh), .int ce.op, .int ce.v.k, .int ce.v.n, .int ce.v.d, .str ce.v.s, .sl (kids ce.v), .str ce.nm, .bool ce.ds, .sl (cy1 ce), .str cnm, .sl (cit.map di8), .sl (cod.map di9), .int csk, .int clm, .sl (cst.map dj0), .sl (cns.map .str),
  .int e.op, .int e.v.k, .int e.v.n, .int e.v.d, .str e.v.s, .sl (kids e.v), .str e.nm, .bool e.ds, .sl (cy1 e), .str nm, .sl (it.map di8), .sl (od.map di9), .int sk, .int lm]] _
 generalize vs.map D.str = LV at *;generalize as28.map eg7 = LA at *;generalize it.map di8 = LI at *;generalize od.map di9 = LO at *;rcases hop with rfl | rfl | rfl | rfl
 ·generalize hb0 : ((K.length : Int) != et8 1) = b0;generalize hb1 : decide ((LV.length : Int) + (LA.length : Int) > 0) = b1;generalize hb5 : decide ((LI.length : Int) > 0) = b5;generalize hb6 : ((LO.length : Int) == 0) = b6;generalize hb7 : (sk == 0) = b7;generalize hb9 : (ck == 1) = b9;generalize hb10 : decide (sk ≥ -1) = b10;generalize hb11 : decide (lm ≥ -1) = b11;replace hb0 : (!((0 : Int) == (K.length : Int))) = b0 := by rw [← hb0, fm5]; show _ ↔ ((K.length : Int) != 0) = true; rw [Bool.not_eq_true', beq_eq_false_iff_ne, bne_iff_ne]; exact ⟨Ne.symm, Ne.symm⟩
  clear hb9 hb10 hb11
  cases b0 with
  | true =>
   refine ye1 func54 ntmps54 fun _ _ _=>?_
   repeat' (first | refine yz ?_ | refine yp b96 fh6 ?_ | refine yp b98 hb ?_ | refine yp b97 hc ?_ | refine yx ?_ | (refine yy ?_ ?_ <;> intro _) | exact zD | exact zL)
  | false =>
  cases b1 with
  | true =>
   refine ye1 func54 ntmps54 fun _ _ _=>?_
   repeat' (first | refine yz ?_ | refine yp b96 fh6 ?_ | refine yp b98 hb ?_ | refine yp b97 hc ?_ | refine yx ?_ | (refine yy ?_ ?_ <;> intro _) | exact zD | exact zL)
  | false =>
  cases zc with
  | false =>
   refine ye1 func54 ntmps54 fun _ _ _=>?_
   repeat' (first | refine yz ?_ | refine yp b96 fh6 ?_ | refine yp b98 hb ?_ | refine yp b97 hc ?_ | refine yx ?_ | (refine yy ?_ ?_ <;> intro _) | exact zD | exact zL)
  | true =>
  cases ze with
  | false =>
   refine ye1 func54 ntmps54 fun _ _ _=>?_
   repeat' (first | refine yz ?_ | refine yp b96 fh6 ?_ | refine yp b98 hb ?_ | refine yp b97 hc ?_ | refine yx ?_ | (refine yy ?_ ?_ <;> intro _) | exact zD | exact zL)
  | true =>
  cases zn with
  | false =>
   refine ye1 func54 ntmps54 fun _ _ _=>?_
   repeat' (first | refine yz ?_ | refine yp b96 fh6 ?_ | refine yp b98 hb ?_ | refine yp b97 hc ?_ | refine yx ?_ | (refine yy ?_ ?_ <;> intro _) | exact zD | exact zL)
  | true =>
  cases b5 with
  | true =>
   refine ye1 func54 ntmps54 fun _ _ _=>?_
   repeat' (first | refine yz ?_ | refine yp b96 fh6 ?_ | refine yp b98 hb ?_ | refine yp b97 hc ?_ | refine yx ?_ | (refine yy ?_ ?_ <;> intro _) | exact zD | exact zL)
  | false =>
  cases b6 with
  | false =>
   refine ye1 func54 ntmps54 fun _ _ _=>?_
   repeat' (first | refine yz ?_ | refine yp b96 fh6 ?_ | refine yp b98 hb ?_ | refine yp b97 hc ?_ | refine yx ?_ | (refine yy ?_ ?_ <;> intro _) | exact zD | exact zL)
  | true =>
  cases b7 with
  | false =>
   refine ye1 func54 ntmps54 fun _ _ _=>?_
   repeat' (first | refine yz ?_ | refine yp b96 fh6 ?_ | refine yp b98 hb ?_ | refine yp b97 hc ?_ | refine yx ?_ | (refine yy ?_ ?_ <;> intro _) | exact zD | exact zL)
  | true =>
  refine ye1 func54 ntmps54 fun _ _ _=>?_
  repeat' (first | refine yz ?_ | refine yp b96 fh6 ?_ | refine yp b98 hb ?_ | refine yp b97 hc ?_ | refine yx ?_ | (refine yy ?_ ?_ <;> intro _) | exact zD | exact zL)
 ·generalize hb0 : ((K.length : Int) != et8 3) = b0;generalize hb1 : decide ((LV.length : Int) + (LA.length : Int) > 0) = b1;generalize hb5 : decide ((LI.length : Int) > 0) = b5;generalize hb6 : ((LO.length : Int) == 0) = b6;generalize hb7 : (sk == 0) = b7;generalize hb9 : (ck == 1) = b9;generalize hb10 : decide (sk ≥ -1) = b10;generalize hb11 : decide (lm ≥ -1) = b11;replace hb0 : (!((2 : Int) == (K.length : Int))) = b0 := by rw [← hb0, fm5]; show _ ↔ ((K.length : Int) != 2) = true; rw [Bool.not_eq_true', beq_eq_false_iff_ne, bne_iff_ne]; exact ⟨Ne.symm, Ne.symm⟩
  clear hb9 hb10 hb11
  cases b0 with
  | true =>
   refine ye1 func54 ntmps54 fun _ _ _=>?_
   repeat' (first | refine yz ?_ | refine yp b96 fh7 ?_ | refine yp b98 hb ?_ | refine yp b97 hc ?_ | refine yx ?_ | (refine yy ?_ ?_ <;> intro _) | exact zD | exact zL)
  | false =>
  cases b1 with
  | true =>
   refine ye1 func54 ntmps54 fun _ _ _=>?_
   repeat' (first | refine yz ?_ | refine yp b96 fh7 ?_ | refine yp b98 hb ?_ | refine yp b97 hc ?_ | refine yx ?_ | (refine yy ?_ ?_ <;> intro _) | exact zD | exact zL)
  | false =>
  cases zc with
  | false =>
   refine ye1 func54 ntmps54 fun _ _ _=>?_
   repeat' (first | refine yz ?_ | refine yp b96 fh7 ?_ | refine yp b98 hb ?_ | refine yp b97 hc ?_ | refine yx ?_ | (refine yy ?_ ?_ <;> intro _) | exact zD | exact zL)
  | true =>
  cases ze with
  | false =>
   refine ye1 func54 ntmps54 fun _ _ _=>?_
   repeat' (first | refine yz ?_ | refine yp b96 fh7 ?_ | refine yp b98 hb ?_ | refine yp b97 hc ?_ | refine yx ?_ | (refine yy ?_ ?_ <;> intro _) | exact zD | exact zL)
  | true =>
  cases zn with
  | false =>
   refine ye1 func54 ntmps54 fun _ _ _=>?_
   repeat' (first | refine yz ?_ | refine yp b96 fh7 ?_ | refine yp b98 hb ?_ | refine yp b97 hc ?_ | refine yx ?_ | (refine yy ?_ ?_ <;> intro _) | exact zD | exact zL)
  | true =>
  cases b5 with
  | true =>
   refine ye1 func54 ntmps54 fun _ _ _=>?_
   repeat' (first | refine yz ?_ | refine yp b96 fh7 ?_ | refine yp b98 hb ?_ | refine yp b97 hc ?_ | refine yx ?_ | (refine yy ?_ ?_ <;> intro _) | exact zD | exact zL)
  | false =>
  cases b6 with
  | false =>
   refine ye1 func54 ntmps54 fun _ _ _=>?_
   repeat' (first | refine yz ?_ | refine yp b96 fh7 ?_ | refine yp b98 hb ?_ | refine yp b97 hc ?_ | refine yx ?_ | (refine yy ?_ ?_ <;> intro _) | exact zD | exact zL)
  | true =>
  cases b7 with
  | false =>
   refine ye1 func54 ntmps54 fun _ _ _=>?_
   repeat' (first | refine yz ?_ | refine yp b96 fh7 ?_ | refine yp b98 hb ?_ | refine yp b97 hc ?_ | refine yx ?_ | (refine yy ?_ ?_ <;> intro _) | exact zD | exact zL)
  | true =>
  refine ye1 func54 ntmps54 fun _ _ _=>?_
  repeat' (first | refine yz ?_ | refine yp b96 fh7 ?_ | refine yp b98 hb ?_ | refine yp b97 hc ?_ | refine yx ?_ | (refine yy ?_ ?_ <;> intro _) | exact zD | exact zL)
 ·generalize hb0 : ((K.length : Int) != et8 6) = b0;generalize hb1 : decide ((LV.length : Int) + (LA.length : Int) > 0) = b1;generalize hb5 : decide ((LI.length : Int) > 0) = b5;generalize hb6 : ((LO.length : Int) == 0) = b6;generalize hb7 : (sk == 0) = b7;generalize hb9 : (ck == 1) = b9;generalize hb10 : decide (sk ≥ -1) = b10;generalize hb11 : decide (lm ≥ -1) = b11;replace hb0 : (!((1 : Int) == (K.length : Int))) = b0 := by rw [← hb0, fm5]; show _ ↔ ((K.length : Int) != 1) = true; rw [Bool.not_eq_true', beq_eq_false_iff_ne, bne_iff_ne]; exact ⟨Ne.symm, Ne.symm⟩
  clear hb9 hb10 hb11
  cases b0 with
  | true =>
   refine ye1 func54 ntmps54 fun _ _ _=>?_
   repeat' (first | refine yz ?_ | refine yp b96 fh8 ?_ | refine yp b98 hb ?_ | refine yp b97 hc ?_ | refine yx ?_ | (refine yy ?_ ?_ <;> intro _) | exact zD | exact zL)
  | false =>
  cases b1 with
  | true =>
   refine ye1 func54 ntmps54 fun _ _ _=>?_
   repeat' (first | refine yz ?_ | refine yp b96 fh8 ?_ | refine yp b98 hb ?_ | refine yp b97 hc ?_ | refine yx ?_ | (refine yy ?_ ?_ <;> intro _) | exact zD | exact zL)
  | false =>
  cases zc with
  | false =>
   refine ye1 func54 ntmps54 fun _ _ _=>?_
   repeat' (first | refine yz ?_ | refine yp b96 fh8 ?_ | refine yp b98 hb ?_ | refine yp b97 hc ?_ | refine yx ?_ | (refine yy ?_ ?_ <;> intro _) | exact zD | exact zL)
  | true =>
  cases zn with
  | false =>
   refine ye1 func54 ntmps54 fun _ _ _=>?_
   repeat' (first | refine yz ?_ | refine yp b96 fh8 ?_ | refine yp b98 hb ?_ | refine yp b97 hc ?_ | refine yx ?_ | (refine yy ?_ ?_ <;> intro _) | exact zD | exact zL)
  | true =>
  cases b5 with
  | true =>
   refine ye1 func54 ntmps54 fun _ _ _=>?_
   repeat' (first | refine yz ?_ | refine yp b96 fh8 ?_ | refine yp b98 hb ?_ | refine yp b97 hc ?_ | refine yx ?_ | (refine yy ?_ ?_ <;> intro _) | exact zD | exact zL)
  | false =>
  cases b6 with
  | false =>
   refine ye1 func54 ntmps54 fun _ _ _=>?_
   repeat' (first | refine yz ?_ | refine yp b96 fh8 ?_ | refine yp b98 hb ?_ | refine yp b97 hc ?_ | refine yx ?_ | (refine yy ?_ ?_ <;> intro _) | exact zD | exact zL)
  | true =>
  cases b7 with
  | false =>
   refine ye1 func54 ntmps54 fun _ _ _=>?_
   repeat' (first | refine yz ?_ | refine yp b96 fh8 ?_ | refine yp b98 hb ?_ | refine yp b97 hc ?_ | refine yx ?_ | (refine yy ?_ ?_ <;> intro _) | exact zD | exact zL)
  | true =>
  refine ye1 func54 ntmps54 fun _ _ _=>?_
  repeat' (first | refine yz ?_ | refine yp b96 fh8 ?_ | refine yp b98 hb ?_ | refine yp b97 hc ?_ | refine yx ?_ | (refine yy ?_ ?_ <;> intro _) | exact zD | exact zL)
 ·generalize hb0 : ((K.length : Int) != et8 11) = b0;generalize hb1 : decide ((LV.length : Int) + (LA.length : Int) > 0) = b1;generalize hb5 : decide ((LI.length : Int) > 0) = b5;generalize hb6 : ((LO.length : Int) == 0) = b6;generalize hb7 : (sk == 0) = b7;generalize hb9 : (ck == 1) = b9;generalize hb10 : decide (sk ≥ -1) = b10;generalize hb11 : decide (lm ≥ -1) = b11;replace hb0 : (!((1 : Int) == (K.length : Int))) = b0 := by rw [← hb0, fm5]; show _ ↔ ((K.length : Int) != 1) = true; rw [Bool.not_eq_true', beq_eq_false_iff_ne, bne_iff_ne]; exact ⟨Ne.symm, Ne.symm⟩
  clear hb9 hb10 hb11
  cases b0 with
  | true =>
   refine ye1 func54 ntmps54 fun _ _ _=>?_
   repeat' (first | refine yz ?_ | refine yp b96 fh9 ?_ | refine yp b98 hb ?_ | refine yp b97 hc ?_ | refine yx ?_ | (refine yy ?_ ?_ <;> intro _) | exact zD | exact zL)
  | false =>
  cases b1 with
  | true =>
   refine ye1 func54 ntmps54 fun _ _ _=>?_
   repeat' (first | refine yz ?_ | refine yp b96 fh9 ?_ | refine yp b98 hb ?_ | refine yp b97 hc ?_ | refine yx ?_ | (refine yy ?_ ?_ <;> intro _) | exact zD | exact zL)
  | false =>
  cases zc with
  | false =>
   refine ye1 func54 ntmps54 fun _ _ _=>?_
   repeat' (first | refine yz ?_ | refine yp b96 fh9 ?_ | refine yp b98 hb ?_ | refine yp b97 hc ?_ | refine yx ?_ | (refine yy ?_ ?_ <;> intro _) | exact zD | exact zL)
  | true =>
  cases b5 with
  | true =>
   refine ye1 func54 ntmps54 fun _ _ _=>?_
   repeat' (first | refine yz ?_ | refine yp b96 fh9 ?_ | refine yp b98 hb ?_ | refine yp b97 hc ?_ | refine yx ?_ | (refine yy ?_ ?_ <;> intro _) | exact zD | exact zL)
  | false =>
  cases b6 with
  | false =>
   refine ye1 func54 ntmps54 fun _ _ _=>?_
   repeat' (first | refine yz ?_ | refine yp b96 fh9 ?_ | refine yp b98 hb ?_ | refine yp b97 hc ?_ | refine yx ?_ | (refine yy ?_ ?_ <;> intro _) | exact zD | exact zL)
  | true =>
  cases b7 with
  | false =>
   refine ye1 func54 ntmps54 fun _ _ _=>?_
   repeat' (first | refine yz ?_ | refine yp b96 fh9 ?_ | refine yp b98 hb ?_ | refine yp b97 hc ?_ | refine yx ?_ | (refine yy ?_ ?_ <;> intro _) | exact zD | exact zL)
  | true =>
  refine ye1 func54 ntmps54 fun _ _ _=>?_
  repeat' (first | refine yz ?_ | refine yp b96 fh9 ?_ | refine yp b98 hb ?_ | refine yp b97 hc ?_ | refine yx ?_ | (refine yy ?_ ?_ <;> intro _) | exact zD | exact zL)
structure SKnJ (cols U : List ByteArray) where
 i : Nat
 hi : i ≤ U.length
 ok : (U.take i).all (fun s => cv9 cols s) = true
theorem fi1 (e : Ex) (cols : List ByteArray) (hn : nd e ≤ 1000000) : Ev E 104 [cy3 e, .sl (cols.map .str)] (.d (.bool (em6 e cols))) := by
 have hu := ff2 e hn;have hul := ek0 e;unfold em6;generalize ej3 e = U at *;have hlu : (U.map D.str).length = U.length := by simp
 refine ye2 func104 ntmps104 fun _ _ _=>?_
 repeat' (first | refine yz ?_ | refine yp b13 hu ?_ | refine yx ?_ | (refine yy ?_ ?_ <;> intro _) | exact zD | exact zL)
 refine ac7 (α := SKnJ cols U) (fun p => ⟨[(1, .d (.sl (cols.map .str))), (2, .ptr 0 0), (5, .d (.sl (U.map .str))), (6, .d (.int p.i))], [oXJ (cy3 e)]⟩) (fun p => U.length - p.i) ⟨0, by omega, rfl⟩ (zle 1) ?_;rintro ⟨i, hi, ok⟩;dsimp only;rcases fk1 i U.length with hlt | hge
 ·have g1 : decide ((i : Int) < ((U.map D.str).length : Int)) = true := by rw [hlu]; simpa using hlt
  have hx0 := fk0 hlt;generalize U[i] = x at hx0;have hx := dk2 (f := D.str) hx0;have hh := cw1 cols x
  cases hc : cv9 cols x with
  | true =>
   rw [hc] at hh
   repeat' (first | refine yz ?_ | refine yi (.str x) hx ?_ | refine yp b62 hh ?_ | refine yx ?_ | (refine yy ?_ ?_ <;> intro _) | exact zD | exact zL)
   refine ac1 ?_;exact ⟨⟨i + 1, by omega, by rw [fp0, hx0, List.all_append, ok]; simp [hc]⟩, by dsimp only; omega, (zle 1)⟩
  | false =>
   rw [hc] at hh
   have hf : (U.all fun s => cv9 cols s) = false := by
    rw [← fr7];intro h;have := fm2.1 h x (fk4 hx0);rw [hc] at this
    cases this
   rw [hf]
   repeat' (first | refine yz ?_ | refine yi (.str x) hx ?_ | refine yp b62 hh ?_ | refine yx ?_ | (refine yy ?_ ?_ <;> intro _) | exact zD | exact zL)
 ·have g1 : decide ((i : Int) < ((U.map D.str).length : Int)) = false := by rw [hlu]; simp; omega
  rw [fn4 hge] at ok;rw [ok]
  repeat' (first | refine yz ?_ | refine yx ?_ | (refine yy ?_ ?_ <;> intro _) | exact zD | exact zL)
theorem fi2 (e : Ex) (cols : List ByteArray) (hn : nd e ≤ 1000000) : Ev E 58 [cy3 e, .sl (cols.map .str), .bool false] (.d (.int (em7 e cols))) := by
 have hd := dv3 e;have hk := di5 e (by omega) (by omega);have h1 := fi1 e cols hn;have h2 := es7 e;unfold em7;generalize em6 e cols = kn at *;generalize dj2 e = ha at *
 cases hc : di3 e != 0 with
 | true =>
  rw [cond_true];generalize di3 e = z at *;refine ye3 func58 ntmps58 fun _ _ _=>?_
  repeat' (first | refine yz ?_ | refine yp b60 hk ?_ | refine yx ?_ | (refine yy ?_ ?_ <;> intro _) | exact zD | exact zL)
 | false =>
  rw [cond_false];have h0 : di3 e = 0 := by simpa using hc
  rw [h0] at hk
  cases kn with
  | false =>
   refine ye3 func58 ntmps58 fun _ _ _=>?_
   repeat' (first | refine yz ?_ | refine yp b60 hk ?_ | refine yp b104 h1 ?_ | refine yx ?_ | (refine yy ?_ ?_ <;> intro _) | exact zD | exact zL)
  | true =>
   cases ha with
   | true =>
    refine ye3 func58 ntmps58 fun _ _ _=>?_
    repeat' (first | refine yz ?_ | refine yp b60 hk ?_ | refine yp b104 h1 ?_ | refine yp b105 h2 ?_ | refine yx ?_ | (refine yy ?_ ?_ <;> intro _) | exact zD | exact zL)
   | false =>
    refine ye3 func58 ntmps58 fun _ _ _=>?_
    repeat' (first | refine yz ?_ | refine yp b60 hk ?_ | refine yp b104 h1 ?_ | refine yp b105 h2 ?_ | refine yx ?_ | (refine yy ?_ ?_ <;> intro _) | exact zD | exact zL)
theorem fi3 (a b : List ByteArray) (ha : a.length ≤ 1000000) (hb : b.length ≤ 1000000) : Ev E 56 [.sl (a.map .str), .sl (b.map .str)] (.d (.sl ((eu1 a b).map .str))) := by
 have hle : (b.map D.str).length = b.length := by simp
 have hj : eu1 a b = joi a b b.length := by unfold eu1 joi; rw [List.take_length]
 rw [hj]
 by_cases h0 : a = []
 ·subst h0;refine ye2 func56 ntmps56 fun _ _ _=>?_
  repeat' (first | (refine bp0 ?_) | (refine bp1 ?_) | refine yz ?_ | refine yx ?_ | (refine yy ?_ ?_ <;> intro _) | exact zD | exact zL)
  refine ac7 (α := SBoP b) (fun p => ⟨[(0, .d (.sl ([].map .str))), (1, .d (.sl (b.map .str))), (5, bp5 0 ((joi [] b p.i).map .str)), (6, .d (.int p.i))], ay5 9 1 ((joi [] b p.i).map .str)⟩) (fun p => b.length - p.i) ⟨0, by omega⟩ (zle 0) ?_;rintro ⟨i, hi⟩;dsimp only;have hol := fc9 [] b i;rcases fk1 i b.length with hlt | hge
  ·have g1 : decide ((i : Int) < ((b.map D.str).length : Int)) = true := by rw [hle]; simpa using hlt
   have hx0 := fk0 hlt;generalize b[i] = x at hx0;have hx := dk2 (f := D.str) hx0;have hc := cw1 [] x;have hat := fc8 (a := []) hx0
   cases hh : cv9 [] x with
   | true =>
    simp [cv9] at hh
   | false =>
    rw [hh, cond_false] at hat;rw [hh] at hc;generalize joi [] b i = o at *
    match o, hol with
    | [], hol =>
     dsimp only [bp5, ay5, List.map]
     repeat' (first | refine yz ?_ | refine yi (.str x) hx ?_ | refine yp b62 hc ?_ | (refine bp2 ?_ ?_; exact ⟨by simp, fun d hd => by (obtain rfl := fl7.1 hd; rfl), by (show 1 * 16 ≤ 140737488355328; omega), by (show 1 ≤ 9223372036854775807; omega)⟩) | refine yx ?_ | (refine yy ?_ ?_ <;> intro _) | exact zD | exact zL)
     refine ac1 ?_;refine ⟨⟨i + 1, by omega⟩, by dsimp only; omega, ?_⟩;dsimp only;rw [hat];exact (bj9 [0])
    | y :: q, hol =>
     dsimp only [bp5, ay5, List.map]
     repeat' (first | refine yz ?_ | refine yi (.str x) hx ?_ | refine yp b62 hc ?_ | (refine qS rfl ⟨by simp, fun d hd => by (obtain rfl := fl7.1 hd; rfl), by (show _ * 16 ≤ 140737488355328; simp; simp only [fk5] at hol; omega), by (show _ ≤ 9223372036854775807; simp; simp only [fk5] at hol; omega)⟩ ?_) | refine yx ?_ | (refine yy ?_ ?_ <;> intro _) | exact zD | exact zL)
     refine ac1 ?_;refine ⟨⟨i + 1, by omega⟩, by dsimp only; omega, ?_⟩;dsimp only;rw [hat, fa7];exact (bj9 [1])
  ·have g1 : decide ((i : Int) < ((b.map D.str).length : Int)) = false := by rw [hle]; simp; omega
   obtain rfl : i = b.length := by omega
   generalize joi [] b b.length = o at *
   match o with
   | [] =>
    dsimp only [bp5, ay5, List.map];refine bp4 5 rfl ?_
    repeat' (first | refine yz ?_ | refine yx ?_ | (refine yy ?_ ?_ <;> intro _) | exact zD | exact zL)
   | y :: q =>
    dsimp only [bp5, ay5, List.map];refine au6 0 rfl ?_;dsimp only [ar8, ar7, as0, ar9, List.map, List.set]
    repeat' (first | refine yz ?_ | refine yx ?_ | (refine yy ?_ ?_ <;> intro _) | exact zD | exact zL)
 ·have hne : a.map D.str ≠ [] := by simpa using h0
  have hal : (a.map D.str).length = a.length := by simp
  have hac : ∀ d ∈ a.map D.str, d.cells.length = 1 := fun d hd => by obtain ⟨s, -, rfl⟩ := fo8.1 hd; rfl
  refine ye2 func56 ntmps56 fun _ _ _=>?_
  repeat' (first | (refine bp0 ?_) | refine yz ?_ | (refine bp2 ?_ ?_; exact ⟨hne, hac, by (show (a.map D.str).length * 16 ≤ 140737488355328; omega), by (show (a.map D.str).length ≤ 9223372036854775807; omega)⟩) | refine yx ?_ | (refine yy ?_ ?_ <;> intro _) | exact zD | exact zL)
  refine ac7 (α := SBoP b) (fun p => ⟨[(0, .d (.sl (a.map .str))), (1, .d (.sl (b.map .str))), (5, bp5 0 ((joi a b p.i).map .str)), (6, .d (.int p.i))], ay5 9 1 ((joi a b p.i).map .str)⟩) (fun p => b.length - p.i) ⟨0, by omega⟩ (by
   have e0 : joi a b 0 = a := by unfold joi; simp
   dsimp only;rw [e0]
   match a, h0 with
   | x :: r, _ => exact (zle 1)) ?_
  rintro ⟨i, hi⟩;dsimp only;have hol := fc9 a b i;rcases fk1 i b.length with hlt | hge
  ·have g1 : decide ((i : Int) < ((b.map D.str).length : Int)) = true := by rw [hle]; simpa using hlt
   have hx0 := fk0 hlt;generalize b[i] = x at hx0;have hx := dk2 (f := D.str) hx0;have hc := cw1 a x;have hat := fc8 (a := a) hx0
   cases hh : cv9 a x with
   | true =>
    rw [hh, cond_true] at hat;rw [hh] at hc;generalize joi a b i = o at *
    match o with
    | [] =>
     dsimp only [bp5, ay5, List.map]
     repeat' (first | refine yz ?_ | refine yi (.str x) hx ?_ | refine yp b62 hc ?_ | refine yx ?_ | (refine yy ?_ ?_ <;> intro _) | exact zD | exact zL)
     refine ac1 ?_;refine ⟨⟨i + 1, by omega⟩, by dsimp only; omega, ?_⟩;dsimp only;rw [hat];exact (zle 0)
    | y :: q =>
     dsimp only [bp5, ay5, List.map]
     repeat' (first | refine yz ?_ | refine yi (.str x) hx ?_ | refine yp b62 hc ?_ | refine yx ?_ | (refine yy ?_ ?_ <;> intro _) | exact zD | exact zL)
     refine ac1 ?_;refine ⟨⟨i + 1, by omega⟩, by dsimp only; omega, ?_⟩;dsimp only;rw [hat];exact (zle 1)
   | false =>
    rw [hh, cond_false] at hat;rw [hh] at hc;generalize joi a b i = o at *
    match o, hol with
    | [], hol =>
     dsimp only [bp5, ay5, List.map]
     repeat' (first | refine yz ?_ | refine yi (.str x) hx ?_ | refine yp b62 hc ?_ | (refine bp2 ?_ ?_; exact ⟨by simp, fun d hd => by (obtain rfl := fl7.1 hd; rfl), by (show 1 * 16 ≤ 140737488355328; omega), by (show 1 ≤ 9223372036854775807; omega)⟩) | refine yx ?_ | (refine yy ?_ ?_ <;> intro _) | exact zD | exact zL)
     refine ac1 ?_;refine ⟨⟨i + 1, by omega⟩, by dsimp only; omega, ?_⟩;dsimp only;rw [hat];exact (bj9 [0])
    | y :: q, hol =>
     dsimp only [bp5, ay5, List.map]
     repeat' (first | refine yz ?_ | refine yi (.str x) hx ?_ | refine yp b62 hc ?_ | (refine qS rfl ⟨by simp, fun d hd => by (obtain rfl := fl7.1 hd; rfl), by (show _ * 16 ≤ 140737488355328; simp; simp only [fk5] at hol; omega), by (show _ ≤ 9223372036854775807; simp; simp only [fk5] at hol; omega)⟩ ?_) | refine yx ?_ | (refine yy ?_ ?_ <;> intro _) | exact zD | exact zL)
     refine ac1 ?_;refine ⟨⟨i + 1, by omega⟩, by dsimp only; omega, ?_⟩;dsimp only;rw [hat, fa7];exact (bj9 [1])
  ·have g1 : decide ((i : Int) < ((b.map D.str).length : Int)) = false := by rw [hle]; simp; omega
   obtain rfl : i = b.length := by omega
   generalize joi a b b.length = o at *
   match o with
   | [] =>
    dsimp only [bp5, ay5, List.map];refine bp4 5 rfl ?_
    repeat' (first | refine yz ?_ | refine yx ?_ | (refine yy ?_ ?_ <;> intro _) | exact zD | exact zL)
   | y :: q =>
    dsimp only [bp5, ay5, List.map];refine au6 0 rfl ?_;dsimp only [ar8, ar7, as0, ar9, List.map, List.set]
    repeat' (first | refine yz ?_ | refine yx ?_ | (refine yy ?_ ?_ <;> intro _) | exact zD | exact zL)
def clS (c : List ByteArray) : D := .sl (c.map .str)
set_option maxHeartbeats 8000000 in
theorem fi4 (b : PB) (K : List D) (cols : List (List ByteArray)) (hsb : SmB b) (hK : K.length = cols.length) (hcw : ∀ c ∈ cols, c.length ≤ 1000000) (hcl : cols.length ≤ 1000000) : Ev E 30 [et3 b K, .sl (cols.map clS)] (.tup [.sl ((eu9 b cols).1.map .str), .int (eu9 b cols).2]) := by
 have hs := fi0 b K hsb.op4 (by omega) (by have := hsb.vs; have := hsb.at_; omega);rw [hK] at hs;generalize hR : eu9 b cols = R
 cases hfm : eu0 b cols.length with
 | false =>
  have hR : R = ([], 25) := by rw [← hR]; unfold eu9; rw [hfm]; rfl
  subst hR;rw [hfm] at hs;refine ye2 func30 ntmps30 fun _ _ _=>?_
  repeat' (first | refine yz ?_ | refine yp b54 hs ?_ | refine yx ?_ | (refine yy ?_ ?_ <;> intro _) | exact zD | exact zL)
 | true =>
  rw [hfm] at hs;have hse := fd5 hfm;rw [hR] at hse;clear hR;have hko := ew8 hfm;have hop := hsb.op4;have hee := hsb.e;clear hfm hsb;obtain ⟨op, cj, cl, e, nm, it, od, sk, lm⟩ := b;dsimp only at hko hse hop hee;rcases hop with rfl | rfl | rfl | rfl
  ·obtain rfl : R = ([], 0) := hse;refine ye2 func30 ntmps30 fun _ _ _=>?_
   repeat' (first | refine yz ?_ | refine yp b54 hs ?_ | refine yx ?_ | (refine yy ?_ ?_ <;> intro _) | exact zD | exact zL)
  ·have hlen : (2 : Int) = cols.length := hko;obtain ⟨c, d, rfl⟩ : ∃ c d, cols = [c, d] := by (match cols, hlen with | [c, d], _ => exact ⟨c, d, rfl⟩)
   have hj := fi3 c d (hcw c (by simp)) (hcw d (by simp));have hk0 : ([c, d].map clS)[((0 : Int)).toNat]? = some (.sl (c.map .str)) := rfl;have hk1 : ([c, d].map clS)[((1 : Int)).toNat]? = some (.sl (d.map .str)) := rfl;obtain rfl : R = (eu1 c d, 0) := hse;generalize eu1 c d = z at *;refine ye2 func30 ntmps30 fun _ _ _=>?_
   repeat' (first | refine yz ?_ | refine yp b54 hs ?_ | refine qI (.sl (c.map .str)) rfl (ap2 rfl) rfl rfl rfl rfl rfl rfl (by first | omega | decide) hk0 ?_ | refine qI (.sl (d.map .str)) rfl (ap2 rfl) rfl rfl rfl rfl rfl rfl (by first | omega | decide) hk1 ?_ | refine yp b56 hj ?_ | refine yx ?_ | (refine yy ?_ ?_ <;> intro _) | exact zD | exact zL)
  ·have hlen : (1 : Int) = cols.length := hko;obtain ⟨c, rfl⟩ : ∃ c, cols = [c] := by (match cols, hlen with | [c], _ => exact ⟨c, rfl⟩)
   have hcc := hcw c (by simp);have hk0 : ([c].map clS)[((0 : Int)).toNat]? = some (.sl (c.map .str)) := rfl;clear hko hlen hcw hcl hK;have hne : c ≠ [] → c.map D.str ≠ [] := fun h => by simpa using h
   have hal : (c.map D.str).length = c.length := by simp
   have hac : ∀ d ∈ c.map D.str, d.cells.length = 1 := fun d hd => by obtain ⟨s, -, rfl⟩ := fo8.1 hd; rfl
   have hx := fi2 e c hee;have hse : R = eu8 (em7 e c) c := hse
   cases hz0 : em7 e c != 0 with
   | true =>
    have hR2 : R = ([], em7 e c) := by rw [hse]; unfold eu8; rw [hz0]; rfl
    subst hR2;clear hse;generalize em7 e c = z at *;refine ye2 func30 ntmps30 fun _ _ _=>?_
    repeat' (first | refine yz ?_ | refine yp b54 hs ?_ | refine qI (.sl (c.map .str)) rfl (ap2 rfl) rfl rfl rfl rfl rfl rfl (by first | omega | decide) hk0 ?_ | refine yp b58 hx ?_ | refine yx ?_ | (refine yy ?_ ?_ <;> intro _) | exact zD | exact zL)
   | false =>
    have hz1 : em7 e c = 0 := by simpa using hz0
    have hR2 : R = (c, 0) := by rw [hse]; unfold eu8; rw [hz0]; rfl
    subst hR2;rw [hz1] at hx;clear hse hz0 hz1
    by_cases h0 : c = []
    ·subst h0;refine ye2 func30 ntmps30 fun _ _ _=>?_
     repeat' (first | (refine bp0 ?_) | (refine bp1 ?_) | refine yz ?_ | refine yp b54 hs ?_ | refine qI (.sl (([] : List ByteArray).map .str)) rfl (ap2 rfl) rfl rfl rfl rfl rfl rfl (by first | omega | decide) hk0 ?_ | refine yp b58 hx ?_ | refine yx ?_ | (refine yy ?_ ?_ <;> intro _) | exact zD | exact zL)
     refine bp4 4 rfl ?_
     repeat' (first | refine yz ?_ | refine yx ?_ | (refine yy ?_ ?_ <;> intro _) | exact zD | exact zL)
    ·refine ye2 func30 ntmps30 fun _ _ _=>?_
     repeat' (first | (refine bp0 ?_) | (refine bp1 ?_) | refine yz ?_ | refine yp b54 hs ?_ | refine qI (.sl (c.map .str)) rfl (ap2 rfl) rfl rfl rfl rfl rfl rfl (by first | omega | decide) hk0 ?_ | refine yp b58 hx ?_ | (refine bp2 ?_ ?_; exact ⟨hne h0, hac, by (show (c.map D.str).length * 16 ≤ 140737488355328; omega), by (show (c.map D.str).length ≤ 9223372036854775807; omega)⟩) | refine yx ?_ | (refine yy ?_ ?_ <;> intro _) | exact zD | exact zL)
     refine au6 1 rfl ?_;dsimp only [ar8, ar7, as0, ar9, List.map, List.set]
     repeat' (first | refine yz ?_ | refine yx ?_ | (refine yy ?_ ?_ <;> intro _) | exact zD | exact zL)
  ·have hlen : (1 : Int) = cols.length := hko;obtain ⟨c, rfl⟩ : ∃ c, cols = [c] := by (match cols, hlen with | [c], _ => exact ⟨c, rfl⟩)
   have hcc := hcw c (by simp);have hk0 : ([c].map clS)[((0 : Int)).toNat]? = some (.sl (c.map .str)) := rfl;clear hko hlen hcw hcl hK;have hne : c ≠ [] → c.map D.str ≠ [] := fun h => by simpa using h
   have hal : (c.map D.str).length = c.length := by simp
   have hac : ∀ d ∈ c.map D.str, d.cells.length = 1 := fun d hd => by obtain ⟨s, -, rfl⟩ := fo8.1 hd; rfl
   have hx := fi2 e c hee;have hd := dv3 e;have hee' : nd e ≤ 1000000 := hee;have hk := di5 e (by omega) (by omega);have hw := dh2 nm;have hh := cw1 c nm;have hse : R = eu8 (eu7 ⟨11, cj, cl, e, nm, it, od, sk, lm⟩ c) (c ++ [nm]) := hse;have hu : eu7 ⟨11, cj, cl, e, nm, it, od, sk, lm⟩ c = bif di3 e != 0 then di3 e else bif !(dg9 nm) || !(em6 e c) then 6 else bif dj2 e then 9 else bif cv9 c nm then 7 else 0 := rfl;have hq : em7 e c = bif di3 e != 0 then di3 e else bif !(em6 e c) then 6 else bif dj2 e then 9 else 0 := rfl;rw [hu] at hse;rw [hq] at hx;clear hu hq;generalize em6 e c = kn at *;generalize dj2 e = ag at *
   cases hc0 : di3 e != 0 with
   | true =>
    have hR2 : R = ([], di3 e) := by rw [hse, hc0, cond_true]; unfold eu8; rw [hc0]; rfl
    subst hR2;clear hse hx;generalize di3 e = z at *;refine ye2 func30 ntmps30 fun _ _ _=>?_
    repeat' (first | refine yz ?_ | refine yp b54 hs ?_ | refine yp b60 hk ?_ | refine yx ?_ | (refine yy ?_ ?_ <;> intro _) | exact zD | exact zL)
   | false =>
   have hc1 : di3 e = 0 := by simpa using hc0
   rw [hc1] at hk;rw [hc0, cond_false] at hse hx;clear hc0 hc1
   cases hwd : dg9 nm with
   | false =>
    rw [hwd] at hse hw;have hR2 : R = ([], 6) := by rw [hse]; rfl
    subst hR2;clear hse hx;refine ye2 func30 ntmps30 fun _ _ _=>?_
    repeat' (first | refine yz ?_ | refine yp b54 hs ?_ | refine yp b60 hk ?_ | refine yp b61 hw ?_ | refine yx ?_ | (refine yy ?_ ?_ <;> intro _) | exact zD | exact zL)
   | true =>
   rw [hwd] at hse hw;rw [fp3, fn1] at hse
   cases kn with
   | false =>
    have hR2 : R = ([], 6) := by rw [hse]; rfl
    subst hR2;clear hse;have hx : Ev E 58 [cy3 e, .sl (c.map .str), .bool false] (.d (.int 6)) := hx;refine ye2 func30 ntmps30 fun _ _ _=>?_
    repeat' (first | refine yz ?_ | refine yp b54 hs ?_ | refine yp b60 hk ?_ | refine yp b61 hw ?_ | refine qI (.sl (c.map .str)) rfl (ap2 rfl) rfl rfl rfl rfl rfl rfl (by first | omega | decide) hk0 ?_ | refine yp b58 hx ?_ | refine yx ?_ | (refine yy ?_ ?_ <;> intro _) | exact zD | exact zL)
   | true =>
   cases ag with
   | true =>
    have hR2 : R = ([], 9) := by rw [hse]; rfl
    subst hR2;clear hse;have hx : Ev E 58 [cy3 e, .sl (c.map .str), .bool false] (.d (.int 9)) := hx;refine ye2 func30 ntmps30 fun _ _ _=>?_
    repeat' (first | refine yz ?_ | refine yp b54 hs ?_ | refine yp b60 hk ?_ | refine yp b61 hw ?_ | refine qI (.sl (c.map .str)) rfl (ap2 rfl) rfl rfl rfl rfl rfl rfl (by first | omega | decide) hk0 ?_ | refine yp b58 hx ?_ | refine yx ?_ | (refine yy ?_ ?_ <;> intro _) | exact zD | exact zL)
   | false =>
   have hx : Ev E 58 [cy3 e, .sl (c.map .str), .bool false] (.d (.int 0)) := hx
   cases hhs : cv9 c nm with
   | true =>
    rw [hhs] at hse hh;have hR2 : R = ([], 7) := by rw [hse]; rfl
    subst hR2;clear hse;refine ye2 func30 ntmps30 fun _ _ _=>?_
    repeat' (first | refine yz ?_ | refine yp b54 hs ?_ | refine yp b60 hk ?_ | refine yp b61 hw ?_ | refine qI (.sl (c.map .str)) rfl (ap2 rfl) rfl rfl rfl rfl rfl rfl (by first | omega | decide) hk0 ?_ | refine yp b58 hx ?_ | refine yp b62 hh ?_ | refine yx ?_ | (refine yy ?_ ?_ <;> intro _) | exact zD | exact zL)
   | false =>
    rw [hhs] at hse hh;have hR2 : R = (c ++ [nm], 0) := by rw [hse]; rfl
    subst hR2;clear hse;have hmp : (c ++ [nm]).map D.str = c.map D.str ++ [.str nm] := by simp
    dsimp only;rw [hmp]
    by_cases h0 : c = []
    ·subst h0;refine ye2 func30 ntmps30 fun _ _ _=>?_
     repeat' (first | refine bk5 (id := 38) [8] [] (by kernel_rfl) (by kernel_rfl) (by repeat (first | exact trivial | refine ⟨⟨rfl, rfl⟩, ?_⟩ | refine ⟨trivial, ?_⟩)) ?_ | refine reF (id := 38) (i := 0) 8 (by kernel_rfl) rfl ?_ | refine reF (id := 38) (i := 9) 2 (by kernel_rfl) rfl ?_ | refine reN ?_ | (refine bp0 ?_) | (refine bp1 ?_) | refine yz ?_ | refine yp b54 hs ?_ | refine yp b60 hk ?_ | refine yp b61 hw ?_ | refine qI (.sl (([] : List ByteArray).map .str)) rfl (ap2 rfl) rfl rfl rfl rfl rfl rfl (by first | omega | decide) hk0 ?_ | refine yp b58 hx ?_ | refine yp b62 hh ?_ | refine reZ (id := 38) (i := 8) (⟨by simp, fun d hd => by (obtain rfl := fl7.1 hd; rfl), by (show 1 * 16 ≤ 140737488355328; omega), by (show 1 ≤ 9223372036854775807; omega)⟩) rfl rfl rfl rfl rfl rfl rfl rfl rfl rfl (by repeat (first | exact trivial | refine ⟨⟨rfl, rfl⟩, ?_⟩ | refine ⟨trivial, ?_⟩)) ?_ | refine yx ?_ | (refine yy ?_ ?_ <;> intro _) | exact zD | exact zL)
     refine au6 1 rfl ?_;dsimp only [ar8, ar7, as0, ar9, List.map, List.set]
     repeat' (first | refine yz ?_ | refine yx ?_ | (refine yy ?_ ?_ <;> intro _) | exact zD | exact zL)
    ·refine ye2 func30 ntmps30 fun _ _ _=>?_
     repeat' (first | refine bk5 (id := 38) [4,8] [] (by kernel_rfl) (by kernel_rfl) (by repeat (first | exact trivial | refine ⟨⟨rfl, rfl⟩, ?_⟩ | refine ⟨trivial, ?_⟩)) ?_ | refine reF (id := 38) (i := 0) 4 (by kernel_rfl) rfl ?_ | (refine reV (id := 38) (i := 5) rfl rfl rfl rfl rfl rfl ?_ ?_; (first | exact True.intro | rfl | assumption | omega | (simp only [inR]; omega) | ((show _ ≤ (9223372036854775807 : Nat)); (try simp only [ByteArray.size_append]); omega) | exact av0 (by omega) (by omega) | exact av1 (by omega) (by omega) | exact ⟨rfl, by decide, by decide⟩)) | (refine reV (id := 38) (i := 6) rfl rfl rfl rfl rfl rfl ?_ ?_; (first | exact True.intro | rfl | assumption | omega | (simp only [inR]; omega) | ((show _ ≤ (9223372036854775807 : Nat)); (try simp only [ByteArray.size_append]); omega) | exact av0 (by omega) (by omega) | exact av1 (by omega) (by omega) | exact ⟨rfl, by decide, by decide⟩)) | refine reF (id := 38) (i := 9) 2 (by kernel_rfl) rfl ?_ | refine reN ?_ | (refine bp0 ?_) | (refine bp1 ?_) | refine yz ?_ | refine yp b54 hs ?_ | refine yp b60 hk ?_ | refine yp b61 hw ?_ | refine qI (.sl (c.map .str)) rfl (ap2 rfl) rfl rfl rfl rfl rfl rfl (by first | omega | decide) hk0 ?_ | refine yp b58 hx ?_ | refine yp b62 hh ?_ | refine reZ (id := 38) (i := 4) (⟨hne h0, hac, by (show (c.map D.str).length * 16 ≤ 140737488355328; omega), by (show (c.map D.str).length ≤ 9223372036854775807; omega)⟩) rfl rfl rfl rfl rfl rfl rfl rfl rfl rfl (by repeat (first | exact trivial | refine ⟨⟨rfl, rfl⟩, ?_⟩ | refine ⟨trivial, ?_⟩)) ?_ | (refine reV2 (id := 38) (i := 7) rfl rfl rfl rfl rfl rfl ?_ ?_; (first | exact True.intro | rfl | assumption | omega | (simp only [inR]; omega) | ((show _ ≤ (9223372036854775807 : Nat)); (try simp only [ByteArray.size_append]); omega) | exact av0 (by omega) (by omega) | exact av1 (by omega) (by omega) | exact ⟨rfl, by decide, by decide⟩)) | refine reS (id := 38) (i := 8) rfl rfl rfl rfl (⟨by simp, fun d hd => by (obtain rfl := fl7.1 hd; rfl), by (show ((c.map D.str).length + 1) * 16 ≤ 140737488355328; rw [fl4]; omega), by (show (c.map D.str).length + 1 ≤ 9223372036854775807; rw [fl4]; omega)⟩) (by repeat (first | exact trivial | refine ⟨⟨rfl, rfl⟩, ?_⟩ | refine ⟨trivial, ?_⟩)) ?_ | refine yx ?_ | (refine yy ?_ ?_ <;> intro _) | exact zD | exact zL)
     refine au6 2 rfl ?_;dsimp only [ar8, ar7, as0, ar9, List.map, List.set]
     repeat' (first | refine yz ?_ | refine yx ?_ | (refine yy ?_ ?_ <;> intro _) | exact zD | exact zL)
set_option maxHeartbeats 4000000 in
theorem fi5 (p : Pl) : alB SmB p → szP p ≤ 1000000 → cwP p ≤ 1000000 → Ev E 20 [et4 p] (.tup [.sl ((ev0 p).1.map .str), .int (ev0 p).2]) := by
 refine et2 (P := fun p => alB SmB p → szP p ≤ 1000000 → cwP p ≤ 1000000 → Ev E 20 [et4 p] (.tup [.sl ((ev0 p).1.map .str), .int (ev0 p).2])) (fun b ks ih hs hz hw => ?_) p;rw [alB] at hs;rw [szP] at hz;rw [cwP] at hw;have hks := ey7 hs.2;have hkl := ev6 ks;have hsb := hs.1;have hle : (ks.map et4).length = ks.length := by simp
 rw [et7];generalize hR : ev0 (.mk b ks) = R;refine ye1 func20 ntmps20 fun _ _ _=>?_
 repeat' (first | refine yz ?_ | refine yx ?_ | (refine yy ?_ ?_ <;> intro _) | exact zD | exact zL)
 refine ac7 (α := SiC ks) (fun q => ⟨[(1, .ptr 0 0), (4, bi6 1 ((ks.take q.i).map fd1)), (5, .d (.int q.i))], [oPK b (ks.map et4)] ++ ay5 29 1 ((ks.take q.i).map fd1)⟩) (fun q => ks.length - q.i) ⟨0, by omega, fun _ h => by cases h⟩ (zle 1) ?_;rintro ⟨i, hi, ok⟩;dsimp only;rcases fk1 i ks.length with hlt | hge
 ·have g1 : decide ((i : Int) < ((ks.map et4).length : Int)) = true := by rw [hle]; simpa using hlt
  have hx0 := fk0 hlt;generalize ks[i] = x at hx0;have hx := dk2 (f := et4) hx0;have hm := fk4 hx0;have hsx := ev5 hm;have hwx := fa9 hm;have hc := ih x hm (hks x hm) (by omega) (by omega);have htk : (ks.take (i + 1)).map fd1 = (ks.take i).map fd1 ++ [fd1 x] := by rw [fp0, hx0, fo1]; rfl
  have hln : ((ks.take i).map fd1).length ≤ 1000000 := by rw [fl4, fm1]; omega
  rw [fc0] at hx hc
  cases hz0 : (ev0 x).2 != 0 with
  | true =>
   have hR2 : R = ([], (ev0 x).2) := by
    rw [← hR, ev0, fd2 hx0 ok (by simpa using hz0), hz0];rfl
   subst hR2;clear hR htk;generalize (ev0 x).2 = z at *;generalize (ks.take i).map fd1 = K at *
   match K with
   | [] =>
    dsimp only [bi6, ay5, List.append, HAppend.hAppend, Append.append]
    repeat' (first | refine yz ?_ | refine qI (et3 x.b (x.ks.map et4)) rfl (ap2 rfl) rfl rfl rfl rfl rfl rfl (by first | omega | decide) hx ?_ | refine yp b20 hc ?_ | refine yx ?_ | (refine yy ?_ ?_ <;> intro _) | exact zD | exact zL)
   | d :: r =>
    dsimp only [bi6, ay5, List.append, HAppend.hAppend, Append.append]
    repeat' (first | refine yz ?_ | refine qI (et3 x.b (x.ks.map et4)) rfl (ap2 rfl) rfl rfl rfl rfl rfl rfl (by first | omega | decide) hx ?_ | refine yp b20 hc ?_ | refine yx ?_ | (refine yy ?_ ?_ <;> intro _) | exact zD | exact zL)
  | false =>
   have hz1 : (ev0 x).2 = 0 := by simpa using hz0
   have hok : ∀ p ∈ ks.take (i + 1), (ev0 p).2 = 0 := by
    rw [fp0, hx0];intro p hp;rcases fm8.1 hp with h | h
    ·exact ok p h
    ·obtain rfl : p = x := by simpa using h
     exact hz1
   rw [hz1] at hc;have hcd : fd1 x = .sl ((ev0 x).1.map .str) := rfl;rw [hcd] at htk;generalize (ev0 x).1 = cx at *;generalize (ks.take i).map fd1 = K at *
   match K, hln with
   | [], hln =>
    dsimp only [bi6, ay5, List.append, HAppend.hAppend, Append.append]
    repeat' (first | refine yz ?_ | refine qI (et3 x.b (x.ks.map et4)) rfl (ap2 rfl) rfl rfl rfl rfl rfl rfl (by first | omega | decide) hx ?_ | refine yp b20 hc ?_ | (refine qS rfl ⟨by simp, fun d hd => by (obtain rfl := fl7.1 hd; rfl), by (show _ * 24 ≤ 140737488355328; simp <;> omega), by (show _ ≤ 9223372036854775807; simp <;> omega)⟩ ?_) | refine yx ?_ | (refine yy ?_ ?_ <;> intro _) | exact zD | exact zL)
    refine ac1 ?_;refine ⟨⟨i + 1, by omega, hok⟩, by dsimp only; omega, ?_⟩;dsimp only;rw [htk];exact (bj9 [0, 1])
   | d :: r, hln =>
    simp only [fk5] at hln;dsimp only [bi6, ay5, List.append, HAppend.hAppend, Append.append]
    repeat' (first | refine yz ?_ | refine qI (et3 x.b (x.ks.map et4)) rfl (ap2 rfl) rfl rfl rfl rfl rfl rfl (by first | omega | decide) hx ?_ | refine yp b20 hc ?_ | (refine qS rfl ⟨by simp, fun d hd => by (obtain rfl := fl7.1 hd; rfl), by (show _ * 24 ≤ 140737488355328; simp <;> omega), by (show _ ≤ 9223372036854775807; simp <;> omega)⟩ ?_) | refine yx ?_ | (refine yy ?_ ?_ <;> intro _) | exact zD | exact zL)
    refine ac1 ?_;refine ⟨⟨i + 1, by omega, hok⟩, by dsimp only; omega, ?_⟩;dsimp only;rw [htk];exact (bj9 [0, 2])
 ·have g1 : decide ((i : Int) < ((ks.map et4).length : Int)) = false := by rw [hle]; simp; omega
  have hall : ∀ p ∈ ks, (ev0 p).2 = 0 := by rw [fn4 hge] at ok; exact ok
  have hsel : R = eu9 b (ks.map fun p => (ev0 p).1) := by rw [← hR, ev0, fd3 hall]; rfl
  have hcw : ∀ c ∈ ks.map (fun p => (ev0 p).1), c.length ≤ 1000000 := fun c hc => by
   obtain ⟨p, hp, rfl⟩ := fo8.1 hc;have h1 := fb6 p;have h2 := fa9 hp;omega
  have hself := fi4 b (ks.map et4) (ks.map fun p => (ev0 p).1) hsb (by simp) hcw (by simp; omega);rw [← hsel] at hself;have hmm : (ks.map fun p => (ev0 p).1).map clS = ks.map fd1 := by rw [List.map_map]; rfl
  rw [hmm] at hself;rw [fn4 hge];clear hsel hcw hmm ih hks hall;generalize ks.map fd1 = K at *
  match K, hself with
  | [], hself =>
   dsimp only [bi6, ay5, List.append, HAppend.hAppend, Append.append];refine bk6 4 rfl ?_
   repeat' (first | refine yz ?_ | refine yp b30 hself ?_ | refine yx ?_ | (refine yy ?_ ?_ <;> intro _) | exact zD | exact zL)
  | d :: r, hself =>
   dsimp only [bi6, ay5, List.append, HAppend.hAppend, Append.append];refine au6 1 rfl ?_;dsimp only [ar8, ar7, as0, ar9, List.map, List.set]
   repeat' (first | refine yz ?_ | refine yp b30 hself ?_ | refine yx ?_ | (refine yy ?_ ?_ <;> intro _) | exact zD | exact zL)
theorem fi6 (p : Pl) (hs : alB SmB p) (hz : szP p ≤ 1000000) (hw : cwP p ≤ 1000000) : Ev E 10 [et4 p] (.tup [.sl ((ev4 p).1.map .str), .int (ev4 p).2]) := by
 have h1 := fh4 p hz;have h2 := fh1 p hz;have h3 := fi5 p hs hz hw;unfold ev4;generalize dpP p = dd at *;generalize szP p = sz at *;generalize ev0 p = c at *;obtain ⟨b, ks⟩ := p;rw [et7] at *
 cases c1 : decide (dd > 200) with
 | true =>
  rw [cond_true];have g1 := yT ((dd : Int) > 200) (by have := of_decide_eq_true c1; omega);refine ye1 func10 ntmps10 fun _ _ _=>?_
  repeat' (first | refine yz ?_ | refine yp b18 h1 ?_ | refine yx ?_ | (refine yy ?_ ?_ <;> intro _) | exact zD | exact zL)
 | false =>
  have g1 := yF ((dd : Int) > 200) (by have := of_decide_eq_false c1; omega);rw [cond_false]
  cases c2 : decide (sz > 2000) with
  | true =>
   rw [cond_true];have g2 := yT ((sz : Int) > 2000) (by have := of_decide_eq_true c2; omega);refine ye1 func10 ntmps10 fun _ _ _=>?_
   repeat' (first | refine yz ?_ | refine yp b18 h1 ?_ | refine yp b19 h2 ?_ | refine yx ?_ | (refine yy ?_ ?_ <;> intro _) | exact zD | exact zL)
  | false =>
   rw [cond_false];have g2 := yF ((sz : Int) > 2000) (by have := of_decide_eq_false c2; omega);refine ye1 func10 ntmps10 fun _ _ _=>?_
   repeat' (first | refine yz ?_ | refine yp b18 h1 ?_ | refine yp b19 h2 ?_ | refine yp b20 h3 ?_ | refine yx ?_ | (refine yy ?_ ?_ <;> intro _) | exact zD | exact zL)
def fi7 (e : Ex) (s : ByteArray) : Bool := bif e.op == 18 then false else match ej3 e with
 | [x] => x.toList == s.toList
 | _ => false
theorem fi8 {e : Ex} {s : ByteArray} (h : fi7 e s = true) : e.op ≠ 18 ∧ ej3 e = [s] := by
 unfold fi7 at h
 cases c : e.op == 18 with
 | true => rw [c] at h; cases h
 | false =>
  rw [c, cond_false] at h;refine ⟨by simpa using c, ?_⟩
  match hu : ej3 e, h with
  | [x], h =>
   obtain rfl := eh4 (by simpa using h : x.toList = s.toList);rfl
theorem fi9 (e : Ex) (s : ByteArray) (hn : nd e ≤ 1000000) : Ev E 6 [cy3 e, .str s] (.d (.bool (fi7 e s))) := by
 have hu := ff2 e hn;unfold fi7;generalize ej3 e = U at *;obtain ⟨op, ⟨vk, vn, vd, vS, vl⟩, nm, ds, ks⟩ := e;show Ev E 6 _ (.d (.bool (bif op == 18 then false else _)))
 cases c : op == 18 with
 | true =>
  have g0 : (!(op == 18)) = false := by rw [c]; rfl
  refine ye2 func6 ntmps6 fun _ _ _=>?_
  repeat' (first | refine yz ?_ | refine yp b13 hu ?_ | refine yx ?_ | (refine yy ?_ ?_ <;> intro _) | exact zD | exact zL)
 | false =>
  have g0 : (!(op == 18)) = true := by rw [c]; rfl
  match U, hu with
  | [], hu =>
   refine ye2 func6 ntmps6 fun _ _ _=>?_
   repeat' (first | refine yz ?_ | refine yp b13 hu ?_ | refine yx ?_ | (refine yy ?_ ?_ <;> intro _) | exact zD | exact zL)
  | [x], hu =>
   have hx : (([x] : List ByteArray).map D.str)[((0 : Int)).toNat]? = some (.str x) := rfl;refine ye2 func6 ntmps6 fun _ _ _=>?_
   repeat' (first | refine yz ?_ | refine yp b13 hu ?_ | refine yi (.str x) hx ?_ | refine yx ?_ | (refine yy ?_ ?_ <;> intro _) | exact zD | exact zL)
  | x :: y :: r, hu =>
   have g1 : ((((x :: y :: r).map D.str).length : Int) == 1) = false := by simp; omega
   refine ye2 func6 ntmps6 fun _ _ _=>?_
   repeat' (first | refine yz ?_ | refine yp b13 hu ?_ | refine yx ?_ | (refine yy ?_ ?_ <;> intro _) | exact zD | exact zL)
def lfD (s : ByteArray) : D := et3 (opB 11 (.mk 22 br5 ⟨#[]⟩ false []) s) [et3 (opB 1 zeX ⟨#[]⟩) []]
theorem fj0 (s : ByteArray) : et4 (lfQ s) = lfD s := by
 rw [lfQ, et7, fl5, fm9, et7, fm9];rfl
theorem fj1 (a b : Ex) : et4 (jpQ a b) = et3 (opB 6 (ec5 (ec5 a ex1) b) ⟨#[]⟩) [et3 (opB 3 zeX ⟨#[]⟩) [lfD naQ, lfD nbQ]] := by
 rw [jpQ, jnQ, et7, fl5, fm9, et7, fl5, fl5, fm9, fj0, fj0]
theorem fj2 (a b : Ex) : et4 (jqQ a b) = et3 (opB 6 ex1 ⟨#[]⟩) [et3 (opB 3 zeX ⟨#[]⟩) [et3 (opB 6 a ⟨#[]⟩) [lfD naQ], et3 (opB 6 b ⟨#[]⟩) [lfD nbQ]]] := by
 rw [jqQ, jnQ, et7, fl5, fm9, et7, fl5, fl5, fm9, et7, et7, fl5, fm9, fl5, fm9, fj0, fj0]
theorem fj3 {op : Int} {e : Ex} {s : ByteArray} (ho : op = 1 ∨ op = 3 ∨ op = 6 ∨ op = 11) (he : nd e ≤ 1000000) : SmB (opB op e s) := ⟨fm7 _, fm7 _, by show ez1 zCL ≤ _; decide, he, ho⟩
theorem fj4 : nd zeX = 1 ∧ nd ex1 = 3 ∧ nd (.mk 22 br5 ⟨#[]⟩ false []) = 1 := by decide +kernel
theorem fj5 (s : ByteArray) : alB SmB (lfQ s) := by
 have h := fj4;simp only [lfQ, alB, ey6, and_true];exact ⟨fj3 (by simp) (by omega), fj3 (by simp) (by omega)⟩
theorem fj6 {a b : Ex} (h : nd a + nd b ≤ 1000) : alB SmB (jpQ a b) := by
 have h0 := fj4;have h1 : nd (ec5 (ec5 a ex1) b) = nd a + nd b + 5 := by rw [ey5, ey5]; omega
 simp only [jpQ, jnQ, alB, ey6, and_true];exact ⟨fj3 (by simp) (by omega), fj3 (by simp) (by omega), fj5 _, fj5 _⟩
theorem sm_jq {a b : Ex} (h : nd a + nd b ≤ 1000) : alB SmB (jqQ a b) := by
 have h0 := fj4;simp only [jqQ, jnQ, alB, ey6, and_true];exact ⟨fj3 (by simp) (by omega), fj3 (by simp) (by omega), ⟨fj3 (by simp) (by omega), fj5 _⟩, fj3 (by simp) (by omega), fj5 _⟩
theorem fj7 (op : Int) (e : Ex) (s : ByteArray) : cwB (opB op e s) ≤ 1 := by
 unfold cwB;simp [opB, zCL, eu3]
theorem fj8 {a b : Ex} (sa : ej3 a = [naQ]) (oa : a.op ≠ 18) (sb : ej3 b = [nbQ]) (ob : b.op ≠ 18) (hn : nd a + nd b ≤ 1000) (h : (ev4 (jpQ a b)).2 = 0) : Ev E 11 [et4 (jpQ a b)] (.d (et4 (jqQ a b))) := by
 have h0 := fj4;have h1 : nd (ec5 (ec5 a ex1) b) = nd a + nd b + 5 := by rw [ey5, ey5]; omega
 have hc := fun op e s => fj7 op e s
 have z1 : szP (jpQ a b) = 6 := by simp [jpQ, jnQ, lfQ, szP, ev3]
 have z2 : szP (jqQ a b) = 8 := by simp [jqQ, jnQ, lfQ, szP, ev3]
 have w1 : cwP (jpQ a b) ≤ 100 := by
  simp only [jpQ, jnQ, lfQ, cwP, fa8];have := hc 6 (ec5 (ec5 a ex1) b) ⟨#[]⟩;have := hc 3 zeX ⟨#[]⟩;have := hc 1 zeX ⟨#[]⟩;have := hc 11 (.mk 22 br5 ⟨#[]⟩ false []) naQ;have := hc 11 (.mk 22 br5 ⟨#[]⟩ false []) nbQ;omega
 have w2 : cwP (jqQ a b) ≤ 100 := by
  simp only [jqQ, jnQ, lfQ, cwP, fa8];have := hc 6 ex1 ⟨#[]⟩;have := hc 6 a ⟨#[]⟩;have := hc 6 b ⟨#[]⟩;have := hc 3 zeX ⟨#[]⟩;have := hc 1 zeX ⟨#[]⟩;have := hc 11 (.mk 22 br5 ⟨#[]⟩ false []) naQ;have := hc 11 (.mk 22 br5 ⟨#[]⟩ false []) nbQ;omega
 have c1 : cfP (jpQ a b) ≤ 2000 := by
  simp only [jpQ, jnQ, lfQ, cfP, fg2, opB];omega
 obtain ⟨d1, -, f1, -⟩ := ex0 h;have hp := fg9 (jpQ a b) (fj6 hn) f1 d1 (by omega) (by omega) [] (fun _ h => by cases h) (by simp; omega);have hq := ey3 sa oa sb ob;have hr := fh0 (jpQ a b) (fj6 hn) (by omega) (by omega) fun _ => ⟨hp, by rw [hq]; exact sm_jq hn, by rw [hq]; omega, by rw [hq]; omega⟩
 rw [join_law sa oa sb ob h] at hr;exact hr
theorem fj9 {a b c : Ex} (h : bj4 [cy3 a, cy3 b, cy3 c] ≤ 1048576) : nd a ≤ 1000000 ∧ nd b ≤ 1000000 ∧ nd c ≤ 1000000 := by
 have h1 := dv2 a;have h2 := dv2 b;have h3 := dv2 c;rw [bj4, bj4, bj4, bj4] at h;omega
def JPD (a b : Ex) : D := et3 (opB 6 (ec5 (ec5 a ex1) b) ⟨#[]⟩) [et3 (opB 3 zeX ⟨#[]⟩) [lfD naQ, lfD nbQ]]
abbrev oRJ (d : D) : aa5 := .var 40 (.cs (d.cells.map .d))
abbrev oLJ (d : D) : aa5 := .var 40 (.w (.d d))
abbrev oEJ (e : Ex) : aa5 := .var 27 (.w (.d (cy3 e)))
set_option maxHeartbeats 16000000 in
theorem law_join36 (a b c : Ex) (h : bj4 [cy3 a, cy3 b, cy3 c] ≤ 1048576) : Ev E 3 [cy3 a, cy3 b, cy3 c] (.d (.bool true)) := by
 obtain ⟨na, nb, nc⟩ := fj9 h
 have hl := ee8 [a, b, c] fun x hx => by
  simp only [fl1, List.not_mem_nil, or_false] at hx;rcases hx with rfl | rfl | rfl <;> omega
 have za := ee5 a (by omega);have zb := ee5 b (by omega);have zc := ee5 c (by omega);have ya := dy6 a;have yb := dy6 b;have yc := dy6 c;have sa := fi9 a naQ na;have sb := fi9 b nbQ nb;have hal := es5;have o1 : Ev E 8 [.int 12, cy3 (vrX naQ), cy3 (vrX nbQ)] (.d (cy3 ex1)) := ee4 12 _ _;have o2 : Ev E 8 [.int 18, cy3 a, cy3 ex1] (.d (cy3 (ec5 a ex1))) := ee4 18 _ _;have o3 : Ev E 8 [.int 18, cy3 (ec5 a ex1), cy3 b] (.d (cy3 (ec5 (ec5 a ex1) b))) := ee4 18 _ _;have n1 : Ev E 9 [.str naQ] (.d (cy3 (vrX naQ))) := ee3 naQ;have n2 : Ev E 9 [.str nbQ] (.d (cy3 (vrX nbQ))) := ee3 nbQ;have hl : Ev E 4 [.sl [cy3 a, cy3 b, cy3 c]] (.d (.bool (ee6 [a, b, c] 0))) := hl
 cases c1 : ee6 [a, b, c] 0 with
 | false =>
  rw [c1] at hl;refine ye3 func3 ntmps3 fun _ _ _=>?_
  repeat' (first | refine yz ?_ | refine yp b4 hl ?_ | refine yp b7 hal ?_ | refine yx ?_ | (refine yy ?_ ?_ <;> intro _) | exact zD | exact zL)
 | true =>
 rw [c1] at hl
 cases c2 : decide (szE a + szE b + szE c > 200) with
 | true =>
  refine ye3 func3 ntmps3 fun _ _ _=>?_
  repeat' (first | refine yz ?_ | refine yp b4 hl ?_ | refine yp b5 za ?_ | refine yp b5 zb ?_ | refine yp b5 zc ?_ | refine yp b7 hal ?_ | refine yx ?_ | (refine yy ?_ ?_ <;> intro _) | exact zD | exact zL)
 | false =>
 cases c3 : fi7 a naQ with
 | false =>
  rw [c3] at sa;refine ye3 func3 ntmps3 fun _ _ _=>?_
  repeat' (first | refine yz ?_ | refine yp b4 hl ?_ | refine yp b5 za ?_ | refine yp b5 zb ?_ | refine yp b5 zc ?_ | refine yp b6 sa ?_ | refine yp b7 hal ?_ | refine yx ?_ | (refine yy ?_ ?_ <;> intro _) | exact zD | exact zL)
 | true =>
 rw [c3] at sa
 cases c4 : fi7 b nbQ with
 | false =>
  rw [c4] at sb;refine ye3 func3 ntmps3 fun _ _ _=>?_
  repeat' (first | refine yz ?_ | refine yp b4 hl ?_ | refine yp b5 za ?_ | refine yp b5 zb ?_ | refine yp b5 zc ?_ | refine yp b6 sa ?_ | refine yp b6 sb ?_ | refine yp b7 hal ?_ | refine yx ?_ | (refine yy ?_ ?_ <;> intro _) | exact zD | exact zL)
 | true =>
 rw [c4] at sb;have hs2 := of_decide_eq_false c2;have ea := dy8 a (by omega);have eb := dy8 b (by omega);have hn : nd a + nd b ≤ 1000 := by omega
 have h0 := fj4
 have w1 : cwP (jpQ a b) ≤ 100 := by
  have hc := fun op e s => fj7 op e s
  simp only [jpQ, jnQ, lfQ, cwP, fa8];have := hc 6 (ec5 (ec5 a ex1) b) ⟨#[]⟩;have := hc 3 zeX ⟨#[]⟩;have := hc 1 zeX ⟨#[]⟩;have := hc 11 (.mk 22 br5 ⟨#[]⟩ false []) naQ;have := hc 11 (.mk 22 br5 ⟨#[]⟩ false []) nbQ;omega
 have z1 : szP (jpQ a b) = 6 := by simp [jpQ, jnQ, lfQ, szP, ev3]
 have hk := fi6 (jpQ a b) (fj6 hn) (by omega) (by omega);obtain ⟨oa, ua⟩ := fi8 c3;obtain ⟨ob, ub⟩ := fi8 c4
 cases c5 : (ev4 (jpQ a b)).2 != 0 with
 | true =>
  generalize ev4 (jpQ a b) = ck at *;rw [fj1] at hk;have hk : Ev E 10 [JPD a b] _ := hk;refine ye3 func3 ntmps3 fun _ _ _=>?_
  repeat' (first | refine yz ?_ | refine yp b4 hl ?_ | refine yp b5 za ?_ | refine yp b5 zb ?_ | refine yp b5 zc ?_ | refine yp b6 sa ?_ | refine yp b6 sb ?_ | refine yx ?_ | (refine yy ?_ ?_ <;> intro _) | exact zD | exact zL)
  refine SGo.ghost (s1 := ⟨[(3, .ptr 0 0), (4, .ptr 1 0), (5, .ptr 2 0), (7, .ptr 3 0), (8, .ptr 4 0)], [oEJ a, oEJ b, oEJ c, oLJ (lfD naQ), oRJ (lfD nbQ)]⟩) (zle 5) ?_
  repeat' (first | refine yu 7 [5,6] [] ?_ | refine yk 7 0 5 ?_ | refine yw ?_ | refine rgN ?_ | refine yv ?_ | refine yz ?_ | refine yp b9 n1 ?_ | refine yp b9 n2 ?_ | refine yp b8 o1 ?_ | refine yp b8 o2 ?_ | refine yp b8 o3 ?_ | refine yx ?_ | (refine yy ?_ ?_ <;> intro _) | exact zD | exact zL)
  refine SGo.ghost (s1 := ⟨[(3, .ptr 0 0), (4, .ptr 1 0), (5, .ptr 2 0), (9, .ptr 5 0), (11, .ptr 7 0), (67, .d (JPD a b))], [oEJ a, oEJ b, oEJ c, oLJ (lfD naQ), oRJ (lfD nbQ), oEJ ex1, oEJ (ec5 (ec5 a ex1) b), oLJ (JPD a b)]⟩) (zle 8) ?_
  repeat' (first | refine yz ?_ | refine yp b10 hk ?_ | refine yp b7 hal ?_ | refine yx ?_ | (refine yy ?_ ?_ <;> intro _) | exact zD | exact zL)
 | false =>
  have c6 : (ev4 (jpQ a b)).2 = 0 := by simpa using c5
  have hp := fj8 ua oa ub ob hn c6;rw [c6] at hk;generalize (ev4 (jpQ a b)).1 = ck at *;rw [fj1] at hk hp;rw [fj2] at hp;have hk : Ev E 10 [JPD a b] _ := hk;have hp : Ev E 11 [JPD a b] _ := hp;have q0 := ed3 ex1;have qa := ed3 a;have qb := ed3 b;have g1 : (naQ.toList == naQ.toList) = true := beq_self_eq_true _;have g2 : (nbQ.toList == nbQ.toList) = true := beq_self_eq_true _;have k1 : ([et3 (opB 3 zeX ⟨#[]⟩) [et3 (opB 6 a ⟨#[]⟩) [lfD naQ], et3 (opB 6 b ⟨#[]⟩) [lfD nbQ]]])[((0 : Int)).toNat]? = some (et3 (opB 3 zeX ⟨#[]⟩) [et3 (opB 6 a ⟨#[]⟩) [lfD naQ], et3 (opB 6 b ⟨#[]⟩) [lfD nbQ]]) := rfl;have k2 : ([et3 (opB 6 a ⟨#[]⟩) [lfD naQ], et3 (opB 6 b ⟨#[]⟩) [lfD nbQ]])[((0 : Int)).toNat]? = some (et3 (opB 6 a ⟨#[]⟩) [lfD naQ]) := rfl;have k3 : ([et3 (opB 6 a ⟨#[]⟩) [lfD naQ], et3 (opB 6 b ⟨#[]⟩) [lfD nbQ]])[((1 : Int)).toNat]? = some (et3 (opB 6 b ⟨#[]⟩) [lfD nbQ]) := rfl;have k4 : ([lfD naQ])[((0 : Int)).toNat]? = some (lfD naQ) := rfl;have k5 : ([lfD nbQ])[((0 : Int)).toNat]? = some (lfD nbQ) := rfl;refine ye3 func3 ntmps3 fun _ _ _=>?_
  repeat' (first | refine yz ?_ | refine yp b4 hl ?_ | refine yp b5 za ?_ | refine yp b5 zb ?_ | refine yp b5 zc ?_ | refine yp b6 sa ?_ | refine yp b6 sb ?_ | refine yx ?_ | (refine yy ?_ ?_ <;> intro _) | exact zD | exact zL)
  refine SGo.ghost (s1 := ⟨[(3, .ptr 0 0), (4, .ptr 1 0), (5, .ptr 2 0), (7, .ptr 3 0), (8, .ptr 4 0)], [oEJ a, oEJ b, oEJ c, oLJ (lfD naQ), oRJ (lfD nbQ)]⟩) (zle 5) ?_
  repeat' (first | refine yu 7 [5,6] [] ?_ | refine yk 7 0 5 ?_ | refine yw ?_ | refine rgN ?_ | refine yv ?_ | refine yz ?_ | refine yp b9 n1 ?_ | refine yp b9 n2 ?_ | refine yp b8 o1 ?_ | refine yp b8 o2 ?_ | refine yp b8 o3 ?_ | refine yx ?_ | (refine yy ?_ ?_ <;> intro _) | exact zD | exact zL)
  refine SGo.ghost (s1 := ⟨[(3, .ptr 0 0), (4, .ptr 1 0), (5, .ptr 2 0), (9, .ptr 5 0), (11, .ptr 7 0), (67, .d (JPD a b))], [oEJ a, oEJ b, oEJ c, oLJ (lfD naQ), oRJ (lfD nbQ), oEJ ex1, oEJ (ec5 (ec5 a ex1) b), oLJ (JPD a b)]⟩) (zle 8) ?_
  repeat' (first | refine yz ?_ | refine yp b10 hk ?_ | refine yp b11 hp ?_ | refine yp b12 q0 ?_ | refine qI (et3 (opB 3 zeX ⟨#[]⟩) [et3 (opB 6 a ⟨#[]⟩) [lfD naQ], et3 (opB 6 b ⟨#[]⟩) [lfD nbQ]]) rfl (ap2 rfl) rfl rfl rfl rfl rfl rfl (by first | omega | decide) k1 ?_ | refine qI (et3 (opB 6 a ⟨#[]⟩) [lfD naQ]) rfl (ap2 rfl) rfl rfl rfl rfl rfl rfl (by first | omega | decide) k2 ?_ | refine qI (et3 (opB 6 b ⟨#[]⟩) [lfD nbQ]) rfl (ap2 rfl) rfl rfl rfl rfl rfl rfl (by first | omega | decide) k3 ?_ | refine yi (lfD naQ) k4 ?_ | refine yi (lfD nbQ) k5 ?_ | refine yp b12 qa ?_ | refine yp b12 qb ?_ | refine yp b7 hal ?_ | refine yx ?_ | (refine yy ?_ ?_ <;> intro _) | exact zD | exact zL)
end Go.Proofs.YtaiiailapeffgaaGreatDoor
