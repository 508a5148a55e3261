/- Equality and Less, by both texts; Lists and paths as values, and the worked examples of the chapter; From rows' readings to values; the listed variables as the engine wants them; a world for the witnesses; What smallness gives: short lists and short texts; Plain laws of the orders: antisymmetry, symmetry; Division of a double word by a word, as the library does it: two digits, each guessed and set right; The library's division of a double word by a word; Quotients and remainders of wide numbers, bounded products, and the reference's long division; The reference's long division and its narrowin. Conditions: each part's own, as it says. -/
import Derived.Test.YtaiiailapeffgaaGreatDoorGC
import Derived.Test.YtaiiailapeffgaaGreatDoorMB
import Derived.Test.YtaiiailapeffgaaGreatDoorGB
import Derived.Test.YtaiiailapeffgaaGreatDoorRows
import Derived.Test.YtaiiailapeffgaaGreatDoorTie
import Derived.ProofKit
import Derived.Test.YtaiiailapeffgaaGreatDoorMA
set_option linter.unusedVariables false
set_option linter.unusedSimpArgs false
namespace Go.Proofs.YtaiiailapeffgaaGreatDoor
set_option maxRecDepth 4000
open Go Go.Abs Go.Val Go.RowKit Go.Proofs.Tryz
attribute [local irreducible] go SGo an2 Ev aw0 EvO
set_option maxHeartbeats 2000000 in
theorem co3 (a : V) : ∀ b : V, Val.okV a = true → Val.okV b = true → Ev E 306 [enc a, enc b] (.d (.int (eqF a b))) := by
 refine cc2 (P := fun a => ∀ b : V, Val.okV a = true → Val.okV b = true → Ev E 306 [enc a, enc b] (.d (.int (eqF a b)))) (fun k n d s l ih b h3 h4 => ?_) a;refine Ev.fit fun hfit => ?_
 obtain ⟨-, -, -, -, hma, -⟩ := bq4 (hfit (enc (.mk k n d s l)) (by simp));rw [co2];have ih' : ∀ x ∈ (V.mk k n d s l).l, ∀ y : V, Val.okV x = true → Val.okV y = true → Ev E 306 [enc x, enc y] (.d (.int (eqF x y))) := ih;generalize V.mk k n d s l = a at *;clear ih;have na := ca8 cc1 a;have nb := ca8 cc1 b;have hla : (kids a).length = a.l.length := bq2 a;have hlb : (kids b).length = b.l.length := bq2 b;have hka := cn2 h3;have hkb := cn2 h4;unfold co0;rw [h3, h4];simp only [fo0, fp3]
 cases h1 : a.k == 0 with
 | true =>
  simp only [fn8, cond_true];refine ye2 func306 ntmps306 fun _ _ _=>?_
  repeat' (first | refine yz ?_ | refine yx ?_ | (refine yy ?_ ?_ <;> intro _) | exact zD | exact zL)
 | false =>
 cases h2 : b.k == 0 with
 | true =>
  simp only [fo2, cond_true];refine ye2 func306 ntmps306 fun _ _ _=>?_
  repeat' (first | refine yz ?_ | refine yx ?_ | (refine yy ?_ ?_ <;> intro _) | exact zD | exact zL)
 | false =>
 simp only [fo0, cond_false]
 cases h5 : bs2 a with
 | true =>
  rw [h5] at na
  cases h6 : bs2 b with
  | true =>
   rw [h6] at nb;rw [cn9 h5 h6];have hy := by1 ((bs3 a == bs3 b) && ((bs4 a == bs4 b) && true));have e2 : tt ((bs3 a == bs3 b) && (bs4 a == bs4 b)) = tt ((bs3 a == bs3 b) && ((bs4 a == bs4 b) && true)) := by rw [fq7]
   simp only [fq7, cond_true];rw [e2];refine ye2 func306 ntmps306 fun _ _ _=>?_
   repeat' (first | refine yz ?_ | refine qP (d := 21) rfl rfl rfl rfl rfl rfl bt9 (na) ?_ | refine yp bt9 nb ?_ | refine yp bv6 hy ?_ | (refine aw5 (by kernel_rfl) (by kernel_rfl) rfl rfl rfl rfl rfl rfl rfl rfl (.inl ⟨rfl, rfl⟩) ?_) | refine yx ?_ | (refine yy ?_ ?_ <;> intro _) | exact zD | exact zL)
  | false =>
   rw [h6] at nb;simp only [fp8, cond_false]
   have hk : (a.k != b.k) = true := by
    rw [cn4 h3] at h5;rw [cn4 h4] at h6;simp only [fm4, Bool.or_eq_false_iff, beq_iff_eq, beq_eq_false_iff_ne, bne_iff_ne] at *;omega
   rw [hk];refine ye2 func306 ntmps306 fun _ _ _=>?_
   repeat' (first | refine yz ?_ | refine qP (d := 21) rfl rfl rfl rfl rfl rfl bt9 (na) ?_ | refine yp bt9 nb ?_ | refine yx ?_ | (refine yy ?_ ?_ <;> intro _) | exact zD | exact zL)
 | false =>
  rw [h5] at na;simp only [fn3, cond_false]
  cases h7 : a.k != b.k with
  | true =>
   refine ye2 func306 ntmps306 fun _ _ _=>?_
   repeat' (first | refine yz ?_ | refine qP (d := 21) rfl rfl rfl rfl rfl rfl bt9 (na) ?_ | refine yp bt9 nb ?_ | refine yx ?_ | (refine yy ?_ ?_ <;> intro _) | exact zD | exact zL)
  | false =>
  have hkk : a.k = b.k := by simpa using h7
  cases h9 : a.k != 8 && a.k != 7 with
  | true =>
   have e : (bif a.k == 4 then tt (a.s.toList == b.s.toList) else bif true then tt (a.n == b.n) else bif a.l.length != b.l.length then 0 else eqM eqF a.l b.l 2) = tt ((a.n == b.n) && (a.s.toList == b.s.toList)) := by
    obtain ⟨-, a2, a3, -, -⟩ := cn3 h3;obtain ⟨-, b2, b3, -, -⟩ := cn3 h4
    cases h8 : a.k == 4 with
    | true =>
     have h8' : a.k = 4 := by simpa using h8
     rw [a3 h8', b3 (by rw [← hkk]; exact h8')];rfl
    | false =>
     have h8' : a.k ≠ 4 := by simpa using h8
     rw [a2 h8', b2 (by rw [← hkk]; exact h8')];simp
   rw [e];simp only [fk3] at h9;obtain ⟨g1, g2⟩ := h9;have hy := by1 ((a.n == b.n) && (a.s.toList == b.s.toList))
   cases g3 : a.n == b.n
   all_goals
    rw [g3] at hy;simp only [fm3, fn3] at hy ⊢;refine ye2 func306 ntmps306 fun _ _ _=>?_
    repeat' (first | refine yz ?_ | refine qP (d := 21) rfl rfl rfl rfl rfl rfl bt9 (na) ?_ | refine yp bt9 nb ?_ | refine yp bv6 hy ?_ | refine yx ?_ | (refine yy ?_ ?_ <;> intro _) | exact zD | exact zL)
  | false =>
  have h8 : (a.k == 4) = false := by
   rw [beq_eq_false_iff_ne];intro h;rw [h] at h9
   cases h9
  rw [h8];simp only [cond_false];have key : (a.l.length != b.l.length) = ((kids a).length != (kids b).length) := by rw [hla, hlb]
  have hkk : (((kids a).length : Int) != ((kids b).length : Int)) = (a.l.length != b.l.length) := by
   rw [key]
   cases hq : (kids a).length != (kids b).length with
   | true => simp only [bne_iff_ne] at hq ⊢; omega
   | false => simp only [bne_eq_false_iff_eq] at hq ⊢; omega
  cases h10 : a.l.length != b.l.length with
  | true =>
   rw [h10] at hkk
   cases g1 : a.k != 8
   all_goals
    try rw [g1, fm3] at h9
    refine ye2 func306 ntmps306 fun _ _ _=>?_
    repeat' (first | refine yz ?_ | refine qP (d := 21) rfl rfl rfl rfl rfl rfl bt9 (na) ?_ | refine yp bt9 nb ?_ | refine yx ?_ | (refine yy ?_ ?_ <;> intro _) | exact zD | exact zL)
  | false =>
   rw [h10] at hkk;have hlen : a.l.length = b.l.length := by simpa using h10
   cases g1 : a.k != 8
   all_goals
    try rw [g1, fm3] at h9
    refine ye2 func306 ntmps306 fun _ _ _=>?_
    repeat' (first | refine yz ?_ | refine qP (d := 21) rfl rfl rfl rfl rfl rfl bt9 (na) ?_ | refine yp bt9 nb ?_ | refine yx ?_ | (refine yy ?_ ?_ <;> intro _) | exact zD | exact zL)
    refine ac7 (α := SE a.l b.l) (fun p => ⟨[(2, .ptr 0 0), (3, .ptr 1 0), (9, .d (.int p.t)), (76, .d (.int (kids a).length)), (77, .d (.int p.i))], [.var 24 (.w (.d (enc a))), .var 24 (.w (.d (enc b)))]⟩) (fun p => a.l.length - p.i) ⟨0, 2, by omega, rfl⟩ (zle 2) ?_;rintro ⟨i, t, hi, ok⟩;dsimp only;rcases fk1 i a.l.length with hlt | hge
    ·have g3 : decide ((i : Int) < ((kids a).length : Int)) = true := by rw [hla]; simpa using hlt
     have hx0 := fk0 hlt;have hy0 := fk0 (show i < b.l.length by omega);generalize a.l[i] = x at hx0;generalize b.l[i] = y at hy0;have hx : (kids a)[(i : Int).toNat]? = some (enc x) := bq0 (by rw [fl0]; exact hx0);have hy : (kids b)[(i : Int).toNat]? = some (enc y) := bq0 (by rw [fl0]; exact hy0);have he := ih' x (fk4 hx0) y (hka x (fk4 hx0)) (hkb y (fk4 hy0));have hand := bx3 t (eqF x y)
     repeat' (first | refine yz ?_ | refine yi (enc x) hx ?_ | refine yi (enc y) hy ?_ | refine yp b306 he ?_ | refine yp b211 hand ?_ | refine yx ?_ | (refine yy ?_ ?_ <;> intro _) | exact zD | exact zL)
     refine ac1 ?_;exact ⟨⟨i + 1, min (kn t) (kn (eqF x y)), by omega, by rw [ok, bz3 hx0, bz3 hy0]; rfl⟩, by dsimp only; omega, (zle 2)⟩
    ·have g3 : decide ((i : Int) < ((kids a).length : Int)) = false := by rw [hla, decide_eq_false_iff_not]; omega
     rw [ok, fl9 hge];simp only [eqM]
     repeat' (first | refine yz ?_ | refine yx ?_ | (refine yy ?_ ?_ <;> intro _) | exact zD | exact zL)
theorem co4 (a b : V) : Ev E 273 [enc a, enc b] (.d (.int (eqF a b))) := by
 have va := ca6 cc1 a;have vb := ca6 cc1 b;have he := co3 a b;have hq := co2 a b;unfold co0 at hq
 cases h1 : a.k == 0 with
 | true =>
  rw [h1] at hq;simp only [fn8, cond_true] at hq;rw [hq];refine ye2 func273 ntmps273 fun _ _ _=>?_
  repeat' (first | refine yz ?_ | refine yx ?_ | (refine yy ?_ ?_ <;> intro _) | exact zD | exact zL)
 | false =>
 cases h2 : b.k == 0 with
 | true =>
  rw [h2] at hq;simp only [fo2, fn8, cond_true] at hq;rw [hq];refine ye2 func273 ntmps273 fun _ _ _=>?_
  repeat' (first | refine yz ?_ | refine yx ?_ | (refine yy ?_ ?_ <;> intro _) | exact zD | exact zL)
 | false =>
 cases h3 : Val.okV a with
 | false =>
  rw [h3] at va hq;simp only [fo5, fo2, fn8, cond_true] at hq;rw [hq];refine ye2 func273 ntmps273 fun _ _ _=>?_
  repeat' (first | refine yz ?_ | refine yp bt7 va ?_ | refine yx ?_ | (refine yy ?_ ?_ <;> intro _) | exact zD | exact zL)
 | true =>
 rw [h3] at va
 cases h4 : Val.okV b with
 | false =>
  rw [h4] at vb hq;simp only [fo5, fo2, cond_true] at hq;rw [hq];refine ye2 func273 ntmps273 fun _ _ _=>?_
  repeat' (first | refine yz ?_ | refine qP (d := 15) rfl rfl rfl rfl rfl rfl bt7 (va) ?_ | refine yp bt7 vb ?_ | refine yx ?_ | (refine yy ?_ ?_ <;> intro _) | exact zD | exact zL)
 | true =>
  rw [h4] at vb;have he' := he h3 h4;refine ye2 func273 ntmps273 fun _ _ _=>?_
  repeat' (first | refine yz ?_ | refine qP (d := 15) rfl rfl rfl rfl rfl rfl bt7 (va) ?_ | refine yp bt7 vb ?_ | refine yp b306 he' ?_ | refine yx ?_ | (refine yy ?_ ?_ <;> intro _) | exact zD | exact zL)
def co5 (a b : V) : Int :=
 bif !Val.okV a || !Val.okV b then 1 else
 bif bs2 a && bs2 b then tt (decide (cf9 (bs3 a) (bs4 a) (bs3 b) (bs4 b) < 0)) else
 bif a.k != b.k then 1 else
 bif a.k == 4 then tt (Op.bytesLess a.s.toList b.s.toList) else
 bif a.k == 1 then tt (decide (a.n < b.n)) else 1
theorem co6 (a b : V) : Ev E 274 [enc a, enc b] (.d (.int (co5 a b))) := by
 have va := ca6 cc1 a;have vb := ca6 cc1 b;have na := ca8 cc1 a;have nb := ca8 cc1 b;have hc := ci2 (bs3 a) (bs4 a) (bs3 b) (bs4 b);have y1 := by1 (decide (cf9 (bs3 a) (bs4 a) (bs3 b) (bs4 b) < 0));have y2 := by1 (Op.bytesLess a.s.toList b.s.toList);have y3 := by1 (decide (a.n < b.n))
 have hq : co5 a b = bif bs2 a && bs2 b then tt (decide (cf9 (bs3 a) (bs4 a) (bs3 b) (bs4 b) < 0)) else
   bif a.k != b.k || (!Val.okV a || !Val.okV b) then 1 else
   bif a.k == 4 then tt (Op.bytesLess a.s.toList b.s.toList) else bif a.k == 1 then tt (decide (a.n < b.n)) else 1 := by
  unfold co5
  cases h3 : Val.okV a with
  | false =>
   have : bs2 a = false := by unfold bs2; rw [h3, fp8]
   rw [this];simp
  | true =>
   cases h4 : Val.okV b with
   | false =>
    have : bs2 b = false := by unfold bs2; rw [h4, fp8]
    rw [this];simp
   | true => simp
 rw [hq];clear hq
 cases h5 : bs2 a && bs2 b with
 | true =>
  simp only [fk3] at h5;rw [h5.1] at na;rw [h5.2] at nb;refine ye2 func274 ntmps274 fun _ _ _=>?_
  repeat' (first | refine yz ?_ | refine qP (d := 11) rfl rfl rfl rfl rfl rfl bt9 (na) ?_ | refine yp bt9 nb ?_ | refine yp b307 hc ?_ | refine yp bv6 y1 ?_ | refine yx ?_ | (refine yy ?_ ?_ <;> intro _) | exact zD | exact zL)
 | false =>
  cases h6 : bs2 a
  all_goals
   rw [h6] at na h5
   try (rw [fm3] at h5; rw [h5] at nb)
   cases h7 : a.k != b.k with
   | true =>
    refine ye2 func274 ntmps274 fun _ _ _=>?_
    repeat' (first | refine yz ?_ | refine qP (d := 11) rfl rfl rfl rfl rfl rfl bt9 (na) ?_ | refine yp bt9 nb ?_ | refine yx ?_ | (refine yy ?_ ?_ <;> intro _) | exact zD | exact zL)
   | false =>
   cases h3 : Val.okV a with
   | false =>
    rw [h3] at va;refine ye2 func274 ntmps274 fun _ _ _=>?_
    repeat' (first | refine yz ?_ | refine qP (d := 11) rfl rfl rfl rfl rfl rfl bt9 (na) ?_ | refine yp bt9 nb ?_ | refine yp bt7 va ?_ | refine yx ?_ | (refine yy ?_ ?_ <;> intro _) | exact zD | exact zL)
   | true =>
   rw [h3] at va
   cases h4 : Val.okV b with
   | false =>
    rw [h4] at vb;refine ye2 func274 ntmps274 fun _ _ _=>?_
    repeat' (first | refine yz ?_ | refine qP (d := 11) rfl rfl rfl rfl rfl rfl bt9 (na) ?_ | refine yp bt9 nb ?_ | refine qP (d := 37) rfl rfl rfl rfl rfl rfl bt7 (va) ?_ | refine yp bt7 vb ?_ | refine yx ?_ | (refine yy ?_ ?_ <;> intro _) | exact zD | exact zL)
   | true =>
   rw [h4] at vb
   cases h8 : a.k == 4 with
   | true =>
    refine ye2 func274 ntmps274 fun _ _ _=>?_
    repeat' (first | refine yz ?_ | refine qP (d := 11) rfl rfl rfl rfl rfl rfl bt9 (na) ?_ | refine yp bt9 nb ?_ | refine qP (d := 37) rfl rfl rfl rfl rfl rfl bt7 (va) ?_ | refine yp bt7 vb ?_ | refine yp bv6 y2 ?_ | refine yx ?_ | (refine yy ?_ ?_ <;> intro _) | exact zD | exact zL)
   | false =>
   cases h9 : a.k == 1 with
   | true =>
    refine ye2 func274 ntmps274 fun _ _ _=>?_
    repeat' (first | refine yz ?_ | refine qP (d := 11) rfl rfl rfl rfl rfl rfl bt9 (na) ?_ | refine yp bt9 nb ?_ | refine qP (d := 37) rfl rfl rfl rfl rfl rfl bt7 (va) ?_ | refine yp bt7 vb ?_ | refine yp bv6 y3 ?_ | refine yx ?_ | (refine yy ?_ ?_ <;> intro _) | exact zD | exact zL)
   | false =>
    refine ye2 func274 ntmps274 fun _ _ _=>?_
    repeat' (first | refine yz ?_ | refine qP (d := 11) rfl rfl rfl rfl rfl rfl bt9 (na) ?_ | refine yp bt9 nb ?_ | refine qP (d := 37) rfl rfl rfl rfl rfl rfl bt7 (va) ?_ | refine yp bt7 vb ?_ | refine yx ?_ | (refine yy ?_ ?_ <;> intro _) | exact zD | exact zL)
def co7 (l : List V) : V := .mk 8 0 0 ⟨#[]⟩ l
theorem co8 (l : List V) (h : nar (co7 l) = true) : Ev E 152 [.sl (bp7 l)] (.d (enc (co7 l))) := by
 have hc : Ev E 203 [.sl (bp7 l)] (.d (.sl (bp7 l))) := ck8 (co7 l) h;refine ye1 func152 ntmps152 fun _ _ _=>?_
 repeat' (first | refine yz ?_ | refine yp b203 hc ?_ | refine yx ?_ | (refine yy ?_ ?_ <;> intro _) | exact zD | exact zL)
end Go.Proofs.YtaiiailapeffgaaGreatDoor
namespace Go.Proofs.YtaiiailapeffgaaGreatDoor
set_option maxRecDepth 4000
open Go Go.Abs Go.Val Go.RowKit Go.ChangeShapes Go.WideShapes Go.Proofs.Tryz
theorem ty_V : ∀ {t : TypeId} {x : D}, az5 Tryz.prog t x → (t = 24 → ∃ v, x = enc v) ∧ (t = 22 → ∃ l, x = .sl (bp7 l)) := by
 intro t x h
 induction h with
 | bool b h => exact ⟨fun e => (by subst e; rw [underlying24] at h; cases h), fun e => (by subst e; rw [underlying22] at h; cases h)⟩
 | int n h => exact ⟨fun e => (by subst e; rw [underlying24] at h; cases h), fun e => (by subst e; rw [underlying22] at h; cases h)⟩
 | str s h => exact ⟨fun e => (by subst e; rw [underlying24] at h; cases h), fun e => (by subst e; rw [underlying22] at h; cases h)⟩
 | arr ps h _ _ => exact ⟨fun e => (by subst e; rw [underlying24] at h; cases h), fun e => (by subst e; rw [underlying22] at h; cases h)⟩
 | sl xs h hx ih =>
  refine ⟨fun e => (by subst e; rw [underlying24] at h; cases h), fun e => ?_⟩;subst e;rw [underlying22] at h
  cases h
  have : ∀ ys : List D, (∀ y ∈ ys, ∃ v, y = enc v) → ∃ l, ys = bp7 l := by
   intro ys
   induction ys with
   | nil => exact fun _ => ⟨[], by simp [bp7]⟩
   | cons y r ihr =>
    intro hy;obtain ⟨v, rfl⟩ := hy y (by simp);obtain ⟨l, rfl⟩ := ihr fun z hz => hy z (by simp [hz])
    exact ⟨v :: l, by simp [bp7, enc]⟩
  obtain ⟨l, rfl⟩ := this xs fun y hy => (ih y hy).1 rfl
  exact ⟨l, rfl⟩
 | struct parts h hl hp ih =>
  refine ⟨fun e => ?_, fun e => (by subst e; rw [underlying22] at h; cases h)⟩;subst e;rw [underlying24] at h
  cases h
  match parts, hl with
  | [p0, p1, p2, p3, p4], _ =>
   obtain ⟨k, rfl⟩ := az5.int_inv underlying3 (hp 0 _ p0 rfl rfl);obtain ⟨n, rfl⟩ := az5.int_inv underlying3 (hp 1 _ p1 rfl rfl);obtain ⟨d, rfl⟩ := az5.int_inv underlying3 (hp 2 _ p2 rfl rfl);obtain ⟨s, rfl⟩ := az5.str_inv underlying9 (hp 3 _ p3 rfl rfl);obtain ⟨l, rfl⟩ := (ih 4 _ p4 rfl rfl).2 rfl;exact ⟨.mk k n d s l, rfl⟩
theorem co9 {x : D} (h : az5 Tryz.prog 24 x) : ∃ v, x = enc v := (ty_V h).1 rfl
def tys : List TypeId := [3, 9, 22, 24, 73]
theorem tys_ok : az8 Tryz.prog tys = true := by kernel_rfl
noncomputable def seatLaid : List (String × DataW Unit) := Rows.rewriteJoinRow.laid
theorem gi_of {W : World} (hL : laidMetH Tryz.prog seatLaid W) (hS : W.ShapedOpen Tryz.prog) : E.GI W (F0 W) := by
 rw [MakeChecks.laidMetH_plain _ _ _ (by kernel_rfl)] at hL;obtain ⟨ps, hLV, -⟩ := hL
 have hlt : ∀ {g : Nat} {v : Value}, W.cell? ⟨g, 0, none⟩ = some v → F0 W g := fun {g v} h => by
  unfold F0;rcases fk1 g W.heap.size with h' | h'
  ·exact h'
  ·unfold World.cell? at h;simp only at h;rw [fs5 h'] at h
   cases h
 refine ⟨fun e he => ?_, ⟨?_, ?_⟩, ?_, ?_⟩
 ·simp only [E, seatG, fl7] at he;subst he;obtain ⟨x, hm, hs⟩ := ba2 tys tys_ok hLV "graphdb/frac.zero" Rows.laid_graphdb_frac_zero 0 73 (by simp [seatLaid, Rows.rewriteJoinRow]) (by kernel_rfl) (by kernel_rfl) (by decide);obtain ⟨parts, rfl, hl, hp⟩ := az6.agg_inv hs
  match parts, hl with
  | [p0, p1], _ =>
   have e0 := az6.int_inv (hp 0 _ p0 rfl rfl);have e1 := az6.int_inv (hp 1 _ p1 rfl rfl);subst e0 e1;exact hm
 ·have ht : Lib.TabIs Tryz.prog W "internal/strconv.uint64pow10" .u64 Lib.pow10Tab :=
   ba5 hLV "internal/strconv.uint64pow10" .u64 Lib.pow10Tab 2 307 271 20 (by
    have : (Lib.tabData .u64 Lib.pow10Tab : DataW Unit) = Rows.laid_internal_strconv_uint64pow10 := by rfl
    rw [this];simp [seatLaid, Rows.rewriteJoinRow]) (by kernel_rfl) (by kernel_rfl) underlying307 underlying271 (by kernel_rfl) (by kernel_rfl)
  unfold Lib.TabIs World.var? at ht;have hg : Tryz.prog.globalNamed "internal/strconv.uint64pow10" = some 2 := by kernel_rfl
  rw [hg] at ht;simp only [Option.bind_some] at ht;unfold F0;rcases fk1 2 W.heap.size with h | h
  ·exact h
  ·rw [fs5 h] at ht; cases ht
 ·exact ba5 hLV "internal/strconv.uint64pow10" .u64 Lib.pow10Tab 2 307 271 20 (by
    have : (Lib.tabData .u64 Lib.pow10Tab : DataW Unit) = Rows.laid_internal_strconv_uint64pow10 := by rfl
    rw [this];simp [seatLaid, Rows.rewriteJoinRow]) (by kernel_rfl) (by kernel_rfl) underlying307 underlying271 (by kernel_rfl) (by kernel_rfl)
 ·obtain ⟨m, hm⟩ := cell_of_shapedOpen_int (P := Tryz.prog) (g := 1) (t := 3) (zero := #[.int .i64 0]) hS (by decide +kernel) (by kernel_rfl) (by decide) (by kernel_rfl) (by kernel_rfl) underlying3;exact hlt hm
 ·exact cell_of_shapedOpen_int (P := Tryz.prog) (g := 1) (t := 3) (zero := #[.int .i64 0]) hS (by decide +kernel) (by kernel_rfl) (by decide) (by kernel_rfl) (by kernel_rfl) underlying3
noncomputable def wit (os : Os) : World :=
 { World.doorLaid Tryz.prog 400 os with heap := (World.doorLaid Tryz.prog 400 os).heap.modify 3 fun o => match o with | .cells _ t z => .cells (ba7 Rows.laid_unicode_utf8_first) t z | o => o }
set_option maxRecDepth 100000 in
theorem wit_met (os : Os) (args : Array Value) : laidMetH Tryz.prog seatLaid ((wit os).forCall (fun _ _ => 0) ⟨#[], args, []⟩).memory :=
 laidMetH_of_parts3 (fuel := 8) (laidMet_of_run' 8 (by kernel_rfl) (by kernel_rfl)) (by kernel_rfl) (by kernel_rfl)
set_option maxRecDepth 100000 in
theorem wit_shaped (os : Os) (args : Array Value) : ((wit os).forCall (fun _ _ => 0) ⟨#[], args, []⟩).Shaped Tryz.prog := World.shaped_of_RefB (by kernel_rfl) (by kernel_rfl)
theorem seat_own : ownKnob Tryz.prog.godebug = none := by kernel_rfl
theorem seat_out : laidOutB Tryz.prog = true := by kernel_rfl
end Go.Proofs.YtaiiailapeffgaaGreatDoor
namespace Go.Proofs.YtaiiailapeffgaaGreatDoor
set_option maxRecDepth 4000
open Go Go.Abs Go.Val Go.RowKit Go.Proofs.Tryz
mutual
def cp0 : V → Nat
 | .mk _ _ _ s l => 1 + s.size / 50 + cp1 l
def cp1 : List V → Nat
 | [] => 0
 | v :: r => cp0 v + cp1 r
end
theorem cp2 (v : V) : cp0 v = 1 + v.s.size / 50 + cp1 v.l := by cases v; simp [cp0, V.s, V.l]
theorem cp3 : ∀ l : List V, l.length ≤ cp1 l
 | [] => fk9 _
 | v :: r => by
  have := cp3 r;have := cp2 v;simp only [cp1, fk5];omega
theorem cp4 : ∀ {l : List V} {x : V}, x ∈ l → cp0 x ≤ cp1 l
 | [], x, h => by simp at h
 | v :: r, x, h => by
  simp only [cp1];rcases fl1.1 h with e | e
  ·rw [e]; omega
  ·have := cp4 e; omega
theorem cp5 (v : V) : cp0 v ≤ 1000000 → nar v = true := by
 refine cc2 (P := fun v => cp0 v ≤ 1000000 → nar v = true) (fun k n d s l ih h => ?_) v
 have hl : ∀ l : List V, (∀ x ∈ l, cp0 x ≤ 1000000 → nar x = true) → cp1 l ≤ 1000000 → ck2 l = true := by
  intro l
  induction l with
  | nil => intro _ _; simp [ck2]
  | cons a r ihr =>
   intro hx hc;simp only [cp1] at hc;simp only [ck2, fk3];exact ⟨hx a (by simp) (by omega), ihr (fun x hm => hx x (by simp [hm])) (by omega)⟩
 simp only [cp0] at h;have := cp3 l;simp only [nar, fk3, decide_eq_true_eq];exact ⟨by omega, hl l ih (by omega)⟩
theorem join_len_le (sep : List UInt8) (c : V → Nat) : ∀ l : List V, sep.length ≤ 2 → (∀ x ∈ l, (txt x).length + 2 ≤ c x) → (Lib.join (l.map txt) sep).length ≤ (l.map c).sum
 | [], _, _ => by simp [Lib.join_nil]
 | x :: r, hs, h => by
  have key : ∀ q : List V, (∀ x ∈ q, (txt x).length + 2 ≤ c x) → (Lib.joinTail sep (q.map txt)).length ≤ (q.map c).sum := by
   intro q
   induction q with
   | nil => intro _; simp [Lib.joinTail]
   | cons y q ih =>
    intro hq;have e : Lib.joinTail sep ((y :: q).map txt) = (sep ++ txt y) ++ Lib.joinTail sep (q.map txt) := rfl;have h1 := hq y (by simp);have h2 := ih fun z hz => hq z (by simp [hz])
    rw [e, fl8, fl8];simp only [fl5, List.sum_cons];omega
  have h1 := h x (by simp);have h2 := key r fun z hz => h z (by simp [hz])
  rw [fl5, Lib.join_cons, fl8];simp only [fl5, List.sum_cons];omega
theorem cp6 (l : List V) : (l.map fun v => 150 * cp0 v).sum = 150 * cp1 l := by
 induction l with
 | nil => rfl
 | cons v r ih => simp only [fl5, List.sum_cons, cp1, ih]; omega
theorem cp7 {n d : Int} {s : ByteArray} {l : List V} (h : Val.okV (.mk 2 n d s l) = true) : inM n = true := by
 unfold Val.okV at h;rw [bz8 8 2 n d s l (by omega) (by omega)] at h;simp [br7, V.k, V.n, V.d, V.s, V.l] at h;exact h.2
theorem cp8 {k n d : Int} {s : ByteArray} {l : List V} (hk : k = 5 ∨ k = 6) (h : Val.okV (.mk k n d s l) = true) : 1 ≤ n ∧ n ≤ 1000000 := by
 unfold Val.okV at h;rw [bz8 8 k n d s l (by omega) (by omega)] at h;rcases hk with rfl | rfl
 ·simp [br7, V.k, V.n, V.d, V.s, V.l] at h;exact ⟨h.2.1, of_decide_eq_true h.2.2⟩
 ·simp [br7, V.k, V.n, V.d, V.s, V.l] at h;exact ⟨h.2.1, of_decide_eq_true h.2.2⟩
theorem itoa_len' {n : Int} (h : -1000000000000000 ≤ n ∧ n ≤ 1000000000000000) : (Lib.itoa n).length ≤ 21 := Lib.itoa_length_le n (by omega) (by omega)
theorem cp9 (v : V) : (txt v).length + 2 ≤ 150 * cp0 v := by
 refine cc2 (P := fun v => (txt v).length + 2 ≤ 150 * cp0 v) (fun k n d s l ih => ?_) v;have hc : 1 ≤ cp0 (.mk k n d s l) := by simp only [cp0]; omega
 cases hok : Val.okV (.mk k n d s l) with
 | false =>
  have e : txt (.mk k n d s l) = [63] := by simp only [txt, hok]; rfl
  rw [e];simp only [fk5, fm6];omega
 | true =>
  have hk := cj5 hok;simp only [V.k] at hk;rcases hk with rfl | rfl | rfl | rfl | rfl | rfl | rfl | rfl | rfl
  ·have e : txt (.mk 0 n d s l) = [110, 117, 108, 108] := by simp only [txt, hok]; rfl
   rw [e];simp only [fk5, fm6];omega
  ·have e : txt (.mk 1 n d s l) = (bif n == 1 then [116, 114, 117, 101] else [102, 97, 108, 115, 101]) := by simp only [txt, hok]; rfl
   rw [e]
   cases n == 1 <;> simp only [cond_true, cond_false, fk5, fm6] <;> omega
  ·have e : txt (.mk 2 n d s l) = Lib.itoa n := by simp only [txt, hok]; rfl
   have := itoa_len' ((bq6 n).1 (cp7 hok));rw [e];omega
  ·have e : txt (.mk 3 n d s l) = Lib.itoa n ++ [47] ++ Lib.itoa d := by simp only [txt, hok]; rfl
   obtain ⟨h2, h3⟩ := cj6 hok;simp only [bq8, fk3, decide_eq_true_eq] at h3;have h4 := (bq6 n).1 h3.2.2.1;have := itoa_len' h4;have := itoa_len' (n := d) (by omega);rw [e, fl8, fl8];simp only [fk5, fm6];omega
  ·have e : txt (.mk 4 n d s l) = [39] ++ dbl s.data.toList ++ [39] := by simp only [txt, hok]; rfl
   have := ci6 s.data.toList;have : s.data.toList.length = s.size := by simp
   have hcc : cp0 (.mk 4 n d s l) = 1 + s.size / 50 + cp1 l := by simp only [cp0]
   rw [e, fl8, fl8];simp only [fk5, fm6];omega
  ·have e : txt (.mk 5 n d s l) = [35] ++ Lib.itoa n := by simp only [txt, hok]; rfl
   have h5 := cp8 (.inl rfl) hok;have := itoa_len' (n := n) (by omega);rw [e, fl8];simp only [fk5, fm6];omega
  ·have e : txt (.mk 6 n d s l) = [64] ++ Lib.itoa n := by simp only [txt, hok]; rfl
   have h5 := cp8 (.inr rfl) hok;have := itoa_len' (n := n) (by omega);rw [e, fl8];simp only [fk5, fm6];omega
  ·have e : txt (.mk 7 n d s l) = [60] ++ Lib.join (l.map txt) [32] ++ [62] := by simp only [txt, hok, cj4]; rfl
   have hj := join_len_le [32] (fun v => 150 * cp0 v) l (by simp) ih;rw [cp6] at hj;have hcc : cp0 (.mk 7 n d s l) = 1 + s.size / 50 + cp1 l := by simp only [cp0]
   rw [e, fl8, fl8];simp only [fk5, fm6];omega
  ·have e : txt (.mk 8 n d s l) = [91] ++ Lib.join (l.map txt) [44, 32] ++ [93] := by simp only [txt, hok, cj4]; rfl
   have hj := join_len_le [44, 32] (fun v => 150 * cp0 v) l (by simp) ih;rw [cp6] at hj;have hcc : cp0 (.mk 8 n d s l) = 1 + s.size / 50 + cp1 l := by simp only [cp0]
   rw [e, fl8, fl8];simp only [fk5, fm6];omega
end Go.Proofs.YtaiiailapeffgaaGreatDoor
namespace Go.Proofs.YtaiiailapeffgaaGreatDoor
set_option maxRecDepth 4000
open Go Go.Abs Go.Val Go.RowKit Go.Proofs.Tryz
theorem cq0 (x y : Int) : ci y x = - ci x y := by
 rcases (show x < y ∨ x = y ∨ x > y by omega) with h | h | h
 ·rw [cl0 h, cl1 h]; rfl
 ·subst h; rw [cl2]; rfl
 ·rw [cl1 h, cl0 h]
theorem cq1 : ∀ a b : List UInt8, (Op.bytesLess a b = true ∧ Op.bytesLess b a = false ∧ a ≠ b) ∨ (Op.bytesLess a b = false ∧ Op.bytesLess b a = true ∧ a ≠ b) ∨ (Op.bytesLess a b = false ∧ Op.bytesLess b a = false ∧ a = b)
 | [], [] => .inr (.inr ⟨rfl, rfl, rfl⟩)
 | [], _ :: _ => .inl ⟨rfl, rfl, by simp⟩
 | _ :: _, [] => .inr (.inl ⟨rfl, rfl, by simp⟩)
 | x :: a, y :: b => by
  have ih := cq1 a b;simp only [Op.bytesLess];rcases Nat.lt_trichotomy x.toNat y.toNat with h | h | h
  ·have h1 : x < y := h;have h2 : ¬ y < x := fun h' => Nat.lt_asymm h h'
   have h3 : x ≠ y := fun e => by subst e; omega
   have h4 : (y == x) = false := by rw [beq_eq_false_iff_ne]; exact fun e => h3 e.symm
   left;refine ⟨by simp [h1], by simp [h2, h4], fun e => h3 (List.cons.inj e).1⟩
  ·have e : x = y := UInt8.toNat_inj.1 h;subst e;have h2 : ¬ x < x := fun h' => fr5 _ h'
   simp only [h2, decide_false, beq_self_eq_true, fm3, fn1];rcases ih with ⟨i1, i2, i3⟩ | ⟨i1, i2, i3⟩ | ⟨i1, i2, i3⟩
   ·exact .inl ⟨i1, i2, fun e => i3 (List.cons.inj e).2⟩
   ·exact .inr (.inl ⟨i1, i2, fun e => i3 (List.cons.inj e).2⟩)
   ·exact .inr (.inr ⟨i1, i2, by rw [i3]⟩)
  ·have h1 : y < x := h;have h2 : ¬ x < y := fun h' => Nat.lt_asymm h h'
   have h3 : x ≠ y := fun e => by subst e; omega
   have h4 : (x == y) = false := by rw [beq_eq_false_iff_ne]; exact h3
   right; left;refine ⟨by simp [h2, h4], by simp [h1], fun e => h3 (List.cons.inj e).1⟩
theorem cq2 (a b : ByteArray) : (cs a b = -1 ∧ cs b a = 1 ∧ a.toList ≠ b.toList) ∨ (cs a b = 1 ∧ cs b a = -1 ∧ a.toList ≠ b.toList) ∨ (cs a b = 0 ∧ cs b a = 0 ∧ a.toList = b.toList) := by
 unfold cs;rcases cq1 a.toList b.toList with ⟨h1, h2, h3⟩ | ⟨h1, h2, h3⟩ | ⟨h1, h2, h3⟩
 ·left;have : (b.toList == a.toList) = false := by rw [beq_eq_false_iff_ne]; exact fun e => h3 e.symm
  rw [h1, h2, this];exact ⟨rfl, rfl, h3⟩
 ·right; left;have : (a.toList == b.toList) = false := by rw [beq_eq_false_iff_ne]; exact h3
  rw [h1, h2, this];exact ⟨rfl, rfl, h3⟩
 ·right; right;rw [h1, h2, h3];simp
theorem cq3 (a b : ByteArray) : cs b a = - cs a b := by
 rcases cq2 a b with ⟨h1, h2, _⟩ | ⟨h1, h2, _⟩ | ⟨h1, h2, _⟩ <;> rw [h1, h2] <;> rfl
theorem cq4 {x x' y y' : Int} (h1 : x' = -x) (h2 : y' = -y) : orI x' y' = - orI x y := by
 subst h1 h2;unfold orI
 cases h : x != 0 with
 | true =>
  have : (-x != 0) = true := by simp only [bne_iff_ne] at h ⊢; omega
  rw [this];rfl
 | false =>
  have : (-x != 0) = false := by simp only [bne_eq_false_iff_eq] at h ⊢; omega
  rw [this];rfl
theorem cq5 (an ad bn bd : Int) : cf9 bn bd an ad = - cf9 an ad bn bd := by
 unfold cf9;rw [← cg3];congr 1;omega
theorem cq6 (a b : Bool) (h : (a != b) = true) : 1 - tt b = -(1 - tt a) := by
 cases a <;> cases b <;> first | rfl | (cases h; done)
theorem cq7 {a b : V} (ha : Val.okV a = true) (hb : Val.okV b = true) (h : (ci (cl7 a.k) (cl7 b.k) != 0) = false) : bs2 b = bs2 a := by
 have e : ci (cl7 a.k) (cl7 b.k) = 0 := by simpa using h
 cases hn : bs2 a with
 | false =>
  have := cn5 (cn6 ha) (cn6 hb) e (by rw [← cn4 ha]; exact hn);rw [cn4 hb, ← this, ← cn4 ha, hn]
 | true =>
  cases hm : bs2 b with
  | true => rfl
  | false =>
   have e' : ci (cl7 b.k) (cl7 a.k) = 0 := by rw [cq0, e]; rfl
   have := cn5 (cn6 hb) (cn6 ha) e' (by rw [← cn4 hb]; exact hm);rw [cn4 ha, ← this, ← cn4 hb, hm] at hn
   cases hn
theorem cq8 (g : V → V → Int) : ∀ (a b : List V), (∀ x ∈ a, ∀ y, g y x = - g x y) → cl5 g b a = - cl5 g a b
 | [], [], _ => rfl
 | [], _ :: _, _ => rfl
 | _ :: _, [], _ => rfl
 | x :: r, y :: q, h => by
  simp only [cl5];exact cq4 (h x (by simp) y) (cq8 g r q fun z hz => h z (by simp [hz]))
theorem cq9 {a b : V} {t t' : Int} (h : t' = -t) : cl8 b a t' = - cl8 a b t :=
 cq4 (cq0 _ _) (cq4 (cq0 _ _) (cq4 (cq0 _ _) (cq4 (cq3 _ _) h)))
theorem cr0 (a : V) : ∀ b : V, cm0 b a = - cm0 a b := by
 refine cc2 (P := fun a => ∀ b : V, cm0 b a = - cm0 a b) (fun k n d s l ih b => ?_) a;have hl : cl5 cm0 b.l (V.mk k n d s l).l = - cl5 cm0 (V.mk k n d s l).l b.l := cq8 cm0 l b.l ih;rw [cm3, cm3];generalize V.mk k n d s l = a at *;unfold cl9
 cases h1 : Val.okV a != Val.okV b with
 | true =>
  have h1' : (Val.okV b != Val.okV a) = true := by rw [bne_comm]; exact h1
  rw [h1'];exact cq6 _ _ h1
 | false =>
  have e : Val.okV a = Val.okV b := by simpa using h1
  rw [e];simp only [bne_self_eq_false, cond_false]
  cases h2 : Val.okV b with
  | false => exact cq9 hl
  | true =>
   rw [h2] at e;simp only [fp3, cond_false];have hci : ci (cl7 b.k) (cl7 a.k) = - ci (cl7 a.k) (cl7 b.k) := cq0 _ _
   cases h3 : ci (cl7 a.k) (cl7 b.k) != 0 with
   | true =>
    have : (ci (cl7 b.k) (cl7 a.k) != 0) = true := by rw [hci]; simp only [bne_iff_ne] at h3 ⊢; omega
    rw [this];exact hci
   | false =>
    have : (ci (cl7 b.k) (cl7 a.k) != 0) = false := by rw [hci]; simp only [bne_eq_false_iff_eq] at h3 ⊢; omega
    rw [this, cq7 e h2 h3];simp only [cond_false]
    cases bs2 a with
    | true => exact cq5 _ _ _ _
    | false => exact cq9 hl
attribute [local irreducible] Ev EvO EvS aw0 an2 SGo go
theorem cr1 (q y1 y0 : Nat) : q * (y1 * 4294967296 + y0) = (q * y1) * 4294967296 + q * y0 := by rw [Nat.mul_add, Nat.mul_assoc]
theorem cr2 {u un1 y1 y0 : Nat} (h1 : 0 < y1) (hu : un1 < 4294967296) : (u * 4294967296 + un1) / (y1 * 4294967296 + y0) ≤ u / y1 := by
 rw [Nat.le_div_iff_mul_le h1];have h := Nat.div_mul_le_self (u * 4294967296 + un1) (y1 * 4294967296 + y0);rw [cr1] at h;omega
theorem cr3 {u un1 y1 y0 q r : Nat} (h : q * y1 + r = u) (hN : u < y1 * 4294967296 + y0) (hu : un1 < 4294967296) (hc : 4294967296 ≤ q ∨ 4294967296 * r + un1 < q * y0) :
  (u * 4294967296 + un1) / (y1 * 4294967296 + y0) < q := by
 rw [Nat.div_lt_iff_lt_mul (by omega)];rcases hc with hc | hc
 ·have : 4294967296 * (y1 * 4294967296 + y0) ≤ q * (y1 * 4294967296 + y0) := fr6 _ hc;omega
 ·rw [cr1];omega
theorem cr4 {u un1 y1 y0 q r : Nat} (h1 : 0 < y1) (h : q * y1 + r = u) (hc : q * y0 ≤ 4294967296 * r + un1) : q ≤ (u * 4294967296 + un1) / (y1 * 4294967296 + y0) := by
 rw [Nat.le_div_iff_mul_le (by omega), cr1];omega
theorem cr5 {u un1 y1 y0 q r : Nat} (h1 : 0 < y1) (h : q * y1 + r = u) (hN : u < y1 * 4294967296 + y0) (h0 : y0 < 4294967296) (hr : 4294967296 ≤ r) : q < 4294967296 ∧ q * y0 ≤ 4294967296 * r + un1 := by
 have hq : q < 4294967296 := by
  rcases fk1 q 4294967296 with hq | hq
  ·exact hq
  ·have := fr6 y1 hq;omega
 refine ⟨hq, ?_⟩;have : q * y0 ≤ 4294967296 * 4294967296 := Nat.mul_le_mul (by omega) (by omega);omega
theorem cr6 {u y1 y0 : Nat} (h1 : 2147483648 ≤ y1) (hN : u < y1 * 4294967296 + y0) (h0 : y0 < 4294967296) : u / y1 ≤ 4294967297 := by
 rw [← Nat.lt_succ_iff, Nat.div_lt_iff_lt_mul (by omega)];omega
theorem cr7 : ∀ (f x : Nat), x ≠ 0 → x < 2 ^ f → 1 ≤ Lib.bitLenAux f x ∧ Lib.bitLenAux f x ≤ f ∧ 2 ^ Lib.bitLenAux f x ≤ 2 * x ∧ x < 2 ^ Lib.bitLenAux f x
 | 0, x, h0, h => by simp at h; exact absurd h h0
 | f + 1, x, h0, h => by
  simp only [Lib.bitLenAux, if_neg h0]
  by_cases h1 : x / 2 = 0
  ·have : x = 1 := by omega
   subst this
   cases f <;> simp [Lib.bitLenAux]
  ·obtain ⟨a1, a2, a3, a4⟩ := cr7 f (x / 2) h1 (by rw [Nat.pow_succ] at h; omega);refine ⟨by omega, by omega, ?_, ?_⟩
   ·rw [Nat.add_comm, Nat.pow_succ]; omega
   ·rw [Nat.add_comm 1, Nat.pow_succ]; omega
theorem lz_ev (y : Nat) (h0 : 0 < y) (h1 : y < 18446744073709551616) : ∃ s : Nat, s ≤ 63 ∧ 9223372036854775808 ≤ y * 2 ^ s ∧ y * 2 ^ s < 18446744073709551616 ∧ Ev E 359 [.imm (.int .u64 (y : Int))] (.d (.int (s : Int))) := by
 obtain ⟨b1, b2, b3, b4⟩ := cr7 64 y (by omega) (by omega)
 have e64 : (2 : Nat) ^ Lib.bitLen y * 2 ^ (64 - Lib.bitLen y) = 18446744073709551616 := by
  rw [← Nat.pow_add, show Lib.bitLen y + (64 - Lib.bitLen y) = 64 by unfold Lib.bitLen; omega]
 have hp : 0 < 2 ^ (64 - Lib.bitLen y) := Nat.pow_pos (by omega);have c1 := fr6 (2 ^ (64 - Lib.bitLen y)) b3;have c2 := Nat.mul_lt_mul_of_lt_of_le b4 (fk9 (2 ^ (64 - Lib.bitLen y))) hp;change 2 ^ Lib.bitLen y * _ ≤ _ at c1;change _ < 2 ^ Lib.bitLen y * _ at c2;rw [e64] at c1 c2;rw [Nat.mul_assoc] at c1;refine ⟨64 - Lib.bitLen y, by unfold Lib.bitLen; omega, by omega, c2, ?_⟩;refine cb2 (af2 (k := .i64) (by simp only [inR]; omega)) fun w F _ _ => ?_
 refine (Tryz.bits_LeadingZeros64 (y : Int) w (by omega) (by omega)).mono ?_;rintro e w' ⟨rfl, rfl⟩;refine ⟨?_, Below.refl _ _⟩;rw [show (y : Int).toNat = y from fl0 y]
 have : (64 : Int) - (Lib.bitLen y : Int) = ((64 - Lib.bitLen y : Nat) : Int) := by
  have : Lib.bitLen y ≤ 64 := b2;omega
 rw [this]
attribute [local irreducible] binOp
structure SKn (y1 y0 u un1 : Nat) where
 q : Nat
 r : Nat
 h : q * y1 + r = u
 hr : r < 4294967296
 hq : q ≤ 4294967297
 hge : (u * 4294967296 + un1) / (y1 * 4294967296 + y0) ≤ q
theorem cr8 (hi lo s : Nat) (hs : s ≤ 63) (hlo : lo < 18446744073709551616) : (hi * 18446744073709551616 + lo) * 2 ^ s = (hi * 2 ^ s + lo / 2 ^ (64 - s)) * 18446744073709551616 + (lo * 2 ^ s) % 18446744073709551616 ∧ lo / 2 ^ (64 - s) < 2 ^ s := by
 have e : (2 : Nat) ^ (64 - s) * 2 ^ s = 18446744073709551616 := by rw [← Nat.pow_add, show 64 - s + s = 64 by omega]
 have hp : 0 < (2 : Nat) ^ (64 - s) := Nat.pow_pos (by omega);have hp2 : 0 < (2 : Nat) ^ s := Nat.pow_pos (by omega);have h1 := Nat.div_add_mod lo (2 ^ (64 - s));have h2 := fp2 lo hp;generalize lo / 2 ^ (64 - s) = a at *;generalize lo % 2 ^ (64 - s) = b at *;have h3 : lo * 2 ^ s = a * 18446744073709551616 + b * 2 ^ s := by rw [← h1, fo6, ← e, fo9 (2 ^ (64 - s)) a, Nat.mul_assoc]
 have h4 : b * 2 ^ s < 18446744073709551616 := by rw [← e]; exact Nat.mul_lt_mul_of_lt_of_le h2 (fk9 _) hp2
 refine ⟨?_, ?_⟩
 ·rw [fo6, h3, fo6];have : hi * 18446744073709551616 * 2 ^ s = hi * 2 ^ s * 18446744073709551616 := by rw [Nat.mul_assoc, fo9 _ (2 ^ s), Nat.mul_assoc]
  omega
 ·have h5 : a * 2 ^ (64 - s) < 2 ^ s * 2 ^ (64 - s) := by
   rw [fo9 (2 ^ s), e, fo9];omega
  exact Nat.lt_of_mul_lt_mul_right h5
theorem cr9 (a b c z : Nat) (h : b + z = a * 4294967296 + c) (hz : z < 18446744073709551616) : (((a * 4294967296) % 18446744073709551616 + c) % 18446744073709551616 + (18446744073709551616 - b % 18446744073709551616)) % 18446744073709551616 = z := by omega
theorem cs0 (a b s : Nat) (h : b < 2 ^ s) : a * 2 ^ s ||| b = a * 2 ^ s + b := by
 rw [fo9, Nat.two_pow_add_eq_or_of_lt h]
set_option maxRecDepth 20000 in
set_option maxHeartbeats 4000000 in
theorem cs1 (hi lo y : Nat) (hlt : hi < y) (hy : y < 18446744073709551616) (hlo : lo < 18446744073709551616) :
  Ev E 343 [.imm (.int .u64 (hi : Int)), .imm (.int .u64 (lo : Int)), .imm (.int .u64 (y : Int))]
   (.tup [.imm (.int .u64 (((hi * 18446744073709551616 + lo) / y : Nat) : Int)), .imm (.int .u64 (((hi * 18446744073709551616 + lo) % y : Nat) : Int))]) := by
 have g1 : ((y : Int) == 0) = false := by rw [beq_eq_false_iff_ne]; omega
 have g2 : decide ((y : Int) ≤ (hi : Int)) = false := by simp; omega
 by_cases h0 : hi = 0
 ·subst h0;have g3 : (((0 : Nat) : Int) == 0) = true := rfl;have e1 := fun (P : Program) (t : TypeId) (w : World) => Go.Abs.u64_quo (P := P) (t := t) lo y hlo (by omega) w
  have e2 := fun (P : Program) (t : TypeId) (w : World) => Go.Abs.u64_rem (P := P) (t := t) lo y (by omega) w
  have k1 := bf5 (lo / y) (ft0 (Nat.div_le_self lo y) hlo);have k2 := bf5 (lo % y) (ft0 (Nat.mod_le lo y) hlo);rw [show 0 * 18446744073709551616 + lo = lo by omega];refine ye3 func343 ntmps343 fun _ _ _=>?_
  repeat' (first | (refine bf7 _ rfl rfl rfl rfl rfl rfl (e1 _ _) k1 ?_) | (refine bf7 _ rfl rfl rfl rfl rfl rfl (e2 _ _) k2 ?_) | refine yz ?_ | exact zL)
 have g3 : ((hi : Int) == 0) = false := by rw [beq_eq_false_iff_ne]; omega
 obtain ⟨s, hs, s1, s2, hlz⟩ := lz_ev y (by omega) hy;obtain ⟨sp1, sp2⟩ := cr8 hi lo s hs hlo;have hor := cs0 hi (lo / 2 ^ (64 - s)) s sp2;have hA : hi * 2 ^ s < 18446744073709551616 := ft0 (fr6 _ (Nat.le_of_lt hlt)) s2
 have hub : hi * 2 ^ s + lo / 2 ^ (64 - s) < y * 2 ^ s := by
  have := fr6 (2 ^ s) hlt;rw [Nat.succ_mul] at this;omega
 have hfin1 : ((hi * 18446744073709551616 + lo) * 2 ^ s) / (y * 2 ^ s) = (hi * 18446744073709551616 + lo) / y := Nat.mul_div_mul_right _ _ (Nat.pow_pos (by omega))
 have hfin2 : ((hi * 18446744073709551616 + lo) * 2 ^ s) % (y * 2 ^ s) / 2 ^ s = (hi * 18446744073709551616 + lo) % y := by
  rw [Nat.mul_mod_mul_right, Nat.mul_div_cancel _ (Nat.pow_pos (by omega))]
 rw [sp1] at hfin1 hfin2;have hlb : lo / 2 ^ (64 - s) < 18446744073709551616 := ft0 (Nat.div_le_self _ _) hlo;have c1 := fun (P : Program) (t : TypeId) (k : IntKind) (w : World) => Go.Abs.u64_shl (P := P) (t := t) (k := k) y s (by omega) w
 have c2 := fun (P : Program) (t : TypeId) (k : IntKind) (w : World) => Go.Abs.u64_shl (P := P) (t := t) (k := k) hi s (by omega) w
 have c3 := fun (P : Program) (t : TypeId) (k : IntKind) (w : World) => Go.Abs.u64_shl (P := P) (t := t) (k := k) lo s (by omega) w
 have c4 := fun (P : Program) (t : TypeId) (k : IntKind) (w : World) => Go.Abs.u64_shr (P := P) (t := t) (k := k) lo (64 - s) (by omega) w
 have c5 := fun (P : Program) (t : TypeId) (w : World) => Go.Abs.u64_or (P := P) (t := t) (hi * 2 ^ s) (lo / 2 ^ (64 - s)) hA hlb w
 have c6 := fun (P : Program) (t : TypeId) (w : World) => Go.Abs.u64_sub (P := P) (t := t) 64 s (by omega) w
 have c7 := fun (P : Program) (t : TypeId) (k : IntKind) (a : Nat) (w : World) => Go.Abs.u64_shr (P := P) (t := t) (k := k) a 32 (by omega) w
 have c8 := fun (P : Program) (t : TypeId) (a : Nat) (ha : a < 18446744073709551616) (w : World) => Go.Abs.u64_and (P := P) (t := t) a 4294967295 ha (by omega) w
 rw [hor] at c5;simp only [fp5 hA] at c2;simp only [fp5 s2] at c1;simp only [show (64 + (18446744073709551616 - s)) % 18446744073709551616 = 64 - s by omega] at c6;simp only [show ∀ a : Nat, a &&& 4294967295 = a % 4294967296 from fun a => Nat.and_two_pow_sub_one_eq_mod a 32] at c8;simp only [show (2 : Nat) ^ 32 = 4294967296 from rfl] at c7;have m1 : (lo * 2 ^ s) % 18446744073709551616 < 18446744073709551616 := fp2 _ (by omega);generalize lo / 2 ^ (64 - s) = lb at *;generalize (lo * 2 ^ s) % 18446744073709551616 = ul at *;generalize hi * 2 ^ s = hs2 at *;generalize y * 2 ^ s = Y at *;generalize hU : hs2 + lb = u at *;have k0 := bf5;have hsI : inR .u64 (s : Int) := by simp only [inR]; omega
 refine ye3 func343 ntmps343 fun _ _ _=>?_
 repeat' (first | (refine bf7 _ rfl rfl rfl rfl rfl rfl (c1 _ _ _) (k0 _ (by omega)) ?_) | (refine bf7 _ rfl rfl rfl rfl rfl rfl (c2 _ _ _) (k0 _ (by omega)) ?_) | (refine bf7 _ rfl rfl rfl rfl rfl rfl (c3 _ _ _) (k0 _ (by omega)) ?_) | (refine bf7 _ rfl rfl rfl rfl rfl rfl (c4 _ _ _) (k0 _ (by omega)) ?_) | (refine bf7 _ rfl rfl rfl rfl rfl rfl (c5 _ _) (k0 _ (by omega)) ?_) | (refine bf7 _ rfl rfl rfl rfl rfl rfl (c6 _ _) (k0 _ (by omega)) ?_) | (refine bf7 _ rfl rfl rfl rfl rfl rfl (c7 _ _ _ _) (k0 _ (by omega)) ?_) | (refine bf7 _ rfl rfl rfl rfl rfl rfl (c8 _ _ _ (by assumption)) (k0 _ (by omega)) ?_) | refine yz ?_ | refine yp b359 hlz ?_)
 clear c1 c2 c3 c4 c5 c6 c7 c8 hlz hor;obtain ⟨y1, hy1⟩ : ∃ y1, Y / 4294967296 = y1 := ⟨_, rfl⟩;obtain ⟨y0, hy0⟩ : ∃ y0, Y % 4294967296 = y0 := ⟨_, rfl⟩;obtain ⟨un1, hun1⟩ : ∃ x, ul / 4294967296 = x := ⟨_, rfl⟩;obtain ⟨un0, hun0⟩ : ∃ x, ul % 4294967296 = x := ⟨_, rfl⟩;rw [hy1, hy0, hun1, hun0];have hY : Y = y1 * 4294967296 + y0 := by omega
 have hul : ul = un1 * 4294967296 + un0 := by omega
 have b1 : 2147483648 ≤ y1 ∧ y1 < 4294967296 := by omega
 have b2 : y0 < 4294967296 := by omega
 have b3 : un1 < 4294967296 ∧ un0 < 4294967296 := by omega
 clear hy1 hy0 hun1 hun0;obtain ⟨q, hq⟩ : ∃ q, u / y1 = q := ⟨_, rfl⟩;obtain ⟨r, hr⟩ : ∃ r, u % y1 = r := ⟨_, rfl⟩;have hqr : q * y1 + r = u := by rw [← hq, ← hr, fo9]; exact Nat.div_add_mod u y1
 have hry : r < y1 := by rw [← hr]; exact fp2 _ (by omega)
 have hq2 : q ≤ 4294967297 := by rw [← hq]; exact cr6 b1.1 (by omega) b2
 have hge : (u * 4294967296 + un1) / (y1 * 4294967296 + y0) ≤ q := by rw [← hq]; exact cr2 (by omega) b3.1
 have d1 := fun (P : Program) (t : TypeId) (w : World) => Go.Abs.u64_quo (P := P) (t := t) u y1 (by omega) (by omega) w
 rw [hq] at d1;have d2 := fun (P : Program) (t : TypeId) (w : World) => Go.Abs.u64_mul (P := P) (t := t) q y1 w
 simp only [fp5 (show q * y1 < 18446744073709551616 by omega)] at d2;have d3 := fun (P : Program) (t : TypeId) (w : World) => Go.Abs.u64_sub (P := P) (t := t) u (q * y1) (by omega) w
 simp only [show (u + (18446744073709551616 - q * y1)) % 18446744073709551616 = r by omega] at d3
 repeat' (first | (refine bf7 _ rfl rfl rfl rfl rfl rfl (d1 _ _) (k0 _ (by omega)) ?_) | (refine bf7 _ rfl rfl rfl rfl rfl rfl (d2 _ _) (k0 _ (by omega)) ?_) | (refine bf7 _ rfl rfl rfl rfl rfl rfl (d3 _ _) (k0 _ (by omega)) ?_) | (refine bf8 0 (fun b => ⟨[(2, .d (.imm (.int .u64 ((Y : Nat) : Int)))), (8, .d (.imm (.int .u64 ((s : Nat) : Int)))), (9, .d (.imm (.int .u64 ((y1 : Nat) : Int)))), (10, .d (.imm (.int .u64 ((y0 : Nat) : Int)))), (11, .d (.imm (.int .u64 ((u : Nat) : Int)))), (13, .d (.imm (.int .u64 ((un1 : Nat) : Int)))), (14, .d (.imm (.int .u64 ((un0 : Nat) : Int)))), (15, .d (.imm (.int .u64 ((b : Nat) : Int))))], []⟩) ((u * 4294967296 + un1) / (y1 * 4294967296 + y0)) ?_ ?_) | refine yz ?_)
 ·refine ac7 (α := SKn y1 y0 u un1) (fun p => ⟨[(2, .d (.imm (.int .u64 ((Y : Nat) : Int)))), (8, .d (.imm (.int .u64 ((s : Nat) : Int)))), (9, .d (.imm (.int .u64 ((y1 : Nat) : Int)))), (10, .d (.imm (.int .u64 ((y0 : Nat) : Int)))), (11, .d (.imm (.int .u64 ((u : Nat) : Int)))), (13, .d (.imm (.int .u64 ((un1 : Nat) : Int)))), (14, .d (.imm (.int .u64 ((un0 : Nat) : Int)))), (15, .d (.imm (.int .u64 ((p.q : Nat) : Int)))), (16, .d (.imm (.int .u64 ((p.r : Nat) : Int))))], []⟩) (fun p => p.q) ⟨q, r, hqr, by omega, hq2, hge⟩ (zle 0) ?_;rintro ⟨q', r', h', hr', hq', hge'⟩;dsimp only;obtain ⟨Q1, hQ⟩ : ∃ Q1, (u * 4294967296 + un1) / (y1 * 4294967296 + y0) = Q1 := ⟨_, rfl⟩;rw [hQ] at hge'
  cases hc1 : decide ((q' : Int) ≥ 4294967296) with
  | true =>
   have hgt := cr3 (y0 := y0) (un1 := un1) h' (by omega) (by omega) (.inl (by have := of_decide_eq_true hc1; omega));rw [hQ] at hgt;have hq1 : 1 ≤ q' := by omega
   have e1 := fun (P : Program) (t : TypeId) (w : World) => Go.Abs.u64_sub (P := P) (t := t) q' 1 (by omega) w
   simp only [show (q' + (18446744073709551616 - 1)) % 18446744073709551616 = q' - 1 by omega] at e1;have e2 := fun (P : Program) (t : TypeId) (w : World) => Go.Abs.u64_add (P := P) (t := t) r' y1 w
   simp only [show (r' + y1) % 18446744073709551616 = r' + y1 by omega] at e2
   have h'' : (q' - 1) * y1 + (r' + y1) = u := by
    have : q' * y1 = (q' - 1) * y1 + y1 := by rw [← Nat.succ_mul, show (q' - 1).succ = q' by omega]
    omega
   cases hc3 : decide (((r' + y1 : Nat) : Int) ≥ 4294967296) with
   | true =>
    have hk := cr5 (un1 := un1) (by omega) h'' (by omega) b2 (by have := of_decide_eq_true hc3; omega);have hle := cr4 (by omega) h'' hk.2;rw [hQ] at hle
    repeat' (first | (refine bf7 _ rfl rfl rfl rfl rfl rfl (e1 _ _) (k0 _ (by omega)) ?_) | (refine bf7 _ rfl rfl rfl rfl rfl rfl (e2 _ _) (k0 _ (by omega)) ?_) | refine yz ?_ | refine yx ?_)
    exact ac1 ⟨q' - 1, by rw [hQ]; omega, (zle 0)⟩
   | false =>
    have hc3' := of_decide_eq_false hc3
    repeat' (first | (refine bf7 _ rfl rfl rfl rfl rfl rfl (e1 _ _) (k0 _ (by omega)) ?_) | (refine bf7 _ rfl rfl rfl rfl rfl rfl (e2 _ _) (k0 _ (by omega)) ?_) | refine yz ?_ | refine yx ?_)
    refine ac1 ?_;exact ⟨⟨q' - 1, r' + y1, h'', by omega, by omega, by rw [hQ]; omega⟩, by dsimp only; omega, (zle 0)⟩
  | false =>
   have hc1' := of_decide_eq_false hc1
   have hm2 : q' * y0 < 18446744073709551616 := by
    have := Nat.mul_le_mul (show q' ≤ 4294967295 by omega) (show y0 ≤ 4294967295 by omega);omega
   have e3 := fun (P : Program) (t : TypeId) (w : World) => Go.Abs.u64_mul (P := P) (t := t) q' y0 w
   simp only [fp5 hm2] at e3;have e4 := fun (P : Program) (t : TypeId) (w : World) => Go.Abs.u64_mul (P := P) (t := t) 4294967296 r' w
   simp only [show (4294967296 * r') % 18446744073709551616 = 4294967296 * r' by omega] at e4;have e5 := fun (P : Program) (t : TypeId) (w : World) => Go.Abs.u64_add (P := P) (t := t) (4294967296 * r') un1 w
   simp only [show (4294967296 * r' + un1) % 18446744073709551616 = 4294967296 * r' + un1 by omega] at e5
   cases hc2 : decide (((q' * y0 : Nat) : Int) > ((4294967296 * r' + un1 : Nat) : Int)) with
   | true =>
    have hgt := cr3 (y0 := y0) (un1 := un1) h' (by omega) (by omega) (.inr (by have := of_decide_eq_true hc2; omega));rw [hQ] at hgt;have hq1 : 1 ≤ q' := by omega
    have e1 := fun (P : Program) (t : TypeId) (w : World) => Go.Abs.u64_sub (P := P) (t := t) q' 1 (by omega) w
    simp only [show (q' + (18446744073709551616 - 1)) % 18446744073709551616 = q' - 1 by omega] at e1;have e2 := fun (P : Program) (t : TypeId) (w : World) => Go.Abs.u64_add (P := P) (t := t) r' y1 w
    simp only [show (r' + y1) % 18446744073709551616 = r' + y1 by omega] at e2
    have h'' : (q' - 1) * y1 + (r' + y1) = u := by
     have : q' * y1 = (q' - 1) * y1 + y1 := by rw [← Nat.succ_mul, show (q' - 1).succ = q' by omega]
     omega
    cases hc3 : decide (((r' + y1 : Nat) : Int) ≥ 4294967296) with
    | true =>
     have hk := cr5 (un1 := un1) (by omega) h'' (by omega) b2 (by have := of_decide_eq_true hc3; omega);have hle := cr4 (by omega) h'' hk.2;rw [hQ] at hle
     repeat' (first | (refine bf7 _ rfl rfl rfl rfl rfl rfl (e3 _ _) (k0 _ (by omega)) ?_) | (refine bf7 _ rfl rfl rfl rfl rfl rfl (e4 _ _) (k0 _ (by omega)) ?_) | (refine bf7 _ rfl rfl rfl rfl rfl rfl (e5 _ _) (k0 _ (by omega)) ?_) | (refine bf7 _ rfl rfl rfl rfl rfl rfl (e1 _ _) (k0 _ (by omega)) ?_) | (refine bf7 _ rfl rfl rfl rfl rfl rfl (e2 _ _) (k0 _ (by omega)) ?_) | refine yz ?_ | refine yx ?_)
     exact ac1 ⟨q' - 1, by rw [hQ]; omega, (zle 0)⟩
    | false =>
     have hc3' := of_decide_eq_false hc3
     repeat' (first | (refine bf7 _ rfl rfl rfl rfl rfl rfl (e3 _ _) (k0 _ (by omega)) ?_) | (refine bf7 _ rfl rfl rfl rfl rfl rfl (e4 _ _) (k0 _ (by omega)) ?_) | (refine bf7 _ rfl rfl rfl rfl rfl rfl (e5 _ _) (k0 _ (by omega)) ?_) | (refine bf7 _ rfl rfl rfl rfl rfl rfl (e1 _ _) (k0 _ (by omega)) ?_) | (refine bf7 _ rfl rfl rfl rfl rfl rfl (e2 _ _) (k0 _ (by omega)) ?_) | refine yz ?_ | refine yx ?_)
     refine ac1 ?_;exact ⟨⟨q' - 1, r' + y1, h'', by omega, by omega, by rw [hQ]; omega⟩, by dsimp only; omega, (zle 0)⟩
   | false =>
    have hc2' := of_decide_eq_false hc2;have hle := cr4 (un1 := un1) (y0 := y0) (by omega) h' (by omega);rw [hQ] at hle
    repeat' (first | (refine bf7 _ rfl rfl rfl rfl rfl rfl (e3 _ _) (k0 _ (by omega)) ?_) | (refine bf7 _ rfl rfl rfl rfl rfl rfl (e4 _ _) (k0 _ (by omega)) ?_) | (refine bf7 _ rfl rfl rfl rfl rfl rfl (e5 _ _) (k0 _ (by omega)) ?_) | refine yz ?_ | refine yx ?_)
    exact ac1 ⟨q', by rw [hQ]; omega, (zle 0)⟩
 ·obtain ⟨Q, hQ⟩ : ∃ Q, (u * 4294967296 + un1) / (y1 * 4294967296 + y0) = Q := ⟨_, rfl⟩;obtain ⟨v, hv⟩ : ∃ v, (u * 4294967296 + un1) % (y1 * 4294967296 + y0) = v := ⟨_, rfl⟩;rw [hQ];have hQv : Q * Y + v = u * 4294967296 + un1 := by rw [← hQ, ← hv, hY, fo9]; exact Nat.div_add_mod _ _
  have hvY : v < y1 * 4294967296 + y0 := by rw [← hv]; exact fp2 _ (by omega)
  have hQ32 : Q < 4294967296 := by rw [← hQ]; exact ft6 (by omega)
  clear d1 d2 d3 hq2 hge hqr hq hr hry;have d1 := fun (P : Program) (t : TypeId) (w : World) => Go.Abs.u64_mul (P := P) (t := t) u 4294967296 w
  have d2 := fun (P : Program) (t : TypeId) (w : World) => Go.Abs.u64_add (P := P) (t := t) ((u * 4294967296) % 18446744073709551616) un1 w
  have d3 := fun (P : Program) (t : TypeId) (w : World) => Go.Abs.u64_mul (P := P) (t := t) Q Y w
  have d4 := fun (P : Program) (t : TypeId) (w : World) => Go.Abs.u64_sub (P := P) (t := t) (((u * 4294967296) % 18446744073709551616 + un1) % 18446744073709551616) ((Q * Y) % 18446744073709551616) (by omega) w
  simp only [cr9 u (Q * Y) un1 v hQv (by omega)] at d4;obtain ⟨q, hq⟩ : ∃ q, v / y1 = q := ⟨_, rfl⟩;obtain ⟨r, hr⟩ : ∃ r, v % y1 = r := ⟨_, rfl⟩;have hqr : q * y1 + r = v := by rw [← hq, ← hr, fo9]; exact Nat.div_add_mod v y1
  have hry : r < y1 := by rw [← hr]; exact fp2 _ (by omega)
  have hq2 : q ≤ 4294967297 := by rw [← hq]; exact cr6 b1.1 (by omega) b2
  have hge : (v * 4294967296 + un0) / (y1 * 4294967296 + y0) ≤ q := by rw [← hq]; exact cr2 (by omega) b3.2
  have d5 := fun (P : Program) (t : TypeId) (w : World) => Go.Abs.u64_quo (P := P) (t := t) v y1 (by omega) (by omega) w
  rw [hq] at d5;have d6 := fun (P : Program) (t : TypeId) (w : World) => Go.Abs.u64_mul (P := P) (t := t) q y1 w
  simp only [fp5 (show q * y1 < 18446744073709551616 by omega)] at d6;have d7 := fun (P : Program) (t : TypeId) (w : World) => Go.Abs.u64_sub (P := P) (t := t) v (q * y1) (by omega) w
  simp only [show (v + (18446744073709551616 - q * y1)) % 18446744073709551616 = r by omega] at d7
  repeat' (first | (refine bf7 _ rfl rfl rfl rfl rfl rfl (d1 _ _) (k0 _ (by omega)) ?_) | (refine bf7 _ rfl rfl rfl rfl rfl rfl (d2 _ _) (k0 _ (by omega)) ?_) | (refine bf7 _ rfl rfl rfl rfl rfl rfl (d3 _ _) (k0 _ (by omega)) ?_) | (refine bf7 _ rfl rfl rfl rfl rfl rfl (d4 _ _) (k0 _ (by omega)) ?_) | (refine bf7 _ rfl rfl rfl rfl rfl rfl (d5 _ _) (k0 _ (by omega)) ?_) | (refine bf7 _ rfl rfl rfl rfl rfl rfl (d6 _ _) (k0 _ (by omega)) ?_) | (refine bf7 _ rfl rfl rfl rfl rfl rfl (d7 _ _) (k0 _ (by omega)) ?_) | (refine bf8 2 (fun b => ⟨[(2, .d (.imm (.int .u64 ((Y : Nat) : Int)))), (8, .d (.imm (.int .u64 ((s : Nat) : Int)))), (14, .d (.imm (.int .u64 ((un0 : Nat) : Int)))), (15, .d (.imm (.int .u64 ((Q : Nat) : Int)))), (17, .d (.imm (.int .u64 ((v : Nat) : Int)))), (18, .d (.imm (.int .u64 ((b : Nat) : Int))))], []⟩) ((v * 4294967296 + un0) / (y1 * 4294967296 + y0)) ?_ ?_) | refine yz ?_)
  ·refine ac7 (α := SKn y1 y0 v un0) (fun p => ⟨[(2, .d (.imm (.int .u64 ((Y : Nat) : Int)))), (8, .d (.imm (.int .u64 ((s : Nat) : Int)))), (9, .d (.imm (.int .u64 ((y1 : Nat) : Int)))), (10, .d (.imm (.int .u64 ((y0 : Nat) : Int)))), (14, .d (.imm (.int .u64 ((un0 : Nat) : Int)))), (15, .d (.imm (.int .u64 ((Q : Nat) : Int)))), (17, .d (.imm (.int .u64 ((v : Nat) : Int)))), (18, .d (.imm (.int .u64 ((p.q : Nat) : Int)))), (16, .d (.imm (.int .u64 ((p.r : Nat) : Int))))], []⟩) (fun p => p.q) ⟨q, r, hqr, by omega, hq2, hge⟩ (zle 0) ?_;rintro ⟨q', r', h', hr', hq', hge'⟩;dsimp only;obtain ⟨Q1, hQ⟩ : ∃ Q1, (v * 4294967296 + un0) / (y1 * 4294967296 + y0) = Q1 := ⟨_, rfl⟩;rw [hQ] at hge'
   cases hc1 : decide ((q' : Int) ≥ 4294967296) with
   | true =>
    have hgt := cr3 (y0 := y0) (un1 := un0) h' (by omega) (by omega) (.inl (by have := of_decide_eq_true hc1; omega));rw [hQ] at hgt;have hq1 : 1 ≤ q' := by omega
    have e1 := fun (P : Program) (t : TypeId) (w : World) => Go.Abs.u64_sub (P := P) (t := t) q' 1 (by omega) w
    simp only [show (q' + (18446744073709551616 - 1)) % 18446744073709551616 = q' - 1 by omega] at e1;have e2 := fun (P : Program) (t : TypeId) (w : World) => Go.Abs.u64_add (P := P) (t := t) r' y1 w
    simp only [show (r' + y1) % 18446744073709551616 = r' + y1 by omega] at e2
    have h'' : (q' - 1) * y1 + (r' + y1) = v := by
     have : q' * y1 = (q' - 1) * y1 + y1 := by rw [← Nat.succ_mul, show (q' - 1).succ = q' by omega]
     omega
    cases hc3 : decide (((r' + y1 : Nat) : Int) ≥ 4294967296) with
    | true =>
     have hk := cr5 (un1 := un0) (by omega) h'' (by omega) b2 (by have := of_decide_eq_true hc3; omega);have hle := cr4 (by omega) h'' hk.2;rw [hQ] at hle
     repeat' (first | (refine bf7 _ rfl rfl rfl rfl rfl rfl (e1 _ _) (k0 _ (by omega)) ?_) | (refine bf7 _ rfl rfl rfl rfl rfl rfl (e2 _ _) (k0 _ (by omega)) ?_) | refine yz ?_ | refine yx ?_)
     exact ac1 ⟨q' - 1, by rw [hQ]; omega, (zle 0)⟩
    | false =>
     have hc3' := of_decide_eq_false hc3
     repeat' (first | (refine bf7 _ rfl rfl rfl rfl rfl rfl (e1 _ _) (k0 _ (by omega)) ?_) | (refine bf7 _ rfl rfl rfl rfl rfl rfl (e2 _ _) (k0 _ (by omega)) ?_) | refine yz ?_ | refine yx ?_)
     refine ac1 ?_;exact ⟨⟨q' - 1, r' + y1, h'', by omega, by omega, by rw [hQ]; omega⟩, by dsimp only; omega, (zle 0)⟩
   | false =>
    have hc1' := of_decide_eq_false hc1
    have hm2 : q' * y0 < 18446744073709551616 := by
     have := Nat.mul_le_mul (show q' ≤ 4294967295 by omega) (show y0 ≤ 4294967295 by omega);omega
    have e3 := fun (P : Program) (t : TypeId) (w : World) => Go.Abs.u64_mul (P := P) (t := t) q' y0 w
    simp only [fp5 hm2] at e3;have e4 := fun (P : Program) (t : TypeId) (w : World) => Go.Abs.u64_mul (P := P) (t := t) 4294967296 r' w
    simp only [show (4294967296 * r') % 18446744073709551616 = 4294967296 * r' by omega] at e4;have e5 := fun (P : Program) (t : TypeId) (w : World) => Go.Abs.u64_add (P := P) (t := t) (4294967296 * r') un0 w
    simp only [show (4294967296 * r' + un0) % 18446744073709551616 = 4294967296 * r' + un0 by omega] at e5
    cases hc2 : decide (((q' * y0 : Nat) : Int) > ((4294967296 * r' + un0 : Nat) : Int)) with
    | true =>
     have hgt := cr3 (y0 := y0) (un1 := un0) h' (by omega) (by omega) (.inr (by have := of_decide_eq_true hc2; omega));rw [hQ] at hgt;have hq1 : 1 ≤ q' := by omega
     have e1 := fun (P : Program) (t : TypeId) (w : World) => Go.Abs.u64_sub (P := P) (t := t) q' 1 (by omega) w
     simp only [show (q' + (18446744073709551616 - 1)) % 18446744073709551616 = q' - 1 by omega] at e1;have e2 := fun (P : Program) (t : TypeId) (w : World) => Go.Abs.u64_add (P := P) (t := t) r' y1 w
     simp only [show (r' + y1) % 18446744073709551616 = r' + y1 by omega] at e2
     have h'' : (q' - 1) * y1 + (r' + y1) = v := by
      have : q' * y1 = (q' - 1) * y1 + y1 := by rw [← Nat.succ_mul, show (q' - 1).succ = q' by omega]
      omega
     cases hc3 : decide (((r' + y1 : Nat) : Int) ≥ 4294967296) with
     | true =>
      have hk := cr5 (un1 := un0) (by omega) h'' (by omega) b2 (by have := of_decide_eq_true hc3; omega);have hle := cr4 (by omega) h'' hk.2;rw [hQ] at hle
      repeat' (first | (refine bf7 _ rfl rfl rfl rfl rfl rfl (e3 _ _) (k0 _ (by omega)) ?_) | (refine bf7 _ rfl rfl rfl rfl rfl rfl (e4 _ _) (k0 _ (by omega)) ?_) | (refine bf7 _ rfl rfl rfl rfl rfl rfl (e5 _ _) (k0 _ (by omega)) ?_) | (refine bf7 _ rfl rfl rfl rfl rfl rfl (e1 _ _) (k0 _ (by omega)) ?_) | (refine bf7 _ rfl rfl rfl rfl rfl rfl (e2 _ _) (k0 _ (by omega)) ?_) | refine yz ?_ | refine yx ?_)
      exact ac1 ⟨q' - 1, by rw [hQ]; omega, (zle 0)⟩
     | false =>
      have hc3' := of_decide_eq_false hc3
      repeat' (first | (refine bf7 _ rfl rfl rfl rfl rfl rfl (e3 _ _) (k0 _ (by omega)) ?_) | (refine bf7 _ rfl rfl rfl rfl rfl rfl (e4 _ _) (k0 _ (by omega)) ?_) | (refine bf7 _ rfl rfl rfl rfl rfl rfl (e5 _ _) (k0 _ (by omega)) ?_) | (refine bf7 _ rfl rfl rfl rfl rfl rfl (e1 _ _) (k0 _ (by omega)) ?_) | (refine bf7 _ rfl rfl rfl rfl rfl rfl (e2 _ _) (k0 _ (by omega)) ?_) | refine yz ?_ | refine yx ?_)
      refine ac1 ?_;exact ⟨⟨q' - 1, r' + y1, h'', by omega, by omega, by rw [hQ]; omega⟩, by dsimp only; omega, (zle 0)⟩
    | false =>
     have hc2' := of_decide_eq_false hc2;have hle := cr4 (un1 := un0) (y0 := y0) (by omega) h' (by omega);rw [hQ] at hle
     repeat' (first | (refine bf7 _ rfl rfl rfl rfl rfl rfl (e3 _ _) (k0 _ (by omega)) ?_) | (refine bf7 _ rfl rfl rfl rfl rfl rfl (e4 _ _) (k0 _ (by omega)) ?_) | (refine bf7 _ rfl rfl rfl rfl rfl rfl (e5 _ _) (k0 _ (by omega)) ?_) | refine yz ?_ | refine yx ?_)
     exact ac1 ⟨q', by rw [hQ]; omega, (zle 0)⟩
  ·obtain ⟨P0, hP0⟩ : ∃ Q, (v * 4294967296 + un0) / (y1 * 4294967296 + y0) = Q := ⟨_, rfl⟩;obtain ⟨z, hz⟩ : ∃ v', (v * 4294967296 + un0) % (y1 * 4294967296 + y0) = v' := ⟨_, rfl⟩;rw [hP0];have hPz : P0 * Y + z = v * 4294967296 + un0 := by rw [← hP0, ← hz, hY, fo9]; exact Nat.div_add_mod _ _
   have hzY : z < y1 * 4294967296 + y0 := by rw [← hz]; exact fp2 _ (by omega)
   have hP32 : P0 < 4294967296 := by rw [← hP0]; exact ft6 (by omega)
   clear d1 d2 d3 d4 d5 d6 d7 hP0 hz hQ hv hq hr hqr hry hq2 hge;have d1 := fun (P : Program) (t : TypeId) (w : World) => Go.Abs.u64_mul (P := P) (t := t) Q 4294967296 w
   simp only [fp5 (show Q * 4294967296 < 18446744073709551616 from by clear hfin1 hfin2 sp1 sp2; omega)] at d1;have d2 := fun (P : Program) (t : TypeId) (w : World) => Go.Abs.u64_add (P := P) (t := t) (Q * 4294967296) P0 w
   simp only [fp5 (show Q * 4294967296 + P0 < 18446744073709551616 from by clear hfin1 hfin2 sp1 sp2; omega)] at d2;have d3 := fun (P : Program) (t : TypeId) (w : World) => Go.Abs.u64_mul (P := P) (t := t) v 4294967296 w
   have d4 := fun (P : Program) (t : TypeId) (w : World) => Go.Abs.u64_add (P := P) (t := t) ((v * 4294967296) % 18446744073709551616) un0 w
   have d5 := fun (P : Program) (t : TypeId) (w : World) => Go.Abs.u64_mul (P := P) (t := t) P0 Y w
   have d6 := fun (P : Program) (t : TypeId) (w : World) => Go.Abs.u64_sub (P := P) (t := t) (((v * 4294967296) % 18446744073709551616 + un0) % 18446744073709551616) ((P0 * Y) % 18446744073709551616) (by omega) w
   simp only [cr9 v (P0 * Y) un0 z hPz (by omega)] at d6;have d7 := fun (P : Program) (t : TypeId) (k : IntKind) (w : World) => Go.Abs.u64_shr (P := P) (t := t) (k := k) z s (by omega) w
   have hdm : (Q * 4294967296 + P0) * Y + z = u * 18446744073709551616 + ul := by
    rw [fo6, show Q * 4294967296 * Y = Q * Y * 4294967296 by rw [Nat.mul_assoc, fo9 4294967296, Nat.mul_assoc]];omega
   have hd1 : (u * 18446744073709551616 + ul) / Y = Q * 4294967296 + P0 := by
    rw [← hdm, fo9, Nat.mul_add_div (by omega), Nat.div_eq_of_lt (by omega), fn6]
   have hd2 : (u * 18446744073709551616 + ul) % Y = z := by
    rw [← hdm, fo9, Nat.mul_add_mod, fp5 (by omega)]
   rw [hd1] at hfin1;rw [hd2] at hfin2;rw [← hfin1, ← hfin2];have kz : okV (.int .u64 ((z / 2 ^ s : Nat) : Int)) = true := k0 _ (ft0 (Nat.div_le_self _ _) (by omega))
   repeat' (first | (refine bf7 _ rfl rfl rfl rfl rfl rfl (d2 _ _) (k0 _ (by omega)) ?_) | (refine bf7 _ rfl rfl rfl rfl rfl rfl (d3 _ _) (k0 _ (by omega)) ?_) | (refine bf7 _ rfl rfl rfl rfl rfl rfl (d4 _ _) (k0 _ (by omega)) ?_) | (refine bf7 _ rfl rfl rfl rfl rfl rfl (d5 _ _) (k0 _ (by omega)) ?_) | (refine bf7 _ rfl rfl rfl rfl rfl rfl (d6 _ _) (k0 _ (by omega)) ?_) | (refine bf7 _ rfl rfl rfl rfl rfl rfl (d7 _ _ _) kz ?_) | refine yz ?_ | exact zL)
theorem cs2 (m g : Nat) : (m / 18446744073709551616 % g * 18446744073709551616 + m % 18446744073709551616) % g = m % g := by
 have h := Nat.div_add_mod m 18446744073709551616
 conv => rhs; rw [← h]
 rw [Nat.add_mod, Nat.mul_mod, Nat.mod_mod, ← Nat.mul_mod, ← Nat.add_mod, fo9]
theorem cs3 (p : Bool) (m g : Nat) (hg : 0 < g) (hg2 : g < 18446744073709551616) (hm : m < 18446744073709551616 * 18446744073709551616) : Ev E 303 [cg7 p m, .imm (.int .u64 (g : Int))] (.d (.imm (.int .u64 ((m % g : Nat) : Int)))) := by
 have h1 := cs1 (m / 18446744073709551616 % g) (m % 18446744073709551616) g (fp2 _ hg) hg2 (fp2 _ (by omega));rw [cs2] at h1;have e1 := fun (P : Program) (t : TypeId) (w : World) => Go.Abs.u64_rem (P := P) (t := t) (m / 18446744073709551616) g hg w
 have k1 := bf5 (m / 18446744073709551616 % g) (Nat.lt_trans (fp2 _ hg) hg2);have k0 := hg;generalize m / 18446744073709551616 % g = a at *;unfold cg7;refine ye2 func303 ntmps303 fun _ _ _=>?_
 repeat' (first | (refine bf7 _ rfl rfl rfl rfl rfl rfl (e1 _ _) k1 ?_) | refine yz ?_ | refine yp b343 h1 ?_ | exact zD)
def ovB (m h : Nat) : Bool := decide (m / h ≤ 1000000000000000)
def ovN (p : Bool) (m h : Nat) : Int := bif ovB m h then sv p (m / h) else 0
theorem cs4 (p : Bool) (m h : Nat) (hh : 0 < h) (h2 : h < 18446744073709551616) : Ev E 304 [cg7 p m, .imm (.int .u64 (h : Int))] (.tup [.int (ovN p m h), .bool (ovB m h)]) := by
 cases g1 : decide (((m / 18446744073709551616 : Nat) : Int) ≥ (h : Int)) with
 | true =>
  have hb : ovB m h = false := by
   have g := of_decide_eq_true g1;have : h ≤ m / 18446744073709551616 := by omega
   rw [Nat.le_div_iff_mul_le (by omega)] at this;have : 18446744073709551616 ≤ m / h := by rw [Nat.le_div_iff_mul_le hh]; omega
   unfold ovB;simp;omega
  unfold ovN;rw [hb];unfold cg7;refine ye2 func304 ntmps304 fun _ _ _=>?_
  repeat' (first | refine yz ?_ | exact zL)
 | false =>
  have g := of_decide_eq_false g1;have h1 := cs1 (m / 18446744073709551616) (m % 18446744073709551616) h (by omega) h2 (fp2 _ (by omega));rw [show m / 18446744073709551616 * 18446744073709551616 + m % 18446744073709551616 = m by omega] at h1;unfold ovN
  cases hb : ovB m h with
  | false =>
   have g2 : decide (((m / h : Nat) : Int) > 1000000000000000) = true := by unfold ovB at hb; simp at hb ⊢; omega
   generalize m / h = q at *;unfold cg7;refine ye2 func304 ntmps304 fun _ _ _=>?_
   repeat' (first | refine yz ?_ | refine yp b343 h1 ?_ | exact zL)
  | true =>
   have hq : m / h ≤ 1000000000000000 := by unfold ovB at hb; simpa using hb
   have g2 : decide (((m / h : Nat) : Int) > 1000000000000000) = false := by simp; omega
   generalize m / h = q at *;have r1 : inR .i64 (q : Int) := by simp only [inR]; omega
   unfold cg7
   cases p with
   | true =>
    rw [show (bif true then sv true q else 0) = 0 - (q : Int) by simp [sv]];refine ye2 func304 ntmps304 fun _ _ _=>?_
    repeat' (first | refine yz ?_ | refine yp b343 h1 ?_ | exact zL)
   | false =>
    refine ye2 func304 ntmps304 fun _ _ _=>?_
    repeat' (first | refine yz ?_ | refine yp b343 h1 ?_ | exact zL)
def cs5 (a b : Int) : Bool := inM a && (inM b && decide (a.natAbs * b.natAbs ≤ 1000000000000000))
def mulN (a b : Int) : Int := bif cs5 a b then a * b else 0
theorem cs6 {a b : Int} (h : a.natAbs * b.natAbs ≤ 1000000000000000) : -1000000000000000 ≤ a * b ∧ a * b ≤ 1000000000000000 := by
 rw [← Int.natAbs_mul] at h;omega
theorem cs7 (a b : Int) : Ev E 305 [.int a, .int b] (.tup [.int (mulN a b), .bool (cs5 a b)]) := by
 have h1 := bw1 a;have h2 := bw1 b;unfold mulN
 cases ha : inM a with
 | false =>
  rw [ha] at h1;rw [show cs5 a b = false by unfold cs5; rw [ha]; rfl];refine ye2 func305 ntmps305 fun _ _ _=>?_
  repeat' (first | refine yz ?_ | refine yp bv2 h1 ?_ | exact zL)
 | true =>
  cases hb : inM b with
  | false =>
   rw [ha] at h1;rw [hb] at h2;rw [show cs5 a b = false by unfold cs5; rw [ha, hb]; rfl];refine ye2 func305 ntmps305 fun _ _ _=>?_
   repeat' (first | refine yz ?_ | refine yp bv2 h1 ?_ | refine yp bv2 h2 ?_ | exact zL)
  | true =>
   have h3 := bw3 a ha;have h4 := bw3 b hb;rw [ha] at h1;rw [hb] at h2;have ha' := (bq6 a).1 ha;have hb' := (bq6 b).1 hb;have hm : cs5 a b = decide (a.natAbs * b.natAbs ≤ 1000000000000000) := by unfold cs5; rw [ha, hb]; rfl
   cases h0 : a != 0 with
   | false =>
    have : a = 0 := by simpa using h0
    subst this;rw [show cs5 0 b = true by rw [hm]; simp];refine ye2 func305 ntmps305 fun _ _ _=>?_
    repeat' (first | refine yz ?_ | refine yp bv2 h1 ?_ | refine yp bv2 h2 ?_ | exact zL)
   | true =>
    have h0' : a ≠ 0 := by simpa using h0
    have hdv : Int.tdiv 1000000000000000 (a.natAbs : Int) = ((1000000000000000 / a.natAbs : Nat) : Int) := by
     rw [fr1 (by omega)]; rfl
    have hlt := Nat.div_le_self 1000000000000000 a.natAbs;have hiff : b.natAbs ≤ 1000000000000000 / a.natAbs ↔ a.natAbs * b.natAbs ≤ 1000000000000000 := by rw [Nat.le_div_iff_mul_le (by omega), fo9]
    have hna : (a.natAbs : Int) ≠ 0 := by omega
    generalize 1000000000000000 / a.natAbs = Q at hdv hlt hiff;have hri : inR .i64 (Int.tdiv 1000000000000000 (a.natAbs : Int)) := by rw [hdv]; simp only [inR]; omega
    cases hc : decide (a.natAbs * b.natAbs ≤ 1000000000000000) with
    | true =>
     have g : decide ((b.natAbs : Int) > Int.tdiv 1000000000000000 (a.natAbs : Int)) = false := by
      have := hiff.2 (of_decide_eq_true hc);rw [hdv]; simp; omega
     have := cs6 (of_decide_eq_true hc);rw [hm, hc];refine ye2 func305 ntmps305 fun _ _ _=>?_
     repeat' (first | refine yz ?_ | refine yp bv2 h1 ?_ | refine yp bv2 h2 ?_ | refine yp bw0 h3 ?_ | refine yp bw0 h4 ?_ | refine yx ?_ | exact zL)
    | false =>
     have g : decide ((b.natAbs : Int) > Int.tdiv 1000000000000000 (a.natAbs : Int)) = true := by
      have := mt hiff.1 (of_decide_eq_false hc);rw [hdv]; simp; omega
     rw [hm, hc];refine ye2 func305 ntmps305 fun _ _ _=>?_
     repeat' (first | refine yz ?_ | refine yp bv2 h1 ?_ | refine yp bv2 h2 ?_ | refine yp bw0 h3 ?_ | refine yp bw0 h4 ?_ | refine yx ?_ | exact zL)
def cs8 (a b : Int) : Bool := inM a && (inM b && !(b == 0))
def cs9 (a b : Int) : Int := bif cs8 a b then a.tmod b else 0
theorem ct0 (a b : Int) : Ev E 268 [.int a, .int b] (.tup [.int (cs9 a b), .bool (cs8 a b)]) := by
 have h1 := bw1 a;have h2 := bw1 b;unfold cs9
 cases ha : inM a with
 | false =>
  rw [ha] at h1;rw [show cs8 a b = false by unfold cs8; rw [ha]; rfl];refine ye2 func268 ntmps268 fun _ _ _=>?_
  repeat' (first | refine yz ?_ | refine yp bv2 h1 ?_ | exact zL)
 | true =>
  cases hb : inM b with
  | false =>
   rw [ha] at h1;rw [hb] at h2;rw [show cs8 a b = false by unfold cs8; rw [ha, hb]; rfl];refine ye2 func268 ntmps268 fun _ _ _=>?_
   repeat' (first | refine yz ?_ | refine yp bv2 h1 ?_ | refine yp bv2 h2 ?_ | exact zL)
  | true =>
   rw [ha] at h1;rw [hb] at h2;have ha' := (bq6 a).1 ha;have hb' := (bq6 b).1 hb
   cases h0 : b == 0 with
   | true =>
    rw [show cs8 a b = false by unfold cs8; rw [ha, hb, h0]; rfl];refine ye2 func268 ntmps268 fun _ _ _=>?_
    repeat' (first | refine yz ?_ | refine yp bv2 h1 ?_ | refine yp bv2 h2 ?_ | exact zL)
   | false =>
    have h0' : b ≠ 0 := by simpa using h0
    have hri : inR .i64 (a.tmod b) := by
     have e := Int.natAbs_tmod a b;have := Nat.mod_le a.natAbs b.natAbs;generalize a.tmod b = z at *;generalize a.natAbs % b.natAbs = y at *;simp only [inR]; omega
    rw [show cs8 a b = true by unfold cs8; rw [ha, hb, h0]; rfl];refine ye2 func268 ntmps268 fun _ _ _=>?_
    repeat' (first | refine yz ?_ | refine yp bv2 h1 ?_ | refine yp bv2 h2 ?_ | (refine qS rfl ⟨h0', hri⟩ ?_) | exact zL)
end Go.Proofs.YtaiiailapeffgaaGreatDoor
namespace Go.Proofs.YtaiiailapeffgaaGreatDoor
set_option maxRecDepth 4000
open Go Go.Abs Go.Val Go.RowKit Go.Proofs.Tryz
attribute [local irreducible] go SGo an2 Ev aw0 EvO EvS
attribute [local irreducible] binOp
def adG (ad bd : Int) : Nat := Int.gcd ad bd
def adT (an ad bn bd : Int) : Int := an * Int.tdiv bd (adG ad bd) + bn * Int.tdiv ad (adG ad bd)
def adH (an ad bn bd : Int) : Nat := Int.gcd (((adT an ad bn bd).natAbs % adG ad bd : Nat) : Int) (adG ad bd : Int)
def adD (an ad bn bd : Int) : Int := Int.tdiv ad (adG ad bd) * Int.tdiv bd (adH an ad bn bd)
def adN (an ad bn bd : Int) : Int := sgn (adT an ad bn bd) * (((adT an ad bn bd).natAbs / adH an ad bn bd : Nat) : Int)
def adK (an ad bn bd : Int) : Bool := ovB (adT an ad bn bd).natAbs (adH an ad bn bd) && decide (adD an ad bn bd ≤ 1000000000000000)
def ct1 (an ad bn bd : Int) : Bool := bq8 an ad && bq8 bn bd && (adT an ad bn bd == 0 || adK an ad bn bd)
def ct2 (an ad bn bd : Int) : Int := bif ct1 an ad bn bd then (bif adT an ad bn bd == 0 then 0 else adN an ad bn bd) else 0
def ct3 (an ad bn bd : Int) : Int := bif ct1 an ad bn bd then (bif adT an ad bn bd == 0 then 1 else adD an ad bn bd) else 0
theorem ct4 {n d : Int} (h : bq8 n d = true) : (1 ≤ d ∧ d ≤ 1000000000000000) ∧ (-1000000000000000 ≤ n ∧ n ≤ 1000000000000000) ∧ Int.gcd n d = 1 := by
 unfold bq8 at h;simp only [fk3, decide_eq_true_eq, beq_iff_eq] at h;have := (bq6 n).1 h.2.2.1;exact ⟨⟨h.1, h.2.1⟩, this, by omega⟩
theorem ct5 {b : Int} {g : Nat} (hb : 1 ≤ b ∧ b ≤ 1000000000000000) (hg : (g : Int) ∣ b) (h0 : 0 < g) : 1 ≤ Int.tdiv b g ∧ Int.tdiv b g ≤ 1000000000000000 := by
 rw [fr1 (by omega)];have h1 : (g : Int) ≤ b := Int.le_of_dvd (by omega) hg;refine ⟨?_, ?_⟩
 ·rw [Int.le_ediv_iff_mul_le (by omega)]; omega
 ·exact Int.le_trans (Int.ediv_le_self _ (by omega)) hb.2
theorem ct6 {p : Bool} {m : Nat} {T : Int} (h : sv p m = T) : m = T.natAbs ∧ (T ≠ 0 → ∀ q : Nat, sv p q = sgn T * q) := by
 cases p
 ·simp only [sv, cond_false] at h;refine ⟨by omega, fun h0 q => ?_⟩;rw [cf5 (by omega)];simp [sv]
 ·simp only [sv, cond_true] at h;refine ⟨by omega, fun h0 q => ?_⟩;rw [cf6 (by omega)];simp [sv]
theorem ct7 {an ad bn bd : Int} (hva : bq8 an ad = true) (hvb : bq8 bn bd = true) : ∃ (G H : Nat) (T : Int) (p q r : Bool) (m m' : Nat),
  G = adG ad bd ∧ H = adH an ad bn bd ∧ T = adT an ad bn bd ∧ (1 ≤ G ∧ G ≤ 1000000000000000) ∧ (1 ≤ H ∧ H ≤ 1000000000000000) ∧ (1 ≤ Int.tdiv bd G ∧ Int.tdiv bd G ≤ 1000000000000000) ∧ (1 ≤ Int.tdiv ad G ∧ Int.tdiv ad G ≤ 1000000000000000) ∧
  (1 ≤ Int.tdiv bd H ∧ Int.tdiv bd H ≤ 1000000000000000) ∧ T.natAbs ≤ 2000000000000000000000000000000 ∧ Ev E 290 [.int ad, .int bd] (.d (.int (G : Int))) ∧ Ev E 300 [.int an, .int (Int.tdiv bd G)] (.d (cg7 p m)) ∧ Ev E 300 [.int bn, .int (Int.tdiv ad G)] (.d (cg7 q m')) ∧
  Ev E 301 [cg7 p m, cg7 q m'] (.d (cg7 r T.natAbs)) ∧ Ev E 302 [cg7 r T.natAbs] (.d (.int (sgn T))) ∧ Ev E 303 [cg7 r T.natAbs, .imm (.int .u64 (G : Int))] (.d (.imm (.int .u64 ((T.natAbs % G : Nat) : Int)))) ∧
  Ev E 290 [.int ((T.natAbs % G : Nat) : Int), .int (G : Int)] (.d (.int (H : Int))) ∧ (T ≠ 0 → ovN r T.natAbs H = bif ovB T.natAbs H then sgn T * ((T.natAbs / H : Nat) : Int) else 0) ∧
  Ev E 304 [cg7 r T.natAbs, .imm (.int .u64 (H : Int))] (.tup [.int (ovN r T.natAbs H), .bool (ovB T.natAbs H)]) := by
 obtain ⟨a1, a2, -⟩ := ct4 hva;obtain ⟨b1, b2, -⟩ := ct4 hvb;have hG0 : 0 < Int.gcd ad bd := Int.gcd_pos_of_ne_zero_left _ (by omega);have hGa : ((Int.gcd ad bd : Nat) : Int) ∣ ad := Int.gcd_dvd_left ..;have hGb : ((Int.gcd ad bd : Nat) : Int) ∣ bd := Int.gcd_dvd_right ..;have hG1 : ((Int.gcd ad bd : Nat) : Int) ≤ ad := Int.le_of_dvd (by omega) hGa;have r1 := ct5 b1 hGb hG0;have r2 := ct5 a1 hGa hG0;have n1 := ci1 (a := an) (b := Int.tdiv bd (Int.gcd ad bd : Nat)) a2 (by omega);have n2 := ci1 (a := bn) (b := Int.tdiv ad (Int.gcd ad bd : Nat)) b2 (by omega);have hw := ch7 (!(decide (an < 0) == decide (Int.tdiv bd (Int.gcd ad bd : Nat) < 0))) (!(decide (bn < 0) == decide (Int.tdiv ad (Int.gcd ad bd : Nat) < 0))) _ _ n1 n2;have hsv := ch5 (!(decide (an < 0) == decide (Int.tdiv bd (Int.gcd ad bd : Nat) < 0))) (!(decide (bn < 0) == decide (Int.tdiv ad (Int.gcd ad bd : Nat) < 0))) (an.natAbs * (Int.tdiv bd (Int.gcd ad bd : Nat)).natAbs) (bn.natAbs * (Int.tdiv ad (Int.gcd ad bd : Nat)).natAbs);have hle := ch6 (!(decide (an < 0) == decide (Int.tdiv bd (Int.gcd ad bd : Nat) < 0))) (!(decide (bn < 0) == decide (Int.tdiv ad (Int.gcd ad bd : Nat) < 0))) (an.natAbs * (Int.tdiv bd (Int.gcd ad bd : Nat)).natAbs) (bn.natAbs * (Int.tdiv ad (Int.gcd ad bd : Nat)).natAbs);rw [ci0, ci0] at hsv;have hp1 := cg9 an (Int.tdiv bd (Int.gcd ad bd : Nat));have hp2 := cg9 bn (Int.tdiv ad (Int.gcd ad bd : Nat));obtain ⟨i1, i2⟩ := ct6 hsv;have hbig : (an * Int.tdiv bd (Int.gcd ad bd : Nat) + bn * Int.tdiv ad (Int.gcd ad bd : Nat)).natAbs ≤ 2000000000000000000000000000000 := by omega
 rw [i1] at hw hsv;generalize (ch4 _ _ _ _).1 = r at *;change Ev E 301 _ (.d (cg7 r (adT an ad bn bd).natAbs)) at hw;have hHG : adH an ad bn bd ∣ adG ad bd := Int.ofNat_dvd.1 (Int.gcd_dvd_right ..);have hH0 : 0 < adH an ad bn bd := Nat.pos_of_dvd_of_pos hHG hG0;have hHle : adH an ad bn bd ≤ adG ad bd := Nat.le_of_dvd hG0 hHG;have hHb : ((adH an ad bn bd : Nat) : Int) ∣ bd := Int.dvd_trans (Int.ofNat_dvd.2 hHG) hGb;have r3 := ct5 b1 hHb hH0;have hGM : adG ad bd ≤ 1000000000000000 := by show Int.gcd ad bd ≤ _; omega
 have hgc1 := bw8 ad bd;rw [show bq7 ad bd = ((Int.gcd ad bd : Nat) : Int) by unfold bq7; rw [(bq6 ad).2 (by omega), (bq6 bd).2 (by omega)]; rfl] at hgc1;have hml : (adT an ad bn bd).natAbs % adG ad bd < adG ad bd := fp2 _ hG0;have hgc2 := bw8 (((adT an ad bn bd).natAbs % adG ad bd : Nat) : Int) (adG ad bd : Int);rw [show bq7 (((adT an ad bn bd).natAbs % adG ad bd : Nat) : Int) (adG ad bd : Int) = (adH an ad bn bd : Int) by unfold bq7; rw [(bq6 _).2 (by omega), (bq6 _).2 (by omega)]; rfl] at hgc2;have hbig2 : (adT an ad bn bd).natAbs ≤ 2000000000000000000000000000000 := hbig;have hsg := ch9 r (adT an ad bn bd).natAbs (by omega);rw [show sv r (adT an ad bn bd).natAbs = adT an ad bn bd from hsv] at hsg;have hmo := cs3 r (adT an ad bn bd).natAbs (adG ad bd) hG0 (by omega) (by omega);have hov := cs4 r (adT an ad bn bd).natAbs (adH an ad bn bd) hH0 (by omega);refine ⟨adG ad bd, adH an ad bn bd, adT an ad bn bd, _, _, r, _, _, rfl, rfl, rfl, ⟨hG0, hGM⟩, ⟨hH0, by omega⟩, r1, r2, r3, hbig2, hgc1, hp1, hp2, hw, hsg, hmo, hgc2, fun h0 => ?_, hov⟩;unfold ovN
 cases ovB (adT an ad bn bd).natAbs (adH an ad bn bd) with
 | false => rfl
 | true => exact i2 h0 _
def muN (an ad bn bd : Int) : Int := Int.tdiv an (Int.gcd an bd : Nat) * Int.tdiv bn (Int.gcd bn ad : Nat)
def muD (an ad bn bd : Int) : Int := Int.tdiv ad (Int.gcd bn ad : Nat) * Int.tdiv bd (Int.gcd an bd : Nat)
def ct8 (an ad bn bd : Int) : Bool := bq8 an ad && bq8 bn bd && (decide ((muN an ad bn bd).natAbs ≤ 1000000000000000) && decide (muD an ad bn bd ≤ 1000000000000000))
theorem ct9 {a : Int} {g : Nat} (ha : -1000000000000000 ≤ a ∧ a ≤ 1000000000000000) : (Int.tdiv a g).natAbs = a.natAbs / g ∧ -1000000000000000 ≤ Int.tdiv a g ∧ Int.tdiv a g ≤ 1000000000000000 := by
 have e : (Int.tdiv a g).natAbs = a.natAbs / g := by rw [Int.natAbs_tdiv]; rfl
 have := Nat.div_le_self a.natAbs g;refine ⟨e, ?_, ?_⟩ <;> omega
theorem cu0 (an ad bn bd : Int) : Ev E 271 [.agg [.int an, .int ad], .agg [.int bn, .int bd]] (.tup [.agg [.int (bif ct8 an ad bn bd then muN an ad bn bd else 0), .int (bif ct8 an ad bn bd then muD an ad bn bd else 0)], .bool (ct8 an ad bn bd)]) := by
 have hva := bw9 an ad;have hvb := bw9 bn bd
 cases ha : bq8 an ad with
 | false =>
  rw [ha] at hva;rw [show ct8 an ad bn bd = false by unfold ct8; rw [ha]; rfl];refine ye2 func271 ntmps271 fun _ _ _=>?_
  repeat' (first | refine yz ?_ | refine yp bv3 hva ?_ | exact zL)
 | true =>
  cases hb : bq8 bn bd with
  | false =>
   rw [ha] at hva;rw [hb] at hvb;rw [show ct8 an ad bn bd = false by unfold ct8; rw [ha, hb]; rfl];refine ye2 func271 ntmps271 fun _ _ _=>?_
   repeat' (first | refine yz ?_ | refine yp bv3 hva ?_ | refine yp bv3 hvb ?_ | exact zL)
  | true =>
   obtain ⟨a1, a2, -⟩ := ct4 ha;obtain ⟨b1, b2, -⟩ := ct4 hb;rw [ha] at hva;rw [hb] at hvb;have hB : ct8 an ad bn bd = (decide ((muN an ad bn bd).natAbs ≤ 1000000000000000) && decide (muD an ad bn bd ≤ 1000000000000000)) := by unfold ct8; rw [ha, hb]; rfl
   have g1 := bw8 an bd;rw [show bq7 an bd = ((Int.gcd an bd : Nat) : Int) by unfold bq7; rw [(bq6 an).2 (by omega), (bq6 bd).2 (by omega)]; rfl] at g1;have g2 := bw8 bn ad;rw [show bq7 bn ad = ((Int.gcd bn ad : Nat) : Int) by unfold bq7; rw [(bq6 bn).2 (by omega), (bq6 ad).2 (by omega)]; rfl] at g2;have hG0 : 0 < Int.gcd an bd := Int.gcd_pos_of_ne_zero_right _ (by omega);have hH0 : 0 < Int.gcd bn ad := Int.gcd_pos_of_ne_zero_right _ (by omega);obtain ⟨-, t1⟩ := ct9 (g := Int.gcd an bd) a2;obtain ⟨-, t2⟩ := ct9 (g := Int.gcd bn ad) b2;have t3 := ct5 a1 (show ((Int.gcd bn ad : Nat) : Int) ∣ ad from Int.gcd_dvd_right ..) hH0;have t4 := ct5 b1 (show ((Int.gcd an bd : Nat) : Int) ∣ bd from Int.gcd_dvd_right ..) hG0;have n1 := cs7 (Int.tdiv an (Int.gcd an bd : Nat)) (Int.tdiv bn (Int.gcd bn ad : Nat));have n2 := cs7 (Int.tdiv ad (Int.gcd bn ad : Nat)) (Int.tdiv bd (Int.gcd an bd : Nat));unfold mulN at n1 n2
   rw [show cs5 (Int.tdiv an (Int.gcd an bd : Nat)) (Int.tdiv bn (Int.gcd bn ad : Nat)) = decide ((muN an ad bn bd).natAbs ≤ 1000000000000000) by
    unfold cs5 muN; rw [(bq6 _).2 t1, (bq6 _).2 t2, fm3, fm3, ← Int.natAbs_mul]] at n1
   rw [show cs5 (Int.tdiv ad (Int.gcd bn ad : Nat)) (Int.tdiv bd (Int.gcd an bd : Nat)) = decide (muD an ad bn bd ≤ 1000000000000000) by
    unfold cs5 muD;rw [(bq6 _).2 (by omega), (bq6 _).2 (by omega), fm3, fm3, ← Int.natAbs_mul];have : 0 ≤ Int.tdiv ad (Int.gcd bn ad : Nat) * Int.tdiv bd (Int.gcd an bd : Nat) := Int.mul_nonneg (by omega) (by omega);rw [decide_eq_decide];omega] at n2
   change Ev E 305 _ (.tup [.int (bif _ then muN an ad bn bd else 0), _]) at n1;change Ev E 305 _ (.tup [.int (bif _ then muD an ad bn bd else 0), _]) at n2;rw [hB];generalize muN an ad bn bd = x at *;generalize muD an ad bn bd = y at *;generalize decide (x.natAbs ≤ 1000000000000000) = k1 at *;generalize decide (y ≤ 1000000000000000) = k2 at *;clear hB ha hb;generalize Int.gcd an bd = G at *;generalize Int.gcd bn ad = H at *;have w1 : inR .i64 (Int.tdiv an G) := by simp only [inR]; omega
   have w2 : inR .i64 (Int.tdiv bn H) := by simp only [inR]; omega
   have w3 : inR .i64 (Int.tdiv ad H) := by simp only [inR]; omega
   have w4 : inR .i64 (Int.tdiv bd G) := by simp only [inR]; omega
   have wG : (G : Int) ≠ 0 := by omega
   have wH : (H : Int) ≠ 0 := by omega
   cases k1 <;> cases k2
   all_goals
    refine ye2 func271 ntmps271 fun _ _ _=>?_
    repeat' (first | refine yz ?_ | refine yp bv3 hva ?_ | refine yp bv3 hvb ?_ | refine qP (d := 25) rfl rfl rfl rfl rfl rfl bv8 (g1) ?_ | refine qP (d := 30) rfl rfl rfl rfl rfl rfl bv8 (g2) ?_ | refine qP (d := 40) rfl rfl rfl rfl rfl rfl b305 (n1) ?_ | refine qP (d := 52) rfl rfl rfl rfl rfl rfl b305 (n2) ?_ | exact zL)
def cu1 (an ad bn bd : Int) : Bool := (bq8 bn bd && !(bn == 0)) && ct8 an ad (sgn bn * bd) (bn.natAbs : Int)
def cu2 (an ad bn bd : Int) : Int := bif cu1 an ad bn bd then muN an ad (sgn bn * bd) (bn.natAbs : Int) else 0
def cu3 (an ad bn bd : Int) : Int := bif cu1 an ad bn bd then muD an ad (sgn bn * bd) (bn.natAbs : Int) else 0
theorem cu4 (an ad bn bd : Int) : Ev E 272 [.agg [.int an, .int ad], .agg [.int bn, .int bd]] (.tup [.agg [.int (cu2 an ad bn bd), .int (cu3 an ad bn bd)], .bool (cu1 an ad bn bd)]) := by
 have hvb := bw9 bn bd;unfold cu2 cu3
 cases hb : bq8 bn bd with
 | false =>
  rw [hb] at hvb;rw [show cu1 an ad bn bd = false by unfold cu1; rw [hb]; rfl];refine ye2 func272 ntmps272 fun _ _ _=>?_
  repeat' (first | refine yz ?_ | refine yp bv3 hvb ?_ | exact zL)
 | true =>
  obtain ⟨b1, b2, -⟩ := ct4 hb;rw [hb] at hvb
  cases h0 : bn == 0 with
  | true =>
   rw [show cu1 an ad bn bd = false by unfold cu1; rw [hb, h0]; rfl];refine ye2 func272 ntmps272 fun _ _ _=>?_
   repeat' (first | refine yz ?_ | refine yp bv3 hvb ?_ | exact zL)
  | false =>
   have h0' : bn ≠ 0 := by simpa using h0
   rw [show cu1 an ad bn bd = ct8 an ad (sgn bn * bd) (bn.natAbs : Int) by unfold cu1; rw [hb, h0]; rfl];have hm := cu0 an ad (sgn bn * bd) (bn.natAbs : Int)
   cases hneg : decide (bn < 0) with
   | true =>
    have hn := of_decide_eq_true hneg;rw [show sgn bn * bd = 0 - bd by rw [cf6 hn]; omega, show (bn.natAbs : Int) = 0 - bn by omega] at hm ⊢;refine ye2 func272 ntmps272 fun _ _ _=>?_
    repeat' (first | refine yz ?_ | refine yp bv3 hvb ?_ | refine yp b271 hm ?_ | exact zL)
   | false =>
    have hn := of_decide_eq_false hneg;rw [show sgn bn * bd = bd by rw [cf5 (by omega)]; omega, show (bn.natAbs : Int) = bn by omega] at hm ⊢;refine ye2 func272 ntmps272 fun _ _ _=>?_
    repeat' (first | refine yz ?_ | refine yp bv3 hvb ?_ | refine yp b271 hm ?_ | exact zL)
end Go.Proofs.YtaiiailapeffgaaGreatDoor
