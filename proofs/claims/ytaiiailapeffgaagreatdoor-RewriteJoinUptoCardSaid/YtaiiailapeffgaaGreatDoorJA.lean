/- The variables of an expression, by the specification: increasing lists; Small functions of the rewriting of plans, by the program: which variables a condition uses, a plan's columns, a filter of conditions; Conditions put onto a join, by the program; Conditions put onto a plan of units, joins, filters and unwindings, and Push, by the program. Conditions: each part's own, as it says. -/
import Derived.Test.YtaiiailapeffgaaGreatDoorLA
import Derived.Test.YtaiiailapeffgaaGreatDoorGC
import Derived.Test.YtaiiailapeffgaaGreatDoorPA
import Derived.Test.YtaiiailapeffgaaGreatDoorCA
import Derived.Test.YtaiiailapeffgaaGreatDoorUA
import Derived.Test.YtaiiailapeffgaaGreatDoorPB
set_option linter.unusedVariables false
set_option linter.unusedSimpArgs false
namespace Go.Proofs.YtaiiailapeffgaaGreatDoor
set_option maxRecDepth 4000
open Go Go.Abs Go.Val Go.RowKit Go.Proofs.Tryz
attribute [local irreducible] go SGo an2 Ev aw0 EvO EvS RGo RGw PGo
theorem fd8 {p : ByteArray → Bool} : ∀ {l : List ByteArray} {i : Nat}, i ≤ l.length → (∀ x ∈ l.take i, p x = true) → (∀ x, l[i]? = some x → p x = false) → l.takeWhile p = l.take i ∧ l.dropWhile p = l.drop i
 | [], i, h, _, _ => by
  obtain rfl : i = 0 := by simpa using h
  exact ⟨rfl, rfl⟩
 | a :: r, 0, _, _, h => by
  have ha := h a rfl;exact ⟨List.takeWhile_cons_of_neg (by rw [ha]; decide), List.dropWhile_cons_of_neg (by rw [ha]; decide)⟩
 | a :: r, i + 1, h, h1, h2 => by
  have ha := h1 a (by simp);have ih := fd8 (p := p) (l := r) (i := i) (by simpa using h) (fun x hx => h1 x (by simp [hx])) (fun x hx => h2 x (by simpa using hx));rw [List.takeWhile_cons_of_pos ha, List.dropWhile_cons_of_pos ha, ih.1, ih.2];exact ⟨rfl, rfl⟩
def fd9 (l : List ByteArray) (s : ByteArray) (i j : Nat) : List ByteArray := l.take i ++ s :: ((l.take j).drop i).filter fun x => !(x.toList == s.toList)
theorem fe0 {l : List ByteArray} {s : ByteArray} {i : Nat} (hinc : ei1 l) (hi : i ≤ l.length) (h1 : ∀ x ∈ l.take i, ltP x s = true) (h2 : ∀ x, l[i]? = some x → ltP x s = false) : fd9 l s i l.length = ei2 s l := by
 obtain ⟨a, b⟩ := fd8 (p := fun x => ltP x s) hi h1 h2;rw [ej1 s hinc, a, b];unfold fd9;rw [List.take_length]
theorem fe1 {l : List ByteArray} {s x : ByteArray} {i j : Nat} (h : l[j]? = some x) (hij : i ≤ j) : fd9 l s i (j + 1) = bif x.toList == s.toList then fd9 l s i j else fd9 l s i j ++ [x] := by
 have hlt := (fk2.1 h).1;unfold fd9;rw [fp0, h]
 have hd : (l.take j ++ (some x).toList).drop i = (l.take j).drop i ++ [x] := by
  rw [List.drop_append_of_le_length (by rw [fm1]; omega)];rfl
 rw [hd, List.filter_append]
 cases hc : x.toList == s.toList with
 | true => simp [hc]
 | false => simp [hc]
theorem fe2 {l : List ByteArray} {s : ByteArray} {i : Nat} : fd9 l s i i = l.take i ++ [s] := by
 unfold fd9;rw [fl9 (by rw [fm1]; omega)];rfl
theorem fe3 (l : List ByteArray) (s : ByteArray) (i j : Nat) : (fd9 l s i j).length ≤ 2 * l.length + 1 := by
 unfold fd9;have h1 := fs0 (fun x : ByteArray => !(x.toList == s.toList)) ((l.take j).drop i);have h2 : ((l.take j).drop i).length ≤ l.length := by rw [fp9, fm1]; omega
 have h3 : (l.take i).length ≤ l.length := by rw [fm1]; omega
 rw [fl8, fk5];omega
structure SPu1 (l : List ByteArray) (s : ByteArray) where
 i : Nat
 hi : i ≤ l.length
 ok : ∀ x ∈ l.take i, ltP x s = true
structure SPu2 (l : List ByteArray) (i : Nat) where
 j : Nat
 h1 : i ≤ j
 hj : j ≤ l.length
theorem fe4 (l : List ByteArray) (s : ByteArray) (hinc : ei1 l) (hmax : l.length ≤ 3000000) : Ev E 25 [.sl (l.map .str), .str s] (.d (.sl ((ei2 s l).map .str))) := by
 have hle : (l.map D.str).length = l.length := by simp
 refine ye2 func25 ntmps25 fun _ _ _=>?_
 repeat' (first | refine yz ?_ | refine yx ?_ | (refine yy ?_ ?_ <;> intro _) | exact zD | exact zL)
 refine ac7 (α := SPu1 l s) (fun p => ⟨[(0, .d (.sl (l.map .str))), (1, .d (.str s)), (5, bi6 0 ((l.take p.i).map .str)), (6, .d (.int p.i))], ay5 9 1 ((l.take p.i).map .str)⟩) (fun p => l.length - p.i) ⟨0, by omega, fun _ h => by cases h⟩ (zle 0) ?_;rintro ⟨i, hi, ok⟩;dsimp only;have hln : ((l.take i).map D.str).length ≤ 3000000 := by rw [fl4, fm1]; omega
 rcases fk1 i l.length with hlt | hge
 ·have g1 : decide ((i : Int) < ((l.map D.str).length : Int)) = true := by rw [hle]; simpa using hlt
  have hx0 := fk0 hlt;generalize l[i] = x at hx0;have hx := dk2 (f := D.str) hx0
  cases hc : ltP x s with
  | true =>
   have hc2 : Op.bytesLess x.toList s.toList = true := hc;have htk : (l.take (i + 1)).map D.str = (l.take i).map D.str ++ [.str x] := by rw [fp0, hx0, fo1]; rfl
   have hok : ∀ y ∈ l.take (i + 1), ltP y s = true := by
    rw [fp0, hx0];intro y hy;rcases fm8.1 hy with h | h
    ·exact ok y h
    ·obtain rfl : y = x := by simpa using h
     exact hc
   generalize (l.take i).map D.str = K at *
   match K, hln with
   | [], hln =>
    dsimp only [bi6, ay5, List.append, HAppend.hAppend, Append.append]
    repeat' (first | refine yz ?_ | refine yi (.str x) hx ?_ | (refine qS rfl ⟨by simp, fun d hd => by (obtain rfl := fl7.1 hd; rfl), by (show _ * 16 ≤ 140737488355328; simp <;> omega), by (show _ ≤ 9223372036854775807; simp <;> omega)⟩ ?_) | refine yx ?_ | (refine yy ?_ ?_ <;> intro _) | exact zD | exact zL)
    refine ac1 ?_;refine ⟨⟨i + 1, by omega, hok⟩, by dsimp only; omega, ?_⟩;dsimp only;rw [htk];exact (bj9 [0])
   | d :: r, hln =>
    simp only [fk5] at hln;dsimp only [bi6, ay5, List.append, HAppend.hAppend, Append.append]
    repeat' (first | refine yz ?_ | refine yi (.str x) hx ?_ | (refine qS rfl ⟨by simp, fun d hd => by (obtain rfl := fl7.1 hd; rfl), by (show _ * 16 ≤ 140737488355328; simp <;> omega), by (show _ ≤ 9223372036854775807; simp <;> omega)⟩ ?_) | refine yx ?_ | (refine yy ?_ ?_ <;> intro _) | exact zD | exact zL)
    refine ac1 ?_;refine ⟨⟨i + 1, by omega, hok⟩, by dsimp only; omega, ?_⟩;dsimp only;rw [htk];exact (bj9 [1])
  | false =>
   have hc2 : Op.bytesLess x.toList s.toList = false := hc;have hex : ∀ y, l[i]? = some y → ltP y s = false := fun y h => by rw [hx0] at h; cases h; exact hc
   generalize hK : (l.take i).map D.str = K at *
   match K, hK, hln with
   | [], hK, hln =>
    dsimp only [bi6, ay5, List.append, HAppend.hAppend, Append.append]
    repeat' (first | refine yz ?_ | refine yi (.str x) hx ?_ | (refine qS rfl ⟨by simp, fun d hd => by (obtain rfl := fl7.1 hd; rfl), by (show _ * 16 ≤ 140737488355328; simp <;> omega), by (show _ ≤ 9223372036854775807; simp <;> omega)⟩ ?_) | refine yx ?_ | (refine yy ?_ ?_ <;> intro _) | exact zD | exact zL)
    refine ac7 (α := SPu2 l i) (fun p => ⟨[(0, .d (.sl (l.map .str))), (1, .d (.str s)), (5, .own 0), (6, .d (.int p.j))], [.row 9 1 ((fd9 l s i p.j).map .str)]⟩) (fun p => l.length - p.j) ⟨i, by omega, hi⟩ (by dsimp only; rw [fe2, fo1]; rw [hK]; exact (bj9 [0])) ?_;rintro ⟨j, hij, hj⟩;dsimp only;have hrl := fe3 l s i j;rcases fk1 j l.length with hlt2 | hge2
    ·have g2 : decide ((j : Int) < ((l.map D.str).length : Int)) = true := by rw [hle]; simpa using hlt2
     have hy0 := fk0 hlt2;generalize l[j] = y at hy0;have hy := dk2 (f := D.str) hy0;have hat := fe1 (s := s) hy0 hij
     cases hq : y.toList == s.toList with
     | true =>
      rw [hq, cond_true] at hat;have hq2 : (!(y.toList == s.toList)) = false := by rw [hq]; rfl
      repeat' (first | refine yz ?_ | refine yi (.str y) hy ?_ | refine yx ?_ | (refine yy ?_ ?_ <;> intro _) | exact zD | exact zL)
      refine ac1 ?_;refine ⟨⟨j + 1, by omega, by omega⟩, by dsimp only; omega, ?_⟩;dsimp only;rw [hat];exact (zle 1)
     | false =>
      rw [hq, cond_false] at hat;have hq2 : (!(y.toList == s.toList)) = true := by rw [hq]; rfl
      have hrm : ((fd9 l s i j).map D.str).length ≤ 2 * l.length + 1 := by rw [fl4]; exact hrl
      repeat' (first | refine yz ?_ | refine yi (.str y) hy ?_ | (refine qS rfl ⟨by simp, fun d hd => by (obtain rfl := fl7.1 hd; rfl), by (show _ * 16 ≤ 140737488355328; simp <;> omega), by (show _ ≤ 9223372036854775807; simp <;> omega)⟩ ?_) | refine yx ?_ | (refine yy ?_ ?_ <;> intro _) | exact zD | exact zL)
      refine ac1 ?_;refine ⟨⟨j + 1, by omega, by omega⟩, by dsimp only; omega, ?_⟩;dsimp only;rw [hat, fo1];exact (bj9 [1])
    ·have g2 : decide ((j : Int) < ((l.map D.str).length : Int)) = false := by rw [hle]; simp; omega
     obtain rfl : j = l.length := by omega
     rw [fe0 hinc hi ok hex];refine au6 0 rfl ?_;dsimp only [ar8, ar7, as0, ar9, List.map, List.set]
     repeat' (first | refine yz ?_ | refine yx ?_ | (refine yy ?_ ?_ <;> intro _) | exact zD | exact zL)
   | d :: r, hK, hln =>
    simp only [fk5] at hln;dsimp only [bi6, ay5, List.append, HAppend.hAppend, Append.append]
    repeat' (first | refine yz ?_ | refine yi (.str x) hx ?_ | (refine qS rfl ⟨by simp, fun d hd => by (obtain rfl := fl7.1 hd; rfl), by (show _ * 16 ≤ 140737488355328; simp <;> omega), by (show _ ≤ 9223372036854775807; simp <;> omega)⟩ ?_) | refine yx ?_ | (refine yy ?_ ?_ <;> intro _) | exact zD | exact zL)
    refine ac7 (α := SPu2 l i) (fun p => ⟨[(0, .d (.sl (l.map .str))), (1, .d (.str s)), (5, .own 0), (6, .d (.int p.j))], [.row 9 1 ((fd9 l s i p.j).map .str)]⟩) (fun p => l.length - p.j) ⟨i, by omega, hi⟩ (by dsimp only; rw [fe2, fo1]; rw [hK]; exact (bj9 [1])) ?_;rintro ⟨j, hij, hj⟩;dsimp only;have hrl := fe3 l s i j;rcases fk1 j l.length with hlt2 | hge2
    ·have g2 : decide ((j : Int) < ((l.map D.str).length : Int)) = true := by rw [hle]; simpa using hlt2
     have hy0 := fk0 hlt2;generalize l[j] = y at hy0;have hy := dk2 (f := D.str) hy0;have hat := fe1 (s := s) hy0 hij
     cases hq : y.toList == s.toList with
     | true =>
      rw [hq, cond_true] at hat;have hq2 : (!(y.toList == s.toList)) = false := by rw [hq]; rfl
      repeat' (first | refine yz ?_ | refine yi (.str y) hy ?_ | refine yx ?_ | (refine yy ?_ ?_ <;> intro _) | exact zD | exact zL)
      refine ac1 ?_;refine ⟨⟨j + 1, by omega, by omega⟩, by dsimp only; omega, ?_⟩;dsimp only;rw [hat];exact (zle 1)
     | false =>
      rw [hq, cond_false] at hat;have hq2 : (!(y.toList == s.toList)) = true := by rw [hq]; rfl
      have hrm : ((fd9 l s i j).map D.str).length ≤ 2 * l.length + 1 := by rw [fl4]; exact hrl
      repeat' (first | refine yz ?_ | refine yi (.str y) hy ?_ | (refine qS rfl ⟨by simp, fun d hd => by (obtain rfl := fl7.1 hd; rfl), by (show _ * 16 ≤ 140737488355328; simp <;> omega), by (show _ ≤ 9223372036854775807; simp <;> omega)⟩ ?_) | refine yx ?_ | (refine yy ?_ ?_ <;> intro _) | exact zD | exact zL)
      refine ac1 ?_;refine ⟨⟨j + 1, by omega, by omega⟩, by dsimp only; omega, ?_⟩;dsimp only;rw [hat, fo1];exact (bj9 [1])
    ·have g2 : decide ((j : Int) < ((l.map D.str).length : Int)) = false := by rw [hle]; simp; omega
     obtain rfl : j = l.length := by omega
     rw [fe0 hinc hi ok hex];refine au6 0 rfl ?_;dsimp only [ar8, ar7, as0, ar9, List.map, List.set]
     repeat' (first | refine yz ?_ | refine yx ?_ | (refine yy ?_ ?_ <;> intro _) | exact zD | exact zL)
 ·have g1 : decide ((i : Int) < ((l.map D.str).length : Int)) = false := by rw [hle]; simp; omega
  have hex : ∀ y, l[i]? = some y → ltP y s = false := fun y h => by rw [fn5 hge] at h; cases h
  generalize hK : (l.take i).map D.str = K at *
  match K, hK, hln with
  | [], hK, hln =>
   dsimp only [bi6, ay5, List.append, HAppend.hAppend, Append.append]
   repeat' (first | refine yz ?_ | (refine qS rfl ⟨by simp, fun d hd => by (obtain rfl := fl7.1 hd; rfl), by (show _ * 16 ≤ 140737488355328; simp <;> omega), by (show _ ≤ 9223372036854775807; simp <;> omega)⟩ ?_) | refine yx ?_ | (refine yy ?_ ?_ <;> intro _) | exact zD | exact zL)
   refine ac7 (α := SPu2 l i) (fun p => ⟨[(0, .d (.sl (l.map .str))), (1, .d (.str s)), (5, .own 0), (6, .d (.int p.j))], [.row 9 1 ((fd9 l s i p.j).map .str)]⟩) (fun p => l.length - p.j) ⟨i, by omega, hi⟩ (by dsimp only; rw [fe2, fo1]; rw [hK]; exact (bj9 [0])) ?_;rintro ⟨j, hij, hj⟩;dsimp only;have hrl := fe3 l s i j;rcases fk1 j l.length with hlt2 | hge2
   ·have g2 : decide ((j : Int) < ((l.map D.str).length : Int)) = true := by rw [hle]; simpa using hlt2
    have hy0 := fk0 hlt2;generalize l[j] = y at hy0;have hy := dk2 (f := D.str) hy0;have hat := fe1 (s := s) hy0 hij
    cases hq : y.toList == s.toList with
    | true =>
     rw [hq, cond_true] at hat;have hq2 : (!(y.toList == s.toList)) = false := by rw [hq]; rfl
     repeat' (first | refine yz ?_ | refine yi (.str y) hy ?_ | refine yx ?_ | (refine yy ?_ ?_ <;> intro _) | exact zD | exact zL)
     refine ac1 ?_;refine ⟨⟨j + 1, by omega, by omega⟩, by dsimp only; omega, ?_⟩;dsimp only;rw [hat];exact (zle 1)
    | false =>
     rw [hq, cond_false] at hat;have hq2 : (!(y.toList == s.toList)) = true := by rw [hq]; rfl
     have hrm : ((fd9 l s i j).map D.str).length ≤ 2 * l.length + 1 := by rw [fl4]; exact hrl
     repeat' (first | refine yz ?_ | refine yi (.str y) hy ?_ | (refine qS rfl ⟨by simp, fun d hd => by (obtain rfl := fl7.1 hd; rfl), by (show _ * 16 ≤ 140737488355328; simp <;> omega), by (show _ ≤ 9223372036854775807; simp <;> omega)⟩ ?_) | refine yx ?_ | (refine yy ?_ ?_ <;> intro _) | exact zD | exact zL)
     refine ac1 ?_;refine ⟨⟨j + 1, by omega, by omega⟩, by dsimp only; omega, ?_⟩;dsimp only;rw [hat, fo1];exact (bj9 [1])
   ·have g2 : decide ((j : Int) < ((l.map D.str).length : Int)) = false := by rw [hle]; simp; omega
    obtain rfl : j = l.length := by omega
    rw [fe0 hinc hi ok hex];refine au6 0 rfl ?_;dsimp only [ar8, ar7, as0, ar9, List.map, List.set]
    repeat' (first | refine yz ?_ | refine yx ?_ | (refine yy ?_ ?_ <;> intro _) | exact zD | exact zL)
  | d :: r, hK, hln =>
   simp only [fk5] at hln;dsimp only [bi6, ay5, List.append, HAppend.hAppend, Append.append]
   repeat' (first | refine yz ?_ | (refine qS rfl ⟨by simp, fun d hd => by (obtain rfl := fl7.1 hd; rfl), by (show _ * 16 ≤ 140737488355328; simp <;> omega), by (show _ ≤ 9223372036854775807; simp <;> omega)⟩ ?_) | refine yx ?_ | (refine yy ?_ ?_ <;> intro _) | exact zD | exact zL)
   refine ac7 (α := SPu2 l i) (fun p => ⟨[(0, .d (.sl (l.map .str))), (1, .d (.str s)), (5, .own 0), (6, .d (.int p.j))], [.row 9 1 ((fd9 l s i p.j).map .str)]⟩) (fun p => l.length - p.j) ⟨i, by omega, hi⟩ (by dsimp only; rw [fe2, fo1]; rw [hK]; exact (bj9 [1])) ?_;rintro ⟨j, hij, hj⟩;dsimp only;have hrl := fe3 l s i j;rcases fk1 j l.length with hlt2 | hge2
   ·have g2 : decide ((j : Int) < ((l.map D.str).length : Int)) = true := by rw [hle]; simpa using hlt2
    have hy0 := fk0 hlt2;generalize l[j] = y at hy0;have hy := dk2 (f := D.str) hy0;have hat := fe1 (s := s) hy0 hij
    cases hq : y.toList == s.toList with
    | true =>
     rw [hq, cond_true] at hat;have hq2 : (!(y.toList == s.toList)) = false := by rw [hq]; rfl
     repeat' (first | refine yz ?_ | refine yi (.str y) hy ?_ | refine yx ?_ | (refine yy ?_ ?_ <;> intro _) | exact zD | exact zL)
     refine ac1 ?_;refine ⟨⟨j + 1, by omega, by omega⟩, by dsimp only; omega, ?_⟩;dsimp only;rw [hat];exact (zle 1)
    | false =>
     rw [hq, cond_false] at hat;have hq2 : (!(y.toList == s.toList)) = true := by rw [hq]; rfl
     have hrm : ((fd9 l s i j).map D.str).length ≤ 2 * l.length + 1 := by rw [fl4]; exact hrl
     repeat' (first | refine yz ?_ | refine yi (.str y) hy ?_ | (refine qS rfl ⟨by simp, fun d hd => by (obtain rfl := fl7.1 hd; rfl), by (show _ * 16 ≤ 140737488355328; simp <;> omega), by (show _ ≤ 9223372036854775807; simp <;> omega)⟩ ?_) | refine yx ?_ | (refine yy ?_ ?_ <;> intro _) | exact zD | exact zL)
     refine ac1 ?_;refine ⟨⟨j + 1, by omega, by omega⟩, by dsimp only; omega, ?_⟩;dsimp only;rw [hat, fo1];exact (bj9 [1])
   ·have g2 : decide ((j : Int) < ((l.map D.str).length : Int)) = false := by rw [hle]; simp; omega
    obtain rfl : j = l.length := by omega
    rw [fe0 hinc hi ok hex];refine au6 0 rfl ?_;dsimp only [ar8, ar7, as0, ar9, List.map, List.set]
    repeat' (first | refine yz ?_ | refine yx ?_ | (refine yy ?_ ?_ <;> intro _) | exact zD | exact zL)
theorem fe5 : ∀ l : List Ex, l.length ≤ ndL l
 | [] => fk9 _
 | a :: r => by
  have h1 : nd a = ndL a.ks + 1 := dc9 a;have h2 := fe5 r;simp only [fk5, ndL]; omega
abbrev oXJ (d : D) : aa5 := .var 27 (.w (.d d))
structure SUs1 (n : Nat) where
 i : Nat
 hi : i ≤ n
theorem fe6 {acc l : List ByteArray} {i : Nat} {x : ByteArray} (h : l[i]? = some x) : ei6 acc (l.take (i + 1)) = ei2 x (ei6 acc (l.take i)) := by
 rw [fp0, h, ej0];rfl
def ruN (op : Int) (nm : ByteArray) (ks : List Ex) (i : Nat) : List ByteArray := ei6 [] ((bif op == 2 then [nm] else []) ++ ej2 (ks.take i))
theorem fe7 (op : Int) (nm : ByteArray) (ks : List Ex) (i : Nat) : ei1 (ruN op nm ks i) := ei8 List.Pairwise.nil
theorem fe8 {op : Int} {nm : ByteArray} {ks : List Ex} {i : Nat} {x : Ex} (h : ks[i]? = some x) : ruN op nm ks (i + 1) = ei6 (ruN op nm ks i) (ej3 x) := by
 have e : ej2 (ks.take (i + 1)) = ej2 (ks.take i) ++ usX x := by
  rw [ej6, ej6, fp0, h, List.flatMap_append];simp
 unfold ruN;rw [e, ← fn9, ej0];exact (ei9 (ei8 List.Pairwise.nil)).symm
theorem fe9 : ∀ l : List Ex, (ej2 l).length ≤ ndL l
 | [] => fk9 _
 | x :: r => by
  have h1 := ej7 x;have h2 := fe9 r;simp only [ej2, fl8, ndL]; omega
theorem ff0 : ∀ (l : List Ex) (i : Nat), ndL (l.take i) ≤ ndL l
 | [], i => by simp
 | a :: r, 0 => by simp [ndL]
 | a :: r, i + 1 => by
  have := ff0 r i;simp only [List.take_succ_cons, ndL]; omega
theorem ff1 (op : Int) (nm : ByteArray) (ks : List Ex) (i : Nat) : (ruN op nm ks i).length ≤ ndL ks + 1 := by
 have h1 := ej9 ((bif op == 2 then [nm] else []) ++ ej2 (ks.take i)) [];have h2 := fe9 (ks.take i);have h3 := ff0 ks i;unfold ruN;rw [fl8] at h1;simp only [fm6] at h1
 cases hc : op == 2 with
 | true => rw [hc] at h1; simp only [cond_true, fk5, fm6] at h1; simp only [cond_true]; omega
 | false => rw [hc] at h1; simp only [cond_false, fm6] at h1; simp only [cond_false]; omega
theorem ff2 (e : Ex) : nd e ≤ 1000000 → Ev E 13 [cy3 e] (.d (.sl ((ej3 e).map .str))) := by
 refine cz2 (P := fun e => nd e ≤ 1000000 → Ev E 13 [cy3 e] (.d (.sl ((ej3 e).map .str)))) (fun op v nm ds ks ih hn => ?_) e;rw [dc9] at hn;have hn' : ndL ks + 1 ≤ 1000000 := hn;have hle : (cy2 ks).length = ks.length := cy9 ks;have hkl := fe5 ks;have hr : ej3 (.mk op v nm ds ks) = ruN op nm ks ks.length := by unfold ej3 ruN; rw [usX, List.take_length]
 rw [hr];obtain ⟨vk, vn, vd, vS, vl⟩ := v;show Ev E 13 [.agg [.int op, .int vk, .int vn, .int vd, .str vS, .sl (bp7 vl), .str nm, .bool ds, .sl (cy2 ks)]] _;generalize bp7 vl = VL;have h0 := fe4 [] nm List.Pairwise.nil (by decide);have e0 : ruN op nm ks 0 = bif op == 2 then ei2 nm [] else [] := by unfold ruN; cases op == 2 <;> rfl
 cases c1 : op == 2 with
 | true =>
  rw [c1, cond_true] at e0;refine ye1 func13 ntmps13 fun _ _ _=>?_
  repeat' (first | refine yz ?_ | refine yp b25 h0 ?_ | refine yx ?_ | (refine yy ?_ ?_ <;> intro _) | exact zD | exact zL)
  refine ac7 (α := SUs1 ks.length) (fun p => ⟨[(1, .ptr 0 0), (3, .d (.sl ((ruN op nm ks p.i).map .str))), (4, .d (.int p.i))], [oXJ (.agg [.int op, .int vk, .int vn, .int vd, .str vS, .sl VL, .str nm, .bool ds, .sl (cy2 ks)])]⟩) (fun p => ks.length - p.i) ⟨0, by omega⟩ (by dsimp only; rw [e0]; exact (zle 1)) ?_;rintro ⟨i, hi⟩;dsimp only;rcases fk1 i ks.length with hlt | hge
  ·have g1 : decide ((i : Int) < ((cy2 ks).length : Int)) = true := by rw [hle]; simpa using hlt
   have hx0 := fk0 hlt;generalize ks[i] = x at hx0;have hx : (cy2 ks)[(i : Int).toNat]? = some (cy3 x) := cy7 (by rw [fl0]; exact hx0);have hm := fk4 hx0;have hcx := ih x hm (by have := dd0 hm; omega);have hul := ek0 x;have hnx := dd0 hm;have hat := fe8 (op := op) (nm := nm) hx0;have hrl := ff1 op nm ks i;have hri := fe7 op nm ks i;generalize ruN op nm ks i = W at *;generalize ej3 x = U at *;have hlu : (U.map D.str).length = U.length := by simp
   repeat' (first | refine yz ?_ | refine yi (cy3 x) hx ?_ | refine yp b13 hcx ?_ | refine yx ?_ | (refine yy ?_ ?_ <;> intro _) | exact zD | exact zL)
   refine ac7 (α := SUs1 U.length) (fun p => ⟨[(1, .ptr 0 0), (3, .d (.sl ((ei6 W (U.take p.i)).map .str))), (4, .d (.int i)), (5, .d (.sl (U.map .str))), (6, .d (.int p.i))], [oXJ (.agg [.int op, .int vk, .int vn, .int vd, .str vS, .sl VL, .str nm, .bool ds, .sl (cy2 ks)])]⟩) (fun p => U.length - p.i) ⟨0, by omega⟩ (zle 1) ?_;rintro ⟨k, hk⟩;dsimp only;rcases fk1 k U.length with hlt2 | hge2
   ·have g2 : decide ((k : Int) < ((U.map D.str).length : Int)) = true := by rw [hlu]; simpa using hlt2
    have hy0 := fk0 hlt2;generalize U[k] = y at hy0;have hy := dk2 (f := D.str) hy0;have hil := ej9 (U.take k) W;have htl : (U.take k).length ≤ U.length := by rw [fm1]; omega
    have hcp := fe4 (ei6 W (U.take k)) y (ei8 hri) (by omega);rw [← fe6 hy0] at hcp
    repeat' (first | refine yz ?_ | refine yi (.str y) hy ?_ | refine yp b25 hcp ?_ | refine yx ?_ | (refine yy ?_ ?_ <;> intro _) | exact zD | exact zL)
    refine ac1 ?_;exact ⟨⟨k + 1, by omega⟩, by dsimp only; omega, (zle 1)⟩
   ·have g2 : decide ((k : Int) < ((U.map D.str).length : Int)) = false := by rw [hlu]; simp; omega
    rw [fn4 hge2]
    repeat' (first | refine yz ?_ | refine yx ?_ | (refine yy ?_ ?_ <;> intro _) | exact zD | exact zL)
    refine ac1 ?_;refine ⟨⟨i + 1, by omega⟩, by dsimp only; omega, ?_⟩;dsimp only;rw [hat];exact (zle 1)
  ·have g1 : decide ((i : Int) < ((cy2 ks).length : Int)) = false := by rw [hle]; simp; omega
   obtain rfl : i = ks.length := by omega
   repeat' (first | refine yz ?_ | refine yx ?_ | (refine yy ?_ ?_ <;> intro _) | exact zD | exact zL)
 | false =>
  rw [c1, cond_false] at e0;refine ye1 func13 ntmps13 fun _ _ _=>?_
  repeat' (first | refine yz ?_ | refine yx ?_ | (refine yy ?_ ?_ <;> intro _) | exact zD | exact zL)
  refine bk6 3 rfl ?_;refine ac7 (α := SUs1 ks.length) (fun p => ⟨[(1, .ptr 0 0), (3, .d (.sl ((ruN op nm ks p.i).map .str))), (4, .d (.int p.i))], [oXJ (.agg [.int op, .int vk, .int vn, .int vd, .str vS, .sl VL, .str nm, .bool ds, .sl (cy2 ks)])]⟩) (fun p => ks.length - p.i) ⟨0, by omega⟩ (by dsimp only; rw [e0]; exact (zle 1)) ?_;rintro ⟨i, hi⟩;dsimp only;rcases fk1 i ks.length with hlt | hge
  ·have g1 : decide ((i : Int) < ((cy2 ks).length : Int)) = true := by rw [hle]; simpa using hlt
   have hx0 := fk0 hlt;generalize ks[i] = x at hx0;have hx : (cy2 ks)[(i : Int).toNat]? = some (cy3 x) := cy7 (by rw [fl0]; exact hx0);have hm := fk4 hx0;have hcx := ih x hm (by have := dd0 hm; omega);have hul := ek0 x;have hnx := dd0 hm;have hat := fe8 (op := op) (nm := nm) hx0;have hrl := ff1 op nm ks i;have hri := fe7 op nm ks i;generalize ruN op nm ks i = W at *;generalize ej3 x = U at *;have hlu : (U.map D.str).length = U.length := by simp
   repeat' (first | refine yz ?_ | refine yi (cy3 x) hx ?_ | refine yp b13 hcx ?_ | refine yx ?_ | (refine yy ?_ ?_ <;> intro _) | exact zD | exact zL)
   refine ac7 (α := SUs1 U.length) (fun p => ⟨[(1, .ptr 0 0), (3, .d (.sl ((ei6 W (U.take p.i)).map .str))), (4, .d (.int i)), (5, .d (.sl (U.map .str))), (6, .d (.int p.i))], [oXJ (.agg [.int op, .int vk, .int vn, .int vd, .str vS, .sl VL, .str nm, .bool ds, .sl (cy2 ks)])]⟩) (fun p => U.length - p.i) ⟨0, by omega⟩ (zle 1) ?_;rintro ⟨k, hk⟩;dsimp only;rcases fk1 k U.length with hlt2 | hge2
   ·have g2 : decide ((k : Int) < ((U.map D.str).length : Int)) = true := by rw [hlu]; simpa using hlt2
    have hy0 := fk0 hlt2;generalize U[k] = y at hy0;have hy := dk2 (f := D.str) hy0;have hil := ej9 (U.take k) W;have htl : (U.take k).length ≤ U.length := by rw [fm1]; omega
    have hcp := fe4 (ei6 W (U.take k)) y (ei8 hri) (by omega);rw [← fe6 hy0] at hcp
    repeat' (first | refine yz ?_ | refine yi (.str y) hy ?_ | refine yp b25 hcp ?_ | refine yx ?_ | (refine yy ?_ ?_ <;> intro _) | exact zD | exact zL)
    refine ac1 ?_;exact ⟨⟨k + 1, by omega⟩, by dsimp only; omega, (zle 1)⟩
   ·have g2 : decide ((k : Int) < ((U.map D.str).length : Int)) = false := by rw [hlu]; simp; omega
    rw [fn4 hge2]
    repeat' (first | refine yz ?_ | refine yx ?_ | (refine yy ?_ ?_ <;> intro _) | exact zD | exact zL)
    refine ac1 ?_;refine ⟨⟨i + 1, by omega⟩, by dsimp only; omega, ?_⟩;dsimp only;rw [hat];exact (zle 1)
  ·have g1 : decide ((i : Int) < ((cy2 ks).length : Int)) = false := by rw [hle]; simp; omega
   obtain rfl : i = ks.length := by omega
   repeat' (first | refine yz ?_ | refine yx ?_ | (refine yy ?_ ?_ <;> intro _) | exact zD | exact zL)
theorem within1R_evS (cols : List ByteArray) (s : ByteArray) : EvS E 128 [.d (.str s), .ptr 0 0] [eg8 cols] (.d (.bool (!cv9 cols s))) [eg8 cols] := by
 have h := cw6 cols s;refine yn func128 ntmps128 fun _ _ _ _=>?_
 repeat' (first | refine yz ?_ | refine yp bt2 h ?_ | refine bd2 [0] rfl rfl rfl rfl rfl ?_ | refine yx ?_ | (refine yy ?_ ?_ <;> intro _) | exact zD | exact zL)
 all_goals rfl
theorem ff3 (cols l : List ByteArray) (hmax : l.length ≤ 9223372036854775807) : EvS E 189 [.d (.sl (l.map D.str)), .clo 128 [.ptr 0 0]] [eg8 cols] (.d (.int (dk4 (l.findIdx? fun s => !cv9 cols s)))) [eg8 cols] := by
 have hle : (l.map D.str).length = l.length := by simp
 refine yn func189 ntmps189 fun _ _ _ _=>?_
 repeat' (first | refine yz ?_ | refine yx ?_ | (refine yy ?_ ?_ <;> intro _) | exact zD | exact zL)
 refine ac7 (α := SFc l fun s => !cv9 cols s) (fun p => ⟨[(0, .d (.sl (l.map D.str))), (1, .clo 128 [.ptr 0 0]), (7, .d (.int (l.map D.str).length)), (8, .d (.int p.i))], [eg8 cols]⟩) (fun p => l.length - p.i) ⟨0, by omega, fun j hj => absurd hj (by omega)⟩ (zle 1) ?_;rintro ⟨i, hi, ok⟩;dsimp only;rcases fk1 i l.length with hlt | hge
 ·have g1 : decide ((i : Int) < ((l.map D.str).length : Int)) = true := by rw [hle]; simpa using hlt
  have hx0 := fk0 hlt;generalize l[i] = y at hx0;have hx : (l.map D.str)[((i : Nat) : Int).toNat]? = some (.str y) := dk2 (f := D.str) hx0;have h1 := within1R_evS cols y
  cases hc : cv9 cols y with
  | false =>
   rw [hc] at h1;rw [dk5 hx0 (show (!cv9 cols y) = true by rw [hc]; rfl) ok]
   repeat' (first | refine yz ?_ | refine yi (.str y) hx ?_ | refine bc9 [0] rfl rfl rfl rfl (FnX.clo _ _) b128 (h1) rfl rfl rfl rfl rfl ?_ | refine bd2 [0] rfl rfl rfl rfl rfl ?_ | refine yx ?_ | (refine yy ?_ ?_ <;> intro _) | exact zD | exact zL)
   all_goals rfl
  | true =>
   rw [hc] at h1
   repeat' (first | refine yz ?_ | refine yi (.str y) hx ?_ | refine bc9 [0] rfl rfl rfl rfl (FnX.clo _ _) b128 (h1) rfl rfl rfl rfl rfl ?_ | refine yx ?_ | (refine yy ?_ ?_ <;> intro _) | exact zD | exact zL)
   refine ac1 ?_;exact ⟨⟨i + 1, by omega, SFc.next hx0 (show (!cv9 cols y) = false by rw [hc]; rfl) ok⟩, by dsimp only; omega, (zle 1)⟩
 ·have g1 : decide ((i : Int) < ((l.map D.str).length : Int)) = false := by rw [hle]; simp; omega
  rw [dk6 fun j hj => ok j (by omega)]
  repeat' (first | refine yz ?_ | refine bd2 [0] rfl rfl rfl rfl rfl ?_ | refine yx ?_ | (refine yy ?_ ?_ <;> intro _) | exact zD | exact zL)
  all_goals rfl
theorem ff4 (cols l : List ByteArray) (hmax : l.length ≤ 9223372036854775807) : EvS E 126 [.d (.sl (l.map D.str)), .clo 128 [.ptr 0 0]] [eg8 cols] (.d (.bool (l.any fun s => !cv9 cols s))) [eg8 cols] := by
 have h := ff3 cols l hmax;rw [← dk7];refine yn func126 ntmps126 fun _ _ _ _=>?_
 repeat' (first | refine yz ?_ | refine yc [0] b189 (h) ?_ | refine bd2 [0] rfl rfl rfl rfl rfl ?_ | refine yx ?_ | (refine yy ?_ ?_ <;> intro _) | exact zD | exact zL)
 all_goals rfl
theorem withinR_ev (e : Ex) (cols : List ByteArray) (hn : nd e ≤ 1000000) : Ev E 76 [cy3 e, .sl (cols.map .str)] (.d (.bool (em6 e cols))) := by
 have hu := em5 e hn;have hul := ek0 e;have h := ff4 cols (ej3 e) (by omega);unfold em6;rw [← en1];refine ye2 func76 ntmps76 fun _ _ _=>?_
 repeat' (first | refine yz ?_ | refine yp b127 hu ?_ | refine bc7 rfl rfl rfl rfl rfl ?_ | refine yc [1] b126 (h) ?_ | refine yx ?_ | (refine yy ?_ ?_ <;> intro _) | exact zD | exact zL)
theorem ff5 (b : PB) (K : List D) (c : List ByteArray) (e : Int) (h : Ev E 21 [et3 b K] (.tup [.sl (c.map .str), .int e])) : Ev E 75 [et3 b K] (.d (.sl (c.map .str))) := by
 refine ye1 func75 ntmps75 fun _ _ _=>?_
 repeat' (first | refine yz ?_ | refine yp b21 h ?_ | refine yx ?_ | (refine yy ?_ ?_ <;> intro _) | exact zD | exact zL)
set_option maxHeartbeats 4000000 in
theorem ff6 (p : Pl) (cs : List Ex) (hn : ∀ x ∈ cs, nd x ≤ 2000000) : Ev E 37 [et4 p, .sl (cy2 cs)] (.d (et4 (ev9 p cs))) := by
 have h := ef9 cs hn
 cases cs with
 | nil =>
  obtain ⟨b, ks⟩ := p;rw [ev9, et7];have g0 : decide (((cy2 []).length : Int) = 0) = true := rfl;refine ye2 func37 ntmps37 fun _ _ _=>?_
  repeat' (first | refine yz ?_ | refine yx ?_ | (refine yy ?_ ?_ <;> intro _) | exact zD | exact zL)
 | cons x r =>
  show Ev E 37 [et4 p, .sl (cy3 x :: cy2 r)] (.d (et4 (.mk ⟨6, ⟨[], []⟩, zCL, ec6 (x :: r), ⟨#[]⟩, [], [], 0, 0⟩ [p])));have h : Ev E 17 [.sl (cy3 x :: cy2 r)] (.d (cy3 (ec6 (x :: r)))) := h;rw [et7, fl5, fm9];generalize ec6 (x :: r) = y at *;obtain ⟨op, ⟨vk, vn, vd, vS, vl⟩, nm, ds, ks⟩ := y;obtain ⟨b, kp⟩ := p;rw [et7];have hl : ((((cy3 x :: cy2 r).length : Nat) : Int) == 0) = false := by simp; omega
  generalize kp.map et4 = KP at *;generalize cy3 x :: cy2 r = CS at *;refine ye2 func37 ntmps37 fun _ _ _=>?_
  repeat' (first | refine yq 3 [5] ?_ | refine yf 3 0 5 ?_ | refine yw ?_ | refine rgN ?_ | refine yv ?_ | refine yz ?_ | refine yp b17 h ?_ | refine yx ?_ | (refine yy ?_ ?_ <;> intro _) | exact zD | exact zL)
def fJ (k : Nat) : List D → X
 | [] => .nilS
 | _ :: _ => .own k
def gJ : List D → aa5
 | [] => .dead
 | x :: r => .row 27 9 (x :: r)
abbrev oPJ (b : PB) (K : List D) : aa5 := .var 40 (.w (.d (et3 b K)))
abbrev zPJ : aa5 := .var 40 (.cs (List.map ab3 te40.zero.cells.toList))
def ff7 (cs : List Ex) (f : Ex → Bool) (i : Nat) : List D := cy2 ((cs.take i).filter f)
theorem ff8 {cs : List Ex} {f : Ex → Bool} {i : Nat} {x : Ex} (h : cs[i]? = some x) : ff7 cs f (i + 1) = bif f x then ff7 cs f i ++ [cy3 x] else ff7 cs f i := by
 unfold ff7;rw [fp0, h, List.filter_append]
 cases hc : f x with
 | true =>
  have e : (some x).toList.filter f = [x] := by simp [hc]
  rw [e, ef5];rfl
 | false =>
  have e : (some x).toList.filter f = [] := by simp [hc]
  rw [e, fq1];rfl
theorem ff9 (cs : List Ex) (f : Ex → Bool) (i : Nat) : (ff7 cs f i).length ≤ cs.length := by
 unfold ff7;rw [cy9];have h1 := fs0 f (cs.take i);have h2 : (cs.take i).length ≤ cs.length := by rw [fm1]; omega
 omega
theorem fg0 (x : Ex) : ∀ d ∈ [cy3 x], d.cells.length = 9 := fun d hd => ee9 [x] d hd
structure SJn (n : Nat) where
 i : Nat
 hi : i ≤ n
set_option maxHeartbeats 8000000 in
theorem fg1 (b : PB) (bk bl : PB) (kk kl : List D) (cs : List Ex) (c0 c1 : List ByteArray) (P1 P2 : Pl) (ho : b.op = 3) (hcs : ∀ x ∈ cs, nd x ≤ 1000000) (hl : cs.length ≤ 1000000)
    (hc1 : Ev E 75 [et3 bk kk] (.d (.sl (c0.map .str)))) (hc2 : Ev E 75 [et3 bl kl] (.d (.sl (c1.map .str))))
    (hp1 : Ev E 22 [et3 bk kk, .sl (cy2 (cs.filter fun e => em6 e c0))] (.d (et4 P1))) (hp2 : Ev E 22 [et3 bl kl, .sl (cy2 (cs.filter fun e => em6 e c1))] (.d (et4 P2))) :
    Ev E 34 [et3 b [et3 bk kk, et3 bl kl], .sl (cy2 cs)] (.d (et4 (ev9 (.mk b [P1, P2]) (cs.filter fun e => !(em6 e c0 || em6 e c1))))) := by
  have hle : (cy2 cs).length = cs.length := cy9 cs;have hf := ff6 (.mk b [P1, P2]) (cs.filter fun e => !(em6 e c0 || em6 e c1)) fun x hx => by have := hcs x (fq9.1 hx).1; omega
  obtain ⟨bP1, kP1⟩ := P1;obtain ⟨bP2, kP2⟩ := P2;rw [et7, fl5, fl5, fm9, et7, et7] at hf;rw [et7] at hp1 hp2;generalize ev9 (.mk b [.mk bP1 kP1, .mk bP2 kP2]) (cs.filter fun e => !(em6 e c0 || em6 e c1)) = QQ at *;obtain ⟨bQ, kQ⟩ := QQ;rw [et7] at hf ⊢;generalize kQ.map et4 = KQ at *;obtain ⟨op, cj, cl, be, bnm, bit, bod, bsk, blm⟩ := b;have ho : op = 3 := ho;subst ho;have k0 : ([et3 bk kk, et3 bl kl])[((0 : Int)).toNat]? = some (et3 bk kk) := rfl;have k1 : ([et3 bk kk, et3 bl kl])[((1 : Int)).toNat]? = some (et3 bl kl) := rfl;refine ye2 func34 ntmps34 fun _ _ _=>?_
  repeat' (first | refine yz ?_ | refine yi (et3 bk kk) k0 ?_ | refine yi (et3 bl kl) k1 ?_ | refine yp b75 hc1 ?_ | refine yp b75 hc2 ?_ | refine yx ?_ | (refine yy ?_ ?_ <;> intro _) | exact zD | exact zL)
  refine bm7 ?_;refine bm7 ?_;refine bm7 ?_;refine ac7 (α := SJn cs.length) (fun p => ⟨[(1, .d (.sl (cy2 cs))), (2, .ptr 0 0), (4, .ptr 1 0), (5, .d (.sl (c0.map .str))), (6, .d (.sl (c1.map .str))), (7, fJ 2 (ff7 cs (fun e => em6 e c0) p.i)), (8, fJ 3 (ff7 cs (fun e => em6 e c1) p.i)), (9, fJ 4 (ff7 cs (fun e => !(em6 e c0 || em6 e c1)) p.i)), (24, .d (.sl (cy2 cs))), (25, .d (.int (cy2 cs).length)), (26, .d (.int p.i))], [oPJ ⟨3, cj, cl, be, bnm, bit, bod, bsk, blm⟩ [et3 bk kk, et3 bl kl], zPJ, gJ (ff7 cs (fun e => em6 e c0) p.i), gJ (ff7 cs (fun e => em6 e c1) p.i), gJ (ff7 cs (fun e => !(em6 e c0 || em6 e c1)) p.i)]⟩) (fun p => cs.length - p.i) ⟨0, by omega⟩ (zle 5) ?_;rintro ⟨i, hi⟩;dsimp only;rcases fk1 i cs.length with hlt | hge
  · have g1 : decide ((i : Int) < ((cy2 cs).length : Int)) = true := by rw [hle]; simpa using hlt
    have hx0 := fk0 hlt;generalize cs[i] = x at hx0;have hx : (cy2 cs)[(i : Int).toNat]? = some (cy3 x) := cy7 (by rw [fl0]; exact hx0);have hnx := hcs x (fk4 hx0);have h1 := withinR_ev x c0 hnx;have h2 := withinR_ev x c1 hnx;have a1 := ff8 (f := fun e => em6 e c0) hx0;have a2 := ff8 (f := fun e => em6 e c1) hx0;have a3 := ff8 (f := fun e => !(em6 e c0 || em6 e c1)) hx0;have l1 := ff9 cs (fun e => em6 e c0) i;have l2 := ff9 cs (fun e => em6 e c1) i;have l3 := ff9 cs (fun e => !(em6 e c0 || em6 e c1)) i;have hc9 := fg0 x;generalize ff7 cs (fun e => em6 e c0) i = K1 at *;generalize ff7 cs (fun e => em6 e c1) i = K2 at *;generalize ff7 cs (fun e => !(em6 e c0 || em6 e c1)) i = K3 at *
    cases hb1 : em6 x c0 with
    | true =>
      rw [hb1] at h1
      cases hb2 : em6 x c1 with
      | true =>
        rw [hb2] at h2;simp only [hb1, hb2, fo2, fo0, fn8, fn1, fp3, fo5, cond_true, cond_false] at a1 a2 a3
        rcases K1 with _ | ⟨d1, r1⟩ <;> rcases K2 with _ | ⟨d2, r2⟩ <;> rcases K3 with _ | ⟨d3, r3⟩ <;>
          (try simp only [fk5] at l1 l2 l3
           dsimp only [fJ, gJ]
           repeat' (first | refine yz ?_ | refine yi (cy3 x) hx ?_ | refine yp b76 h1 ?_ | refine yp b76 h2 ?_ | (refine qS rfl ⟨by simp, hc9, by (show _ * 120 ≤ 140737488355328; first | (simp only [fk5, fm6] at *; omega) | (simp; omega)), by (show _ ≤ 9223372036854775807; first | (simp only [fk5, fm6] at *; omega) | (simp; omega))⟩ ?_) | refine yx ?_ | (refine yy ?_ ?_ <;> intro _) | exact zD | exact zL)
           refine ac1 ?_;refine ⟨⟨i + 1, by omega⟩, by dsimp only; omega, ?_⟩;dsimp only;rw [a1, a2, a3];exact (bj9 [0, 1, 6, 7, 4]))
      | false =>
        rw [hb2] at h2;simp only [hb1, hb2, fo2, fo0, fn8, fn1, fp3, fo5, cond_true, cond_false] at a1 a2 a3
        rcases K1 with _ | ⟨d1, r1⟩ <;> rcases K2 with _ | ⟨d2, r2⟩ <;> rcases K3 with _ | ⟨d3, r3⟩ <;>
          (try simp only [fk5] at l1 l2 l3
           dsimp only [fJ, gJ]
           repeat' (first | refine yz ?_ | refine yi (cy3 x) hx ?_ | refine yp b76 h1 ?_ | refine yp b76 h2 ?_ | (refine qS rfl ⟨by simp, hc9, by (show _ * 120 ≤ 140737488355328; first | (simp only [fk5, fm6] at *; omega) | (simp; omega)), by (show _ ≤ 9223372036854775807; first | (simp only [fk5, fm6] at *; omega) | (simp; omega))⟩ ?_) | refine yx ?_ | (refine yy ?_ ?_ <;> intro _) | exact zD | exact zL)
           refine ac1 ?_;refine ⟨⟨i + 1, by omega⟩, by dsimp only; omega, ?_⟩;dsimp only;rw [a1, a2, a3];exact (bj9 [0, 1, 6, 3, 4]))
    | false =>
      rw [hb1] at h1
      cases hb2 : em6 x c1 with
      | true =>
        rw [hb2] at h2;simp only [hb1, hb2, fo2, fo0, fn8, fn1, fp3, fo5, cond_true, cond_false] at a1 a2 a3
        rcases K1 with _ | ⟨d1, r1⟩ <;> rcases K2 with _ | ⟨d2, r2⟩ <;> rcases K3 with _ | ⟨d3, r3⟩ <;>
          (try simp only [fk5] at l1 l2 l3
           dsimp only [fJ, gJ]
           repeat' (first | refine yz ?_ | refine yi (cy3 x) hx ?_ | refine yp b76 h1 ?_ | refine yp b76 h2 ?_ | (refine qS rfl ⟨by simp, hc9, by (show _ * 120 ≤ 140737488355328; first | (simp only [fk5, fm6] at *; omega) | (simp; omega)), by (show _ ≤ 9223372036854775807; first | (simp only [fk5, fm6] at *; omega) | (simp; omega))⟩ ?_) | refine yx ?_ | (refine yy ?_ ?_ <;> intro _) | exact zD | exact zL)
           refine ac1 ?_;refine ⟨⟨i + 1, by omega⟩, by dsimp only; omega, ?_⟩;dsimp only;rw [a1, a2, a3];exact (bj9 [0, 1, 2, 6, 4]))
      | false =>
        rw [hb2] at h2;simp only [hb1, hb2, fo2, fo0, fn8, fn1, fp3, fo5, cond_true, cond_false] at a1 a2 a3
        rcases K1 with _ | ⟨d1, r1⟩ <;> rcases K2 with _ | ⟨d2, r2⟩ <;> rcases K3 with _ | ⟨d3, r3⟩ <;>
          (try simp only [fk5] at l1 l2 l3
           dsimp only [fJ, gJ]
           repeat' (first | refine yz ?_ | refine yi (cy3 x) hx ?_ | refine yp b76 h1 ?_ | refine yp b76 h2 ?_ | (refine qS rfl ⟨by simp, hc9, by (show _ * 120 ≤ 140737488355328; first | (simp only [fk5, fm6] at *; omega) | (simp; omega)), by (show _ ≤ 9223372036854775807; first | (simp only [fk5, fm6] at *; omega) | (simp; omega))⟩ ?_) | refine yx ?_ | (refine yy ?_ ?_ <;> intro _) | exact zD | exact zL)
           refine ac1 ?_;refine ⟨⟨i + 1, by omega⟩, by dsimp only; omega, ?_⟩;dsimp only;rw [a1, a2, a3];exact (bj9 [0, 1, 2, 3, 6]))
  · have g1 : decide ((i : Int) < ((cy2 cs).length : Int)) = false := by rw [hle]; simp; omega
    have e1 : ∀ f : Ex → Bool, ff7 cs f i = cy2 (cs.filter f) := fun f => by unfold ff7; rw [fn4 hge]
    rw [e1, e1, e1];clear e1;generalize cy2 (cs.filter fun e => em6 e c0) = K1 at *;generalize cy2 (cs.filter fun e => em6 e c1) = K2 at *;generalize cy2 (cs.filter fun e => !(em6 e c0 || em6 e c1)) = K3 at *
    match K1, hp1 with
    | [], hp1 =>
      refine bk6 7 rfl ?_
      match K2, hp2 with
      | [], hp2 =>
        refine bk6 8 rfl ?_
        match K3, hf with
        | [], hf =>
          refine bk6 9 rfl ?_
          repeat' (first | refine yq 15 [14] ?_ | refine yf 15 0 14 ?_ | refine yw ?_ | refine rgN ?_ | refine yv ?_ | refine yz ?_ | refine yi (et3 bk kk) k0 ?_ | refine yi (et3 bl kl) k1 ?_ | refine yp b22 hp1 ?_ | refine yp b22 hp2 ?_ | refine yp b37 hf ?_ | refine yx ?_ | (refine yy ?_ ?_ <;> intro _) | exact zD | exact zL)
        | dK3 :: rK3, hf =>
          refine au6 4 rfl ?_;dsimp only [ar8, ar7, as0, ar9, fJ, gJ, List.map, List.set]
          repeat' (first | refine yq 15 [14] ?_ | refine yf 15 0 14 ?_ | refine yw ?_ | refine rgN ?_ | refine yv ?_ | refine yz ?_ | refine yi (et3 bk kk) k0 ?_ | refine yi (et3 bl kl) k1 ?_ | refine yp b22 hp1 ?_ | refine yp b22 hp2 ?_ | refine yp b37 hf ?_ | refine yx ?_ | (refine yy ?_ ?_ <;> intro _) | exact zD | exact zL)
      | dK2 :: rK2, hp2 =>
        refine au6 3 rfl ?_;dsimp only [ar8, ar7, as0, ar9, fJ, gJ, List.map, List.set]
        match K3, hf with
        | [], hf =>
          refine bk6 9 rfl ?_
          repeat' (first | refine yq 15 [14] ?_ | refine yf 15 0 14 ?_ | refine yw ?_ | refine rgN ?_ | refine yv ?_ | refine yz ?_ | refine yi (et3 bk kk) k0 ?_ | refine yi (et3 bl kl) k1 ?_ | refine yp b22 hp1 ?_ | refine yp b22 hp2 ?_ | refine yp b37 hf ?_ | refine yx ?_ | (refine yy ?_ ?_ <;> intro _) | exact zD | exact zL)
        | dK3 :: rK3, hf =>
          refine au6 4 rfl ?_;dsimp only [ar8, ar7, as0, ar9, fJ, gJ, List.map, List.set]
          repeat' (first | refine yq 15 [14] ?_ | refine yf 15 0 14 ?_ | refine yw ?_ | refine rgN ?_ | refine yv ?_ | refine yz ?_ | refine yi (et3 bk kk) k0 ?_ | refine yi (et3 bl kl) k1 ?_ | refine yp b22 hp1 ?_ | refine yp b22 hp2 ?_ | refine yp b37 hf ?_ | refine yx ?_ | (refine yy ?_ ?_ <;> intro _) | exact zD | exact zL)
    | dK1 :: rK1, hp1 =>
      refine au6 2 rfl ?_;dsimp only [ar8, ar7, as0, ar9, fJ, gJ, List.map, List.set]
      match K2, hp2 with
      | [], hp2 =>
        refine bk6 8 rfl ?_
        match K3, hf with
        | [], hf =>
          refine bk6 9 rfl ?_
          repeat' (first | refine yq 15 [14] ?_ | refine yf 15 0 14 ?_ | refine yw ?_ | refine rgN ?_ | refine yv ?_ | refine yz ?_ | refine yi (et3 bk kk) k0 ?_ | refine yi (et3 bl kl) k1 ?_ | refine yp b22 hp1 ?_ | refine yp b22 hp2 ?_ | refine yp b37 hf ?_ | refine yx ?_ | (refine yy ?_ ?_ <;> intro _) | exact zD | exact zL)
        | dK3 :: rK3, hf =>
          refine au6 4 rfl ?_;dsimp only [ar8, ar7, as0, ar9, fJ, gJ, List.map, List.set]
          repeat' (first | refine yq 15 [14] ?_ | refine yf 15 0 14 ?_ | refine yw ?_ | refine rgN ?_ | refine yv ?_ | refine yz ?_ | refine yi (et3 bk kk) k0 ?_ | refine yi (et3 bl kl) k1 ?_ | refine yp b22 hp1 ?_ | refine yp b22 hp2 ?_ | refine yp b37 hf ?_ | refine yx ?_ | (refine yy ?_ ?_ <;> intro _) | exact zD | exact zL)
      | dK2 :: rK2, hp2 =>
        refine au6 3 rfl ?_;dsimp only [ar8, ar7, as0, ar9, fJ, gJ, List.map, List.set]
        match K3, hf with
        | [], hf =>
          refine bk6 9 rfl ?_
          repeat' (first | refine yq 15 [14] ?_ | refine yf 15 0 14 ?_ | refine yw ?_ | refine rgN ?_ | refine yv ?_ | refine yz ?_ | refine yi (et3 bk kk) k0 ?_ | refine yi (et3 bl kl) k1 ?_ | refine yp b22 hp1 ?_ | refine yp b22 hp2 ?_ | refine yp b37 hf ?_ | refine yx ?_ | (refine yy ?_ ?_ <;> intro _) | exact zD | exact zL)
        | dK3 :: rK3, hf =>
          refine au6 4 rfl ?_;dsimp only [ar8, ar7, as0, ar9, fJ, gJ, List.map, List.set]
          repeat' (first | refine yq 15 [14] ?_ | refine yf 15 0 14 ?_ | refine yw ?_ | refine rgN ?_ | refine yv ?_ | refine yz ?_ | refine yi (et3 bk kk) k0 ?_ | refine yi (et3 bl kl) k1 ?_ | refine yp b22 hp1 ?_ | refine yp b22 hp2 ?_ | refine yp b37 hf ?_ | refine yx ?_ | (refine yy ?_ ?_ <;> intro _) | exact zD | exact zL)
mutual
def cfP : Pl → Nat
 | .mk b ks => nd b.e + fg2 ks
def fg2 : List Pl → Nat
 | [] => 0
 | p :: r => cfP p + fg2 r
end
theorem fg3 (e : Ex) : ∀ x ∈ ec3 e, nd x ≤ nd e := by
 refine cz2 (P := fun e => ∀ x ∈ ec3 e, nd x ≤ nd e) (fun op v nm ds ks ih => ?_) e;have hp : nd (.mk op v nm ds ks) = ndL ks + 1 := dc9 _;rw [ec3]
 cases hc : op == 18 && ks.length == 2 with
 | false =>
  intro x hx;rw [cond_false, fl7] at hx;rw [hx];exact fk9 _
 | true =>
  rw [fk3, beq_iff_eq, beq_iff_eq] at hc
  match ks, hc.2, ih, hp with
  | [a, b], _, ih, hp =>
   rw [ndL, ndL, ndL] at hp;rw [cond_true, ec4, ec4, ec4, fq1];intro x hx;rcases fm8.1 hx with hx | hx
   ·have := ih a (by simp) x hx; omega
   ·have := ih b (by simp) x hx; omega
theorem fg4 (a : PB) (ka : List D) : EvO E 36 [.sl [et3 a ka]] 40 39 [et3 a ka] := by
 refine az4 func36 ntmps36 rfl rfl fun w0 F0 O => ?_
 repeat' (first | refine az0 rfl rfl rfl rfl rfl rfl rfl (by decide) (by decide) ?_ | refine yz ?_ | (refine ay6 rfl (fun h => absurd h (by simp)) ?_) | refine yx ?_ | (refine yy ?_ ?_ <;> intro _) | exact zD | exact zL)
 refine qS rfl ⟨by simp, fun d hd => by (obtain rfl := fl7.1 hd; rfl), by (show (0 + 1) * 592 ≤ 140737488355328; omega), by (show 0 + 1 ≤ 9223372036854775807; omega)⟩ ?_
 repeat' (first | refine yz ?_ | refine yx ?_ | (refine yy ?_ ?_ <;> intro _) | exact zD | exact zL)
theorem fg5 : ∀ ks : List Pl, ew5 ks [] = ks.map fun p => ew4 p []
 | [] => rfl
 | p :: r => by
  rw [ew5, fl5, ← fg5 r];rfl
theorem fg6 {b : PB} {ks : List Pl} {cs : List Ex} (ho : b.op = 1 ∨ b.op = 11) : ew4 (.mk b ks) cs = ev9 (.mk b (ks.map fun p => ew4 p [])) cs := by
 have h1 : ∀ c0 c1, ew2 b c0 c1 cs = [] := fun c0 c1 => by unfold ew2; rcases ho with h | h <;> rw [h] <;> rfl
 have h2 : ∀ c0 c1, ew3 b c0 c1 cs = cs := fun c0 c1 => by unfold ew3; rcases ho with h | h <;> rw [h] <;> rfl
 have h3 : (b.op == 6) = false := by rcases ho with h | h <;> rw [h] <;> rfl
 rw [ew4, h1, h2, h3, cond_false, fg5]
theorem fg7 {b : PB} {k l : Pl} {cs : List Ex} (ho : b.op = 3) : ew4 (.mk b [k, l]) cs = ev9 (.mk b [ew4 k (cs.filter fun e => em6 e (ev0 k).1), ew4 l (cs.filter fun e => em6 e (ev0 l).1)]) (cs.filter fun e => !(em6 e (ev0 k).1 || em6 e (ev0 l).1)) := by
 have h3 : (b.op == 6) = false := by rw [ho]; rfl
 have h1 : ew2 b (ev0 k).1 (ev0 l).1 cs = [cs.filter fun e => em6 e (ev0 k).1, cs.filter fun e => em6 e (ev0 l).1] := by unfold ew2; rw [ho]; rfl
 have h2 : ew3 b (ev0 k).1 (ev0 l).1 cs = cs.filter fun e => !(em6 e (ev0 k).1 || em6 e (ev0 l).1) := by unfold ew3; rw [ho]; rfl
 rw [ew4, h3, cond_false];show ev9 (.mk b (ew5 [k, l] (ew2 b (ev0 k).1 (ev0 l).1 cs))) (ew3 b (ev0 k).1 (ev0 l).1 cs) = _;rw [h1, h2, ew5, ew5, ew5];rfl
theorem fg8 {b : PB} {k : Pl} {cs : List Ex} (ho : b.op = 6) : ew4 (.mk b [k]) cs = ew4 k (ec3 b.e ++ cs) := by
 have h3 : (b.op == 6) = true := by rw [ho]; rfl
 rw [ew4, h3];rfl
def dJ (a r : D) : Nat → D
 | 0 => a
 | _ + 1 => r
set_option maxHeartbeats 8000000 in
theorem fg9 (p : Pl) : alB SmB p → (ev0 p).2 = 0 → dpP p ≤ 200 → szP p ≤ 2000 → cwP p ≤ 1000000 → ∀ cs : List Ex, (∀ x ∈ cs, nd x ≤ 1000000) → cs.length + cfP p ≤ 1000000 → Ev E 22 [et4 p, .sl (cy2 cs)] (.d (et4 (ew4 p cs))) := by
 refine et2 (P := fun p => alB SmB p → (ev0 p).2 = 0 → dpP p ≤ 200 → szP p ≤ 2000 → cwP p ≤ 1000000 → ∀ cs : List Ex, (∀ x ∈ cs, nd x ≤ 1000000) → cs.length + cfP p ≤ 1000000 → Ev E 22 [et4 p, .sl (cy2 cs)] (.d (et4 (ew4 p cs)))) (fun b ks ih hs hc hd hz hw cs hcs hl => ?_) p;rw [alB] at hs;rw [szP] at hz;rw [dpP] at hd;rw [cwP] at hw;rw [cfP] at hl;have hsb := hs.1;have hks := ey7 hs.2;have hlen := ew8 (ew7 hc).2.2;rcases hsb.op4 with ho | ho | ho | ho
 ·rw [ho] at hlen
  obtain rfl : ks = [] := by
   have hlen : (0 : Int) = ks.length := hlen;exact List.length_eq_zero_iff.1 (by omega)
  rw [fg6 (.inl ho)];have hf := ff6 (.mk b []) cs fun x hx => by have := hcs x hx; omega
  rw [fm9, et7, fm9];rw [et7, fm9] at hf;generalize ev9 (.mk b []) cs = QQ at *;obtain ⟨bQ, kQ⟩ := QQ;rw [et7 bQ] at hf ⊢;generalize kQ.map et4 = KQ at *;clear ih hs hc hd hz hw hl hlen hsb hks;obtain ⟨op, cj, cl, be, bnm, bit, bod, bsk, blm⟩ := b;have ho : op = 1 := ho;subst ho;refine ye2 func22 ntmps22 fun _ _ _=>?_
  repeat' (first | refine yz ?_ | refine yp b36 eq7 ?_ | refine yx ?_ | (refine yy ?_ ?_ <;> intro _) | exact zD | exact zL)
  refine ac7 (α := Unit) (fun _ => ⟨[(1, .d (.sl (cy2 cs))), (2, .ptr 0 0), (4, .ptr 1 0), (5, .d (.sl [])), (47, .d (.sl [])), (48, .d (.int 0)), (49, .d (.int 0))], [oPJ ⟨1, cj, cl, be, bnm, bit, bod, bsk, blm⟩ [], zPJ]⟩) (fun _ => 0) () (zle 2) ?_;rintro -;have g1 : decide ((0 : Int) < 0) = false := rfl
  repeat' (first | refine yz ?_ | refine yp b37 hf ?_ | refine yx ?_ | (refine yy ?_ ?_ <;> intro _) | exact zD | exact zL)
 ·rw [ho] at hlen;have hlen : (2 : Int) = ks.length := hlen;obtain ⟨k, l, rfl⟩ : ∃ k l, ks = [k, l] := by (match ks, hlen with | [k, l], _ => exact ⟨k, l, rfl⟩)
  have hk0 := (ew7 hc).1;rw [fg7 ho];rw [ev3, ev3, ev3] at hz;rw [ev2, ev2, ev2] at hd;rw [fa8, fa8, fa8] at hw;rw [fg2, fg2, fg2] at hl;have fl : ∀ f : Ex → Bool, (cs.filter f).length ≤ cs.length := fun f => fs0 f cs
  have fm : ∀ f : Ex → Bool, ∀ x ∈ cs.filter f, nd x ≤ 1000000 := fun f x hx => hcs x (fq9.1 hx).1
  have ck : ∀ p : Pl, dpP p ≤ 200 → szP p ≤ 2000 → ev4 p = ev0 p := fun p h1 h2 => by
   unfold ev4;rw [show decide (dpP p > 200) = false by simpa using h1, show decide (szP p > 2000) = false by simpa using h2];rfl
  have hC1 := fd7 k (hks k (by simp)) (by omega) (by omega);have hC2 := fd7 l (hks l (by simp)) (by omega) (by omega);rw [ck k (by omega) (by omega)] at hC1;rw [ck l (by omega) (by omega)] at hC2;have hp1 := ih k (by simp) (hks k (by simp)) (hk0 k (by simp)) (by omega) (by omega) (by omega) (cs.filter fun e => em6 e (ev0 k).1) (fm _) (by have := fl fun e => em6 e (ev0 k).1; omega);have hp2 := ih l (by simp) (hks l (by simp)) (hk0 l (by simp)) (by omega) (by omega) (by omega) (cs.filter fun e => em6 e (ev0 l).1) (fm _) (by have := fl fun e => em6 e (ev0 l).1; omega);generalize (ev0 k).1 = c0 at *;generalize (ev0 l).1 = c1 at *;generalize ew4 k _ = P1 at *;generalize ew4 l _ = P2 at *;clear ih hs hc hd hz hw hlen hsb hks hk0 ck;obtain ⟨bk, kk⟩ := k;obtain ⟨bl, kl⟩ := l;rw [et7] at hC1 hC2 hp1 hp2;have hc1 := ff5 _ _ _ _ hC1;have hc2 := ff5 _ _ _ _ hC2;have hj := fg1 b bk bl (kk.map et4) (kl.map et4) cs c0 c1 P1 P2 ho hcs (by omega) hc1 hc2 hp1 hp2;rw [et7, fl5, fl5, fm9, et7, et7];clear hc1 hc2 hp1 hp2;generalize ev9 _ _ = QQ at *;obtain ⟨bQ, kQ⟩ := QQ;rw [et7 bQ] at hj ⊢;generalize kQ.map et4 = KQ at *;obtain ⟨op, cj, cl, be, bnm, bit, bod, bsk, blm⟩ := b;have ho : op = 3 := ho;subst ho;refine ye2 func22 ntmps22 fun _ _ _=>?_
  repeat' (first | refine yz ?_ | refine yp b34 hj ?_ | refine yx ?_ | (refine yy ?_ ?_ <;> intro _) | exact zD | exact zL)
 ·obtain ⟨k, rfl, hk0, -, -⟩ := one_of ho hc;rw [fg8 ho];rw [ev3, ev3] at hz;rw [ev2, ev2] at hd;rw [fa8, fa8] at hw;rw [fg2, fg2] at hl;have hse : nd b.e ≤ 1000000 := hsb.e;have hcl := ef4 b.e
  have hp := ih k (by simp) (hks k (by simp)) hk0 (by omega) (by omega) (by omega) (ec3 b.e ++ cs) (fun x hx => by
   rcases fm8.1 hx with h | h
   ·have := fg3 b.e x h; omega
   ·exact hcs x h) (by rw [fl8]; omega)
  have hcj := ef6 b.e hsb.e;generalize ew4 k _ = P1 at *;clear ih hs hc hd hz hw hlen hks hk0 hsb;obtain ⟨bk, kk⟩ := k;rw [et7, ef5] at hp;rw [et7, fl5, fm9, et7];have hx : ([et3 bk (kk.map et4)])[((0 : Int)).toNat]? = some (et3 bk (kk.map et4)) := rfl;have hcc := ee9 cs;have hxl : (cy2 cs).length = cs.length := cy9 _;have hyl : (cy2 (ec3 b.e)).length = (ec3 b.e).length := cy9 _;generalize kk.map et4 = KK at *;obtain ⟨bQ, kQ⟩ := P1;rw [et7 bQ] at hp ⊢;generalize kQ.map et4 = KQ at *;obtain ⟨op, cj, cl, be, bnm, bit, bod, bsk, blm⟩ := b;have ho : op = 6 := ho;subst ho;dsimp only at hcj hp hcl hl hse hyl
  by_cases h0 : cs = []
  ·subst h0;have hcd := hcj.ev;rw [show cy2 ([] : List Ex) = [] from rfl, fq1] at hp;show Ev E 22 [_, .sl []] _;generalize cy2 (ec3 be) = CJ at *;refine ye2 func22 ntmps22 fun _ _ _=>?_
   repeat' (first | refine yq 3 [10] ?_ | refine yf 3 0 10 ?_ | refine yw ?_ | refine rgN ?_ | refine yv ?_ | refine yz ?_ | refine yi (et3 bk KK) hx ?_ | refine yp b16 hcd ?_ | refine az3 rfl rfl rfl rfl rfl rfl rfl rfl ?_ | refine yp b22 hp ?_ | refine yx ?_ | (refine yy ?_ ?_ <;> intro _) | exact zD | exact zL)
  ·have hne : cy2 cs ≠ [] := by rw [cy4]; simpa using h0
   generalize cy2 (ec3 be) = CJ at *;generalize cy2 cs = CS at *;refine ye2 func22 ntmps22 fun _ _ _=>?_
   repeat' (first | refine bk5 (id := 3) [6,8,10] [1] (by kernel_rfl) (by kernel_rfl) (by repeat (first | exact trivial | refine ⟨⟨rfl, rfl⟩, ?_⟩ | refine ⟨trivial, ?_⟩)) ?_ | (refine reV (id := 3) (i := 0) rfl rfl rfl rfl rfl rfl ?_ ?_; (first | exact True.intro | rfl | assumption | omega | (simp only [inR]; omega) | ((show _ ≤ (9223372036854775807 : Nat)); (try simp only [ByteArray.size_append]); omega) | exact av0 (by omega) (by omega) | exact av1 (by omega) (by omega) | exact ⟨rfl, by decide, by decide⟩)) | (refine reV (id := 3) (i := 1) rfl rfl rfl rfl rfl rfl ?_ ?_; (first | exact True.intro | rfl | assumption | omega | (simp only [inR]; omega) | ((show _ ≤ (9223372036854775807 : Nat)); (try simp only [ByteArray.size_append]); omega) | exact av0 (by omega) (by omega) | exact av1 (by omega) (by omega) | exact ⟨rfl, by decide, by decide⟩)) | (refine reV (id := 3) (i := 3) rfl rfl rfl rfl rfl rfl ?_ ?_; (first | exact True.intro | rfl | assumption | omega | (simp only [inR]; omega) | ((show _ ≤ (9223372036854775807 : Nat)); (try simp only [ByteArray.size_append]); omega) | exact av0 (by omega) (by omega) | exact av1 (by omega) (by omega) | exact ⟨rfl, by decide, by decide⟩)) | refine reF (id := 3) (i := 4) 2 (by kernel_rfl) rfl ?_ | (refine reV (id := 3) (i := 7) rfl rfl rfl rfl rfl rfl ?_ ?_; (first | exact True.intro | rfl | assumption | omega | (simp only [inR]; omega) | ((show _ ≤ (9223372036854775807 : Nat)); (try simp only [ByteArray.size_append]); omega) | exact av0 (by omega) (by omega) | exact av1 (by omega) (by omega) | exact ⟨rfl, by decide, by decide⟩)) | refine reF (id := 3) (i := 9) 1 (by kernel_rfl) rfl ?_ | refine reN ?_ | refine yz ?_ | refine reI (id := 3) (i := 2) (et3 bk KK) rfl rfl rfl rfl rfl rfl rfl rfl rfl rfl (by first | omega | decide) hx ?_ | refine bo2 (id := 3) (i := 6) rfl rfl rfl rfl rfl rfl b16 rfl (hcj) (by repeat (first | exact trivial | refine ⟨⟨rfl, rfl⟩, ?_⟩ | refine ⟨trivial, ?_⟩)) ?_ | refine reSD (id := 3) (i := 8) rfl rfl rfl rfl (⟨hne, hcc, by (show (CJ.length + CS.length) * 120 ≤ 140737488355328; omega), by (show CJ.length + CS.length ≤ 9223372036854775807; omega)⟩) rfl rfl rfl rfl (by first | (simp; done) | (simp; intro _; assumption)) (by repeat (first | exact trivial | refine ⟨rfl, ?_⟩)) (by repeat (first | exact trivial | refine ⟨⟨rfl, rfl⟩, ?_⟩ | refine ⟨trivial, ?_⟩)) ?_ | refine yp b22 hp ?_ | refine bp6 (id := 3) (i := 10) rfl rfl rfl rfl rfl rfl rfl rfl rfl rfl rfl (by repeat (first | exact trivial | refine ⟨⟨rfl, rfl⟩, ?_⟩ | refine ⟨trivial, ?_⟩)) ?_ | refine yx ?_ | (refine yy ?_ ?_ <;> intro _) | exact zD | exact zL)
 ·rw [ho] at hlen;have hlen : (1 : Int) = ks.length := hlen;obtain ⟨k, rfl⟩ : ∃ k, ks = [k] := by (match ks, hlen with | [k], _ => exact ⟨k, rfl⟩)
  have hk0 := (ew7 hc).1;rw [fg6 (.inr ho)];rw [ev3, ev3] at hz;rw [ev2, ev2] at hd;rw [fa8, fa8] at hw;rw [fg2, fg2] at hl;have hp := ih k (by simp) (hks k (by simp)) (hk0 k (by simp)) (by omega) (by omega) (by omega) [] (fun _ h => by cases h) (by simp; omega);rw [fl5, fm9];have hf := ff6 (.mk b [ew4 k []]) cs fun x hx => by have := hcs x hx; omega
  generalize ew4 k [] = P1 at *;clear ih hs hc hd hz hw hlen hks hk0 hsb;obtain ⟨bk, kk⟩ := k;obtain ⟨bp, kp⟩ := P1;rw [et7, et7] at hp;rw [et7, fl5, fm9, et7] at hf;rw [et7, fl5, fm9, et7];have hp : Ev E 22 [et3 bk (kk.map et4), .sl []] (.d (et3 bp (kp.map et4))) := hp;have hcl := fg4 bk (kk.map et4);have hx : ([et3 bk (kk.map et4)])[((0 : Int)).toNat]? = some (et3 bk (kk.map et4)) := rfl;generalize kk.map et4 = KK at *;generalize kp.map et4 = KP at *;generalize ev9 (.mk b [.mk bp kp]) cs = QQ at *;obtain ⟨bQ, kQ⟩ := QQ;rw [et7 bQ] at hf ⊢;generalize kQ.map et4 = KQ at *;obtain ⟨op, cj, cl, be, bnm, bit, bod, bsk, blm⟩ := b;have ho : op = 11 := ho;subst ho;refine ye2 func22 ntmps22 fun _ _ _=>?_
  repeat' (first | refine yz ?_ | refine ay9 rfl rfl rfl rfl rfl rfl b36 (hcl) ?_ | refine yx ?_ | (refine yy ?_ ?_ <;> intro _) | exact zD | exact zL)
  refine ac7 (α := Fin 2) (fun q => ⟨[(1, .d (.sl (cy2 cs))), (2, .ptr 0 0), (4, .ptr 1 0), (5, .own 2), (47, .own 2), (48, .d (.int 1)), (49, .d (.int q.val))], [oPJ ⟨11, cj, cl, be, bnm, bit, bod, bsk, blm⟩ [et3 bk KK], zPJ, .row 40 39 [dJ (et3 bk KK) (et3 bp KP) q.val]]⟩) (fun q => 1 - q.val) ⟨0, by omega⟩ (bj9 [0, 1, 2]) ?_;rintro ⟨i, hi⟩
  match i, hi with
  | 0, _ =>
   dsimp only [dJ];have g1 : decide ((0 : Int) < 1) = true := rfl
   repeat' (first | refine yz ?_ | (refine qS rfl ?_ ?_; exact ⟨by simp, by simp⟩) | refine qW (et3 bk KK) rfl rfl rfl rfl rfl rfl hx rfl ?_ | refine yp b22 hp ?_ | refine qZ (et3 bk KK) rfl rfl rfl rfl rfl rfl hx rfl rfl rfl ?_ | refine yx ?_ | (refine yy ?_ ?_ <;> intro _) | exact zD | exact zL)
   refine ac1 ?_;exact ⟨⟨1, by omega⟩, by (show (0 : Nat) < 1; omega), (zle 3)⟩
  | 1, _ =>
   dsimp only [dJ];have g1 : decide ((1 : Int) < 1) = false := rfl;refine au6 2 rfl ?_;dsimp only [ar8, ar7, as0, ar9, List.map, List.set]
   repeat' (first | refine yz ?_ | refine yp b37 hf ?_ | refine yx ?_ | (refine yy ?_ ?_ <;> intro _) | exact zD | exact zL)
theorem fh0 (p : Pl) (hs : alB SmB p) (hz : szP p ≤ 1000000) (hw : cwP p ≤ 1000000) (hq : (ev4 p).2 = 0 → Ev E 22 [et4 p, .sl []] (.d (et4 (ew4 p []))) ∧ alB SmB (ew4 p []) ∧ szP (ew4 p []) ≤ 1000000 ∧ cwP (ew4 p []) ≤ 1000000) : Ev E 11 [et4 p] (.d (et4 (pshQ p))) := by
 have h1 := fd7 p hs hz hw;unfold pshQ
 cases c1 : (ev4 p).2 != 0 with
 | true =>
  rw [cond_true];clear hq;generalize ev4 p = c at *;obtain ⟨b, ks⟩ := p;rw [et7] at *;refine ye1 func11 ntmps11 fun _ _ _=>?_
  repeat' (first | refine yz ?_ | refine yp b21 h1 ?_ | refine yx ?_ | (refine yy ?_ ?_ <;> intro _) | exact zD | exact zL)
 | false =>
  have h0 : (ev4 p).2 = 0 := by simpa using c1
  obtain ⟨h2, q1, q2, q3⟩ := hq h0;have h3 := fd7 _ q1 q2 q3;rw [cond_false];rw [h0] at h1;generalize ew4 p [] = q at *;generalize (ev4 p).1 = c at *
  cases c2 : (ev4 q).2 != 0 with
  | true =>
   rw [cond_true];clear q1 q2 q3;generalize ev4 q = c' at *;obtain ⟨b, ks⟩ := p;obtain ⟨b', ks'⟩ := q;simp only [et7] at h1 h2 h3 ⊢;refine ye1 func11 ntmps11 fun _ _ _=>?_
   repeat' (first | refine yz ?_ | refine yp b21 h1 ?_ | refine yp b22 h2 ?_ | refine yp b21 h3 ?_ | refine yx ?_ | (refine yy ?_ ?_ <;> intro _) | exact zD | exact zL)
  | false =>
   have h0' : (ev4 q).2 = 0 := by simpa using c2
   rw [cond_false];rw [h0'] at h3;clear q1 q2 q3;generalize (ev4 q).1 = c' at *;obtain ⟨b, ks⟩ := p;obtain ⟨b', ks'⟩ := q;simp only [et7] at h1 h2 h3 ⊢;refine ye1 func11 ntmps11 fun _ _ _=>?_
   repeat' (first | refine yz ?_ | refine yp b21 h1 ?_ | refine yp b22 h2 ?_ | refine yp b21 h3 ?_ | refine yx ?_ | (refine yy ?_ ?_ <;> intro _) | exact zD | exact zL)
end Go.Proofs.YtaiiailapeffgaaGreatDoor
