/- Conjunctive queries compared with themselves, by the specification; Which properties and which path patterns become atoms, by both texts; The chapter's example, translated: the builder at the path pattern (a:A)-[:T]->(b); The chapter's example holds: the translation of one path pattern, compared and checked; From rows' readings to conjunctive queries; the listed variables as the engine wants them; a world for the witnesses (chapter 28); From rows' readings to graphs, in the seat of chapter 28. Conditions: each part's own, as it says. -/
import Derived.Test.YtenpjlghikohmaaGreatDoorZA
import Derived.Test.YtenpjlghikohmaaGreatDoorMB
import Derived.Test.YtenpjlghikohmaaGreatDoorLD
import Derived.Test.YtenpjlghikohmaaGreatDoorCA
import Derived.Test.YtenpjlghikohmaaGreatDoorMA
import Derived.Test.YtenpjlghikohmaaGreatDoorGC
import Derived.Test.YtenpjlghikohmaaGreatDoorBA
import Derived.Test.YtenpjlghikohmaaGreatDoorGG
import Derived.Test.YtenpjlghikohmaaGreatDoorLA
import Derived.Test.YtenpjlghikohmaaGreatDoorGB
import Derived.Test.YtenpjlghikohmaaGreatDoorRows
import Derived.Test.YtenpjlghikohmaaGreatDoorTie
import Derived.ProofKit
set_option linter.unusedVariables false
set_option linter.unusedSimpArgs false
namespace Go.Proofs.YtenpjlghikohmaaGreatDoor
set_option maxRecDepth 4000
open Go Go.Abs Go.Val Go.RowKit Go.Proofs Go.Proofs.Tryz
attribute [local irreducible] go SGo an2 Ev aw2 EvO EvS PGo RGo cm6
structure SSe (n : Nat) where
 i : Nat
 hi : i ≤ n
theorem eo1 (a : AT) (h0 : cm6 a.v a.v = 0) (hn : a.vs.length ≤ 1000000) : Ev E 38 [di7 a, di7 a] (.d (.bool true)) := Ev.fit fun hfit => by
 have hmax := (cy4 (f := D.str) ((hfit (di7 a) (by simp)).aggs (.sl (a.ty.map D.str)) (by simp [di7]))).1;have h1 := cn4 a.v a.v;rw [h0] at h1;have h2 := ed8 a.vs hn;have hle : (a.ty.map D.str).length = a.ty.length := by simp
 clear h0 hn hfit;obtain ⟨k, vs, nm, ty, ⟨vk, vn, vd, vS, vl⟩⟩ := a;dsimp only at *;have g1 : (k != k) = false := by simp
 have g2 : (!(nm.toList == nm.toList)) = false := by simp
 have g3 : ((0 : Int) != 0) = false := rfl;have g4 : (((ty.map D.str).length : Int) != ((ty.map D.str).length : Int)) = false := by simp
 refine ye2 func38 ntmps38 fun _ _ _=>?_
 repeat' (first | refine yz ?_ | refine yp b116 h1 ?_ | refine yp bu3 h2 ?_ | refine yx ?_)
 refine ac7 (α := SSe ty.length) (fun p => ⟨[(2, .ptr 0 0), (3, .ptr 1 0), (5, .d (.int p.i))], [oAT ⟨k, vs, nm, ty, .mk vk vn vd vS vl⟩, oAT ⟨k, vs, nm, ty, .mk vk vn vd vS vl⟩]⟩) (fun p => ty.length - p.i) ⟨0, by omega⟩ (zle 2) ?_;rintro ⟨i, hi⟩;dsimp only;rcases ez6 i ty.length with hlt | hge
 ·have q1 : decide ((i : Int) < ((ty.map D.str).length : Int)) = true := by rw [hle]; simpa using hlt
  have hx0 := ez5 hlt;generalize ty[i] = x at hx0;have hx : (ty.map D.str)[((i : Nat) : Int).toNat]? = some (.str x) := by rw [fb4, ez8, hx0]; rfl
  have q2 : (!(x.toList == x.toList)) = false := by simp
  repeat' (first | refine yz ?_ | refine yi (.str x) hx ?_)
  refine ac1 ?_;exact ⟨⟨i + 1, by omega⟩, by dsimp only; omega, (zle 2)⟩
 ·have q1 : decide ((i : Int) < ((ty.map D.str).length : Int)) = false := by rw [hle]; simp; omega
  repeat' (first | refine yz ?_ | exact zD)
theorem eo2 (c : CJ) (h : ∀ a ∈ c.as, cm6 a.v a.v = 0 ∧ a.vs.length ≤ 1000000) : Ev E 11 [di8 c, di8 c] (.d (.bool true)) := Ev.fit fun hfit => by
 obtain ⟨vs, ats⟩ := c;dsimp only at h;have m1 := (cy4 (f := D.str) ((hfit (di8 ⟨vs, ats⟩) (by simp)).aggs (.sl (vs.map D.str)) (by simp [di8]))).1;have m2 := (cy4 (f := di7) ((hfit (di8 ⟨vs, ats⟩) (by simp)).aggs (.sl (ats.map di7)) (by simp [di8]))).1;have l1 : (vs.map D.str).length = vs.length := by simp
 have l2 : (ats.map di7).length = ats.length := by simp
 have g1 : (((vs.map D.str).length : Int) != ((vs.map D.str).length : Int)) = false := by simp
 have g2 : (((ats.map di7).length : Int) != ((ats.map di7).length : Int)) = false := by simp
 refine ye2 func11 ntmps11 fun _ _ _=>?_
 repeat' (first | refine yz ?_ | refine yx ?_)
 refine ac7 (α := SSe vs.length) (fun p => ⟨[(2, .ptr 0 0), (3, .ptr 1 0), (5, .d (.int p.i))], [oCJ ⟨vs, ats⟩, oCJ ⟨vs, ats⟩]⟩) (fun p => vs.length - p.i) ⟨0, by omega⟩ (zle 2) ?_;rintro ⟨i, hi⟩;dsimp only;rcases ez6 i vs.length with hlt | hge
 ·have q1 : decide ((i : Int) < ((vs.map D.str).length : Int)) = true := by rw [l1]; simpa using hlt
  have hx0 := ez5 hlt;generalize vs[i] = x at hx0;have hx : (vs.map D.str)[((i : Nat) : Int).toNat]? = some (.str x) := by rw [fb4, ez8, hx0]; rfl
  have q2 : (!(x.toList == x.toList)) = false := by simp
  repeat' (first | refine yz ?_ | refine yi (.str x) hx ?_)
  refine ac1 ?_;exact ⟨⟨i + 1, by omega⟩, by dsimp only; omega, (zle 2)⟩
 ·have q1 : decide ((i : Int) < ((vs.map D.str).length : Int)) = false := by rw [l1]; simp; omega
  repeat' (refine yz ?_)
  refine ac7 (α := SSe ats.length) (fun p => ⟨[(2, .ptr 0 0), (3, .ptr 1 0), (6, .d (.int p.i))], [oCJ ⟨vs, ats⟩, oCJ ⟨vs, ats⟩]⟩) (fun p => ats.length - p.i) ⟨0, by omega⟩ (zle 2) ?_;rintro ⟨j, hj⟩;dsimp only;rcases ez6 j ats.length with hlt2 | hge2
  ·have q3 : decide ((j : Int) < ((ats.map di7).length : Int)) = true := by rw [l2]; simpa using hlt2
   have hx0 := ez5 hlt2;generalize ats[j] = x at hx0;have hx : (ats.map di7)[((j : Nat) : Int).toNat]? = some (di7 x) := by rw [fb4, ez8, hx0]; rfl
   obtain ⟨a1, a2⟩ := h x (ez9 hx0);have hs := eo1 x a1 a2
   repeat' (first | refine yz ?_ | refine yi (di7 x) hx ?_ | refine yp b38 hs ?_)
   refine ac1 ?_;exact ⟨⟨j + 1, by omega⟩, by dsimp only; omega, (zle 2)⟩
  ·have q3 : decide ((j : Int) < ((ats.map di7).length : Int)) = false := by rw [l2]; simp; omega
   repeat' (first | refine yz ?_ | exact zD)
end Go.Proofs.YtenpjlghikohmaaGreatDoor
namespace Go.Proofs.YtenpjlghikohmaaGreatDoor
set_option maxRecDepth 4000
open Go Go.Abs Go.Val Go.RowKit Go.Proofs.Tryz
attribute [local irreducible] go SGo an2 Ev aw2 EvO EvS RGo
def eo3 (e : EP) : Bool := e.mode != 0 || (e.dir != 1 && e.dir != 2)
theorem eo4 (e : EP) : Ev E 99 [dc2 e] (.d (.bool (eo3 e))) := by
 unfold eo3;obtain ⟨vr, ty, dir, mode, mn, mx, ps⟩ := e;dsimp only
 cases c1 : mode != 0 with
 | true =>
  refine ye1 func99 ntmps99 fun _ _ _=>?_
  repeat' (first | refine yz ?_ | refine yx ?_ | exact zD)
 | false =>
  cases c2 : dir != 1 with
  | true =>
   cases c3 : dir != 2 with
   | true =>
    refine ye1 func99 ntmps99 fun _ _ _=>?_
    repeat' (first | refine yz ?_ | refine yx ?_)
    exact congrArg D.bool c3
   | false =>
    refine ye1 func99 ntmps99 fun _ _ _=>?_
    repeat' (first | refine yz ?_ | refine yx ?_)
    exact congrArg D.bool c3
  | false =>
   refine ye1 func99 ntmps99 fun _ _ _=>?_
   repeat' (first | refine yz ?_ | refine yx ?_ | exact zD)
def conB (p : PA) : Bool := s0B p.vr && !(p.es.any eo3)
theorem eo5 (p : PA) : Ev E 32 [dc3 p] (.d (.bool (conB p))) := by
 have h1 := df0 99 b99 eo3 p.es fun e _ => eo4 e
 unfold conB;obtain ⟨b, hb⟩ : ∃ b, p.es.any eo3 = b := ⟨_, rfl⟩;rw [hb] at h1 ⊢;clear hb;obtain ⟨vr, ns, es⟩ := p;dsimp only at *
 cases c1 : s0B vr with
 | true =>
  have c2 : (vr.toList == (⟨#[]⟩ : ByteArray).toList) = true := c1;refine ye1 func32 ntmps32 fun _ _ _=>?_
  repeat' (first | refine yz ?_ | refine yp b87 h1 ?_ | refine yx ?_ | exact zD)
 | false =>
  have c2 : (vr.toList == (⟨#[]⟩ : ByteArray).toList) = false := c1;refine ye1 func32 ntmps32 fun _ _ _=>?_
  repeat' (first | refine yz ?_ | refine yx ?_ | exact zD)
open Go.Proofs
attribute [local irreducible] PGo bp9
def sA : ByteArray := ⟨#[97]⟩
def sB : ByteArray := ⟨#[98]⟩
def lA : ByteArray := ⟨#[65]⟩
def tT : ByteArray := ⟨#[84]⟩
def nE : ByteArray := ⟨#[]⟩
def np1 : NP := ⟨sA, [lA], []⟩
def np2 : NP := ⟨sB, [], []⟩
def ep1 : EP := ⟨nE, [tT], 1, 0, 0, 0, []⟩
def pa1 : PA := ⟨nE, [np1, np2], [ep1]⟩
def v0x : V := .mk 0 0 0 ⟨#[]⟩ []
def at1 : AT := ⟨1, [0], lA, [], v0x⟩
def at2 : AT := ⟨3, [0, 1, 2], nE, [tT], v0x⟩
def vs3 : List D := [.str sA, .str (unN 0), .str sB]
theorem ix1 : Ev E 180 [.sl [], .str sA] (.d (.int (-1))) := en4 [] sA
theorem ix3 : Ev E 180 [.sl [.str sA, .str (unN 0)], .str sB] (.d (.int (-1))) := by
 have h := en4 [sA, unN 0] sB;rwa [show ixI (ixT [sA, unN 0] sB) = -1 by decide +kernel] at h
theorem va1 : EvS E 100 [.ptr 0 0, .d (.str sA)] [bld .nilS .nilS .nilS 0, .dead, .dead, .dead] (.d (.int 0)) [bld (.own 4) .nilS .nilS 0, .dead, .dead, .dead, en6 [.str sA]] :=
 en8 [] [] [] 0 sA (by decide +kernel) ix1 (by simp)
theorem va2 : EvS E 100 [.ptr 0 0, .d (.str nE)] [bld (.own 1) .nilS .nilS 0, en6 [.str sA], .dead, .dead] (.d (.int 1)) [bld (.own 4) .nilS .nilS 1, .dead, .dead, .dead, en6 [.str sA, .str (unN 0)]] :=
 en7 [.str sA] [] [] 0 (by simp) (by omega)
theorem va3 : EvS E 100 [.ptr 0 0, .d (.str sB)] [bld (.own 1) .nilS .nilS 1, en6 [.str sA, .str (unN 0)], .dead, .dead] (.d (.int 2)) [bld (.own 4) .nilS .nilS 1, .dead, .dead, .dead, en6 vs3] :=
 en8 [.str sA, .str (unN 0)] [] [] 1 sB (by decide +kernel) ix3 (by simp)
theorem atm1 : EvS E 103 [.ptr 0 0, .d (di7 at1)] [bld (.own 1) .nilS .nilS 1, en6 vs3, .dead, .dead] (.tup []) [bld (.own 1) (.own 4) .nilS 1, en6 vs3, .dead, .dead, en9 [di7 at1]] :=
 eo0 vs3 [] [] 1 at1 (by simp)
theorem atm2 : EvS E 103 [.ptr 0 0, .d (di7 at2)] [bld (.own 1) (.own 2) .nilS 1, en6 vs3, en9 [di7 at1], .dead] (.tup []) [bld (.own 1) (.own 4) .nilS 1, en6 vs3, .dead, .dead, en9 [di7 at1, di7 at2]] :=
 eo0 vs3 [di7 at1] [] 1 at2 (by simp)
abbrev oNX (n : NP) : aa5 := .var 76 (.w (.d (dc1 n)))
abbrev oPX (p : PA) : aa5 := .var 73 (.w (.d (dc3 p)))
abbrev rI (l : List Int) : aa5 := .row 3 1 (iL l)
def oN : Nat → List aa5
 | 0 => [bld (.own 1) .nilS .nilS 1, en6 vs3, .dead, .dead, oNX np1]
 | _ => [bld (.own 1) (.own 5) .nilS 1, en6 vs3, .dead, .dead, oNX np1, en9 [di7 at1]]
theorem eo6 : EvS E 101 [.ptr 0 0, .d (.int 0), .d (dc1 np1), .d (.bool false)] [bld (.own 1) .nilS .nilS 1, en6 vs3, .dead, .dead] (.tup []) [bld (.own 1) (.own 4) .nilS 1, en6 vs3, .dead, .dead, en9 [di7 at1]] := by
 have h := atm1;refine yn func101 ntmps101 fun _ _ _ _=>?_
 repeat' (refine yz ?_)
 refine ac7 (α := Fin 2) (fun p => ⟨[(0, .ptr 0 0), (1, .d (.int 0)), (6, .ptr 4 0), (31, .d (.sl ([lA].map .str))), (32, .d (.int ([lA].map D.str).length)), (33, .d (.int (p.val : Nat)))], oN p.val⟩) (fun p => 1 - p.val) ⟨0, by omega⟩ (zle 5) ?_;rintro ⟨i, hi⟩
 match i, hi with
 | 0, _ =>
  have hx : ([lA].map D.str)[(((0 : Nat) : Int)).toNat]? = some (.str lA) := rfl;dsimp only [oN]
  repeat' (first | refine yz ?_ | refine yi (.str lA) hx ?_ | refine yc [0,1,2,3] b103 (h) ?_)
  refine ac1 ?_;exact ⟨⟨1, by omega⟩, by show 1 - 1 < 1 - 0; omega, (zle 6)⟩
 | 1, _ =>
  dsimp only [oN]
  repeat' (refine yz ?_)
  refine ac7 (α := Unit) (fun p => ⟨[(46, .d (.int (([] : List PP).map dc0).length)), (47, .d (.int 0))], [bld (.own 1) (.own 5) .nilS 1, en6 vs3, .dead, .dead, oNX np1, en9 [di7 at1]]⟩) (fun p => 0) () (zle 6) ?_;rintro -
  repeat' (first | refine yz ?_ | refine yo [0, 1, 2, 3, 5])
theorem eo7 : EvS E 101 [.ptr 0 0, .d (.int 2), .d (dc1 np2), .d (.bool false)] [bld (.own 1) (.own 2) .nilS 1, en6 vs3, en9 [di7 at1], .dead] (.tup []) [bld (.own 1) (.own 2) .nilS 1, en6 vs3, en9 [di7 at1], .dead] := by
 refine yn func101 ntmps101 fun _ _ _ _=>?_
 repeat' (refine yz ?_)
 refine ac7 (α := Unit) (fun p => ⟨[(6, .ptr 4 0), (32, .d (.int (([] : List ByteArray).map D.str).length)), (33, .d (.int 0))], [bld (.own 1) (.own 2) .nilS 1, en6 vs3, en9 [di7 at1], .dead, oNX np2]⟩) (fun p => 0) () (zle 5) ?_;rintro -
 repeat' (refine yz ?_)
 refine ac7 (α := Unit) (fun p => ⟨[(46, .d (.int (([] : List PP).map dc0).length)), (47, .d (.int 0))], [bld (.own 1) (.own 2) .nilS 1, en6 vs3, en9 [di7 at1], .dead]⟩) (fun p => 0) () (zle 4) ?_;rintro -
 repeat' (first | refine yz ?_ | refine yo [0, 1, 2, 3])
def oP1 : Nat → List aa5
 | 0 => [bld .nilS .nilS .nilS 0, .dead, .dead, .dead, oPX pa1, rI [0, 0], rI [0]]
 | 1 => [bld (.own 7) .nilS .nilS 1, .dead, .dead, .dead, oPX pa1, rI [0, 0], rI [1], en6 [.str sA, .str (unN 0)]]
 | _ => [bld (.own 7) .nilS .nilS 1, .dead, .dead, .dead, oPX pa1, rI [0, 2], rI [1], en6 vs3]
def oP2 : Nat → List aa5
 | 0 => [bld (.own 7) .nilS .nilS 1, .dead, .dead, .dead, oPX pa1, rI [0, 2], rI [1], en6 vs3]
 | _ => [bld (.own 7) (.own 8) .nilS 1, .dead, .dead, .dead, oPX pa1, rI [0, 2], rI [1], en6 vs3, en9 [di7 at1]]
def oP3 : Nat → List aa5
 | 0 => [bld (.own 7) (.own 8) .nilS 1, .dead, .dead, .dead, oPX pa1, rI [0, 2], rI [1], en6 vs3, en9 [di7 at1]]
 | _ => [bld (.own 7) (.own 8) .nilS 1, .dead, .dead, .dead, oPX pa1, rI [0, 2], rI [1], en6 vs3, en9 [di7 at1, di7 at2]]
set_option maxRecDepth 20000 in
set_option maxHeartbeats 4000000 in
theorem eo8 : EvS E 33 [.ptr 0 0, .d (dc3 pa1)] [bld .nilS .nilS .nilS 0, .dead, .dead, .dead] (.tup []) [bld (.own 4) (.own 5) .nilS 1, .dead, .dead, .dead, en6 vs3, en9 [di7 at1, di7 at2]] := by
 have h1 := va1;have h2 := va2;have h3 := va3;have h4 := eo6;have h5 := eo7;have h6 := atm2;have hn0 : ([np1, np2].map dc1)[(((0 : Nat) : Int)).toNat]? = some (dc1 np1) := rfl;have hn1 : ([np1, np2].map dc1)[(((1 : Nat) : Int)).toNat]? = some (dc1 np2) := rfl;have hcl : Ev E 104 [.sl (ep1.ty.map .str)] (.d (.sl (ep1.ty.map .str))) := cz7 [tT] (by decide);have he0 : ([ep1].map dc2)[(((0 : Nat) : Int)).toNat]? = some (dc2 ep1) := rfl;refine yn func33 ntmps33 fun _ _ _ _=>?_
 repeat' (first | refine qRM 1 [3,7] ?_ | refine rmN ⟨rfl, ?_⟩ | refine rmM (.inr rfl) ?_ | refine rmV rfl ?_ (by first | exact True.intro | rfl | assumption | omega | (simp only [inR]; omega) | ((show _ ≤ (9223372036854775807 : Nat)); (try simp only [ByteArray.size_append]); omega) | exact av2 (by omega) (by omega) | exact av3 (by omega) (by omega) | exact ⟨rfl, by decide, by decide⟩) | (refine rmMk ?_ ?_ ?_; rotate_left; (first | decide | omega); (first | decide | omega)) | refine yz ?_)
 refine ac7 (α := Fin 3) (fun p => ⟨[(0, .ptr 0 0), (3, .ptr 4 0), (4, .own 5), (5, .own 6), (25, .d (.sl ([np1, np2].map dc1))), (26, .d (.int ([np1, np2].map dc1).length)), (27, .d (.int (p.val : Nat)))], oP1 p.val⟩) (fun p => 2 - p.val) ⟨0, by omega⟩ (zle 7) ?_;rintro ⟨i, hi⟩
 match i, hi with
 | 0, _ =>
  dsimp only [oP1]
  repeat' (first | refine yz ?_ | (refine qS rfl ?_ ?_; exact ⟨by decide, by decide⟩) | refine qZ (.int 0) rfl rfl rfl rfl rfl rfl rfl rfl rfl rfl ?_ | refine yi (dc1 np1) hn0 ?_ | refine yi (dc2 ep1) he0 ?_ | refine yc [0,1,2,3] b100 (h1) ?_ | refine yc [0,8,2,3] b100 (h2) ?_)
  refine ac1 ?_;exact ⟨⟨1, by omega⟩, by show 2 - 1 < 2 - 0; omega, (bi5 [0, 1, 2, 3, 4, 5, 6, 9])⟩
 | 1, _ =>
  dsimp only [oP1]
  repeat' (first | refine yz ?_ | (refine qS rfl ?_ ?_; exact ⟨by decide, by decide⟩) | refine qZ (.int 0) rfl rfl rfl rfl rfl rfl rfl rfl rfl rfl ?_ | refine yi (dc1 np2) hn1 ?_ | refine yc [0,7,2,3] b100 (h3) ?_)
  refine ac1 ?_;exact ⟨⟨2, by omega⟩, by show 2 - 2 < 2 - 1; omega, (bi5 [0, 1, 2, 3, 4, 5, 6, 9])⟩
 | 2, _ =>
  dsimp only [oP1]
  repeat' (refine yz ?_)
  refine ac7 (α := Fin 3) (fun p => ⟨[(0, .ptr 0 0), (3, .ptr 4 0), (4, .own 5), (5, .own 6), (57, .d (.sl ([np1, np2].map dc1))), (58, .d (.int ([np1, np2].map dc1).length)), (59, .d (.int (p.val : Nat)))], oP2 p.val⟩) (fun p => 2 - p.val) ⟨0, by omega⟩ (zle 8) ?_;rintro ⟨i, hi⟩
  match i, hi with
  | 0, _ =>
   dsimp only [oP2]
   repeat' (first | refine yq 12 [10] ?_ | refine yf 12 0 10 ?_ | refine rgN ?_ | refine yz ?_ | (refine qS rfl ?_ ?_; exact ⟨by decide, by decide⟩) | refine qW (.int 0) rfl rfl rfl rfl rfl rfl rfl rfl ?_ | refine yi (dc1 np1) hn0 ?_ | refine yi (dc2 ep1) he0 ?_ | refine bi0 [0,7,2,3] (id := 12) (i := 10) rfl rfl rfl rfl rfl (FnX.plain _) b101 (h4) rfl rfl rfl rfl rfl (by repeat (first | exact trivial | refine ⟨⟨rfl, rfl⟩, ?_⟩ | refine ⟨trivial, ?_⟩)) ?_)
   refine ac7 (α := Unit) (fun _ => ⟨[(0, .ptr 0 0), (3, .ptr 4 0), (4, .own 5), (5, .own 6), (57, .d (.sl ([np1, np2].map dc1))), (58, .d (.int ([np1, np2].map dc1).length)), (59, .d (.int 0)), (86, .d (.int (([] : List PP).map dc0).length)), (87, .d (.int 0))], oP2 1⟩) (fun _ => 0) () (bi5 [0, 1, 2, 3, 4, 5, 6, 7, 9]) ?_;rintro -;dsimp only [oP2]
   repeat' (refine yz ?_)
   refine ac1 ?_;exact ⟨⟨1, by omega⟩, by show 2 - 1 < 2 - 0; omega, (zle 9)⟩
  | 1, _ =>
   dsimp only [oP2]
   repeat' (first | refine yq 12 [10] ?_ | refine yf 12 0 10 ?_ | refine rgN ?_ | refine yz ?_ | (refine qS rfl ?_ ?_; exact ⟨by decide, by decide⟩) | refine qW (.int 2) rfl rfl rfl rfl rfl rfl rfl rfl ?_ | refine yi (dc1 np2) hn1 ?_ | refine bi0 [0,7,8,3] (id := 12) (i := 10) rfl rfl rfl rfl rfl (FnX.plain _) b101 (h5) rfl rfl rfl rfl rfl (by repeat (first | exact trivial | refine ⟨⟨rfl, rfl⟩, ?_⟩ | refine ⟨trivial, ?_⟩)) ?_)
   refine ac1 ?_;exact ⟨⟨2, by omega⟩, by show 2 - 2 < 2 - 1; omega, (bi5 [0, 1, 2, 3, 4, 5, 6, 7, 8])⟩
  | 2, _ =>
   dsimp only [oP2]
   repeat' (refine yz ?_)
   refine ac7 (α := Fin 2) (fun p => ⟨[(0, .ptr 0 0), (3, .ptr 4 0), (4, .own 5), (5, .own 6), (101, .d (.sl ([ep1].map dc2))), (102, .d (.int ([ep1].map dc2).length)), (103, .d (.int (p.val : Nat)))], oP3 p.val⟩) (fun p => 1 - p.val) ⟨0, by omega⟩ (zle 9) ?_;rintro ⟨i, hi⟩
   match i, hi with
   | 0, _ =>
    dsimp only [oP3]
    repeat' (first | refine yq 26 [12] ?_ | refine yf 26 0 12 ?_ | refine rgN ?_ | refine yz ?_ | (refine qS rfl ?_ ?_; exact ⟨by decide, by decide⟩) | refine qW (.int 0) rfl rfl rfl rfl rfl rfl rfl rfl ?_ | refine qW (.int 1) rfl rfl rfl rfl rfl rfl rfl rfl ?_ | refine qW (.int 2) rfl rfl rfl rfl rfl rfl rfl rfl ?_ | refine yi (dc2 ep1) he0 ?_ | refine yp b104 hcl ?_ | refine bi0 [0,7,8,3] (id := 26) (i := 12) rfl rfl rfl rfl rfl (FnX.plain _) b103 (h6) rfl rfl rfl rfl rfl (by repeat (first | exact trivial | refine ⟨⟨rfl, rfl⟩, ?_⟩ | refine ⟨trivial, ?_⟩)) ?_)
    refine ac1 ?_;exact ⟨⟨1, by omega⟩, by show 1 - 1 < 1 - 0; omega, (bi5 [0, 1, 2, 3, 4, 5, 6, 7, 10])⟩
   | 1, _ =>
    dsimp only [oP3]
    repeat' (first | refine yz ?_ | refine yo [0, 1, 2, 3, 7, 8])
attribute [local irreducible] cm6
def cj1 : CJ := ⟨[sA, unN 0, sB], [at1, at2]⟩
theorem cp1 : Ev E 31 [dc3 pa1, .bool false] (.d (.int 0)) := by
 have h := dh5 pa1 false ⟨by decide, by decide +kernel, fun e he => by (rw [show dd6 (dd2 pa1.ns pa1.es) = [] by decide +kernel] at he; cases he)⟩;rwa [show dd7 pa1 false = 0 by decide +kernel] at h
theorem cn1 : Ev E 32 [dc3 pa1] (.d (.bool true)) := by
 have h := eo5 pa1;rwa [show conB pa1 = true by decide +kernel] at h
abbrev rsC : aa5 := .var 28 (.cs [.nilS, .nilS])
def oO : Nat → List aa5
 | 0 => [rsC, bld .nilS .nilS .nilS 0, .dead, .dead, .dead]
 | _ => [rsC, bld (.own 5) (.own 6) .nilS 1, .dead, .dead, .dead, en6 vs3, en9 [di7 at1, di7 at2]]
set_option maxRecDepth 20000 in
set_option maxHeartbeats 4000000 in
theorem eo9 : Ev E 9 [.sl [dc3 pa1]] (.tup [di8 cj1, .sl [], .sl []]) := by
 have h1 := cp1;have h2 := cn1;have h3 := eo8;refine ye1 func9 ntmps9 fun _ _ _=>?_
 repeat' (refine yz ?_)
 refine ac7 (α := Fin 2) (fun p => ⟨[(0, .d (.sl [dc3 pa1])), (2, .ptr 0 0), (3, .nilS), (4, .nilS), (5, .ptr 1 0), (6, .nilS), (11, .d (.sl [dc3 pa1])), (12, .d (.int ([dc3 pa1] : List D).length)), (13, .d (.int (p.val : Nat)))], [rsC, bld .nilS .nilS (.nilS) 0]⟩) (fun p => 1 - p.val) ⟨0, by omega⟩ (zle 2) ?_;rintro ⟨i, hi⟩
 match i, hi with
 | 0, _ =>
  have hx : ([dc3 pa1] : List D)[(((0 : Nat) : Int)).toNat]? = some (dc3 pa1) := rfl
  repeat' (first | refine yz ?_ | refine yi (dc3 pa1) hx ?_ | refine yp b31 h1 ?_)
  refine ac1 ?_;exact ⟨⟨1, by omega⟩, by show 1 - 1 < 1 - 0; omega, (zle 2)⟩
 | 1, _ =>
  repeat' (refine yz ?_)
  refine bn4 ?_;refine bn4 ?_;refine bn4 ?_;refine ac7 (α := Fin 2) (fun p => ⟨[(2, .ptr 0 0), (5, .ptr 1 0), (6, .nilS), (22, .d (.sl [dc3 pa1])), (23, .d (.int ([dc3 pa1] : List D).length)), (24, .d (.int (p.val : Nat)))], oO p.val⟩) (fun p => 1 - p.val) ⟨0, by omega⟩ (zle 5) ?_;rintro ⟨i, hi⟩
  match i, hi with
  | 0, _ =>
   have hx : ([dc3 pa1] : List D)[(((0 : Nat) : Int)).toNat]? = some (dc3 pa1) := rfl;dsimp only [oO]
   repeat' (first | refine yz ?_ | refine yi (dc3 pa1) hx ?_ | refine yp b32 h2 ?_ | refine yc [1,2,3,4] b33 (h3) ?_)
   refine ac1 ?_;exact ⟨⟨1, by omega⟩, by show 1 - 1 < 1 - 0; omega, (bi5 [0, 1, 2, 3, 4, 6, 7])⟩
  | 1, _ =>
   dsimp only [oO];refine au8 5 rfl ?_;refine au8 6 rfl ?_
   repeat' (first | refine yu 16 [5] [0] ?_ | refine yf 16 0 2 ?_ | refine yk 16 2 3 ?_ | refine yw ?_ | refine yf 16 6 2 ?_ | refine rgN ?_ | refine yv ?_ | refine yz ?_)
   exact ret3 rfl rfl rfl rfl rfl
def s1x : ByteArray := ⟨#[95, 49]⟩
def cj2 : CJ := ⟨[sA, s1x, sB], [at1, at2]⟩
theorem cj12 : cj1 = cj2 := by
 unfold cj1 cj2;rw [show unN 0 = s1x by decide +kernel]
theorem ep0 : Ev E 11 [di8 cj1, di8 cj2] (.d (.bool true)) := by
 have : ∀ c, c = cj1 → Ev E 11 [di8 cj1, di8 c] (.d (.bool true)) := fun c h => h ▸ eo2 cj1 (by
  intro a ha;rcases fa6.1 ha with rfl | ha
  ·exact ⟨by decide +kernel, by decide⟩
  ·obtain rfl := fa0.1 ha;exact ⟨by decide +kernel, by decide⟩)
 exact this cj2 cj12.symm
theorem chk1 : Ev E 30 [di8 cj1] (.d (.int 0)) := by
 have h := dt7 cj1;rwa [show ds5 cj1 = 0 by rw [cj12]; decide +kernel] at h
set_option maxRecDepth 20000 in
set_option maxHeartbeats 4000000 in
theorem ep2 : Ev E 8 [] (.d (.bool true)) := by
 have h1 := eo9;have h2 := ep0;have h3 := chk1;refine ap5 func8 ntmps8 rfl rfl fun w0 F0 O => ?_
 repeat' (first | refine yz ?_ | refine yp b9 h1 ?_ | refine yp b11 h2 ?_ | refine yp b30 h3 ?_ | exact zD)
end Go.Proofs.YtenpjlghikohmaaGreatDoor
namespace Go.Proofs.YtenpjlghikohmaaGreatDoor
set_option maxRecDepth 4000
open Go Go.Abs Go.Val Go.RowKit Go.ChangeShapes Go.WideShapes Go.Proofs.Tryz
theorem ty_V : ∀ {t : TypeId} {x : D}, az6 Tryz.prog t x → (t = 56 → ∃ v, x = enc v) ∧ (t = 54 → ∃ l, x = .sl (br5 l)) := by
 intro t x h
 induction h with
 | bool b h => exact ⟨fun e => (by subst e; rw [underlying56] at h; cases h), fun e => (by subst e; rw [underlying54] at h; cases h)⟩
 | int n h => exact ⟨fun e => (by subst e; rw [underlying56] at h; cases h), fun e => (by subst e; rw [underlying54] at h; cases h)⟩
 | str s h => exact ⟨fun e => (by subst e; rw [underlying56] at h; cases h), fun e => (by subst e; rw [underlying54] at h; cases h)⟩
 | arr ps h _ _ => exact ⟨fun e => (by subst e; rw [underlying56] at h; cases h), fun e => (by subst e; rw [underlying54] at h; cases h)⟩
 | sl xs h hx ih =>
  refine ⟨fun e => (by subst e; rw [underlying56] at h; cases h), fun e => ?_⟩;subst e;rw [underlying54] at h
  cases h
  have : ∀ ys : List D, (∀ y ∈ ys, ∃ v, y = enc v) → ∃ l, ys = br5 l := by
   intro ys
   induction ys with
   | nil => exact fun _ => ⟨[], by simp [br5]⟩
   | cons y r ihr =>
    intro hy;obtain ⟨v, rfl⟩ := hy y (by simp);obtain ⟨l, rfl⟩ := ihr fun z hz => hy z (by simp [hz])
    exact ⟨v :: l, by simp [br5, enc]⟩
  obtain ⟨l, rfl⟩ := this xs fun y hy => (ih y hy).1 rfl
  exact ⟨l, rfl⟩
 | struct parts h hl hp ih =>
  refine ⟨fun e => ?_, fun e => (by subst e; rw [underlying54] at h; cases h)⟩;subst e;rw [underlying56] at h
  cases h
  match parts, hl with
  | [p0, p1, p2, p3, p4], _ =>
   obtain ⟨k, rfl⟩ := az6.int_inv underlying3 (hp 0 _ p0 rfl rfl);obtain ⟨n, rfl⟩ := az6.int_inv underlying3 (hp 1 _ p1 rfl rfl);obtain ⟨d, rfl⟩ := az6.int_inv underlying3 (hp 2 _ p2 rfl rfl);obtain ⟨s, rfl⟩ := az6.str_inv underlying9 (hp 3 _ p3 rfl rfl);obtain ⟨l, rfl⟩ := (ih 4 _ p4 rfl rfl).2 rfl;exact ⟨.mk k n d s l, rfl⟩
theorem ep3 {x : D} (h : az6 Tryz.prog 56 x) : ∃ v, x = enc v := (ty_V h).1 rfl
theorem ep4 {α : Type} {f : α → D} : ∀ ys : List D, (∀ y ∈ ys, ∃ v, y = f v) → ∃ l : List α, ys = l.map f
 | [], _ => ⟨[], rfl⟩
 | y :: r, hy => by
  obtain ⟨v, rfl⟩ := hy y (by simp);obtain ⟨l, rfl⟩ := ep4 r fun z hz => hy z (by simp [hz])
  exact ⟨v :: l, rfl⟩
theorem ep5 {x : D} (h : az6 Tryz.prog 25 x) : ∃ l : List ByteArray, x = .sl (l.map .str) := by
 obtain ⟨xs, rfl, hx⟩ := az6.sl_inv underlying25 h;obtain ⟨l, rfl⟩ := ep4 (f := D.str) xs fun y hy => az6.str_inv underlying9 (hx y hy)
 exact ⟨l, rfl⟩
theorem ep6 {x : D} (h : az6 Tryz.prog 46 x) : ∃ l : List Int, x = .sl (iL l) := by
 obtain ⟨xs, rfl, hx⟩ := az6.sl_inv underlying46 h;obtain ⟨l, rfl⟩ := ep4 (f := D.int) xs fun y hy => az6.int_inv underlying3 (hx y hy)
 exact ⟨l, rfl⟩
theorem ep7 {x : D} (h : az6 Tryz.prog 58 x) : ∃ a, x = di7 a := by
 obtain ⟨parts, rfl, hl, hp⟩ := az6.struct_inv underlying58 h
 match parts, hl with
 | [p0, p1, p2, p3, p4], _ =>
  obtain ⟨k, rfl⟩ := az6.int_inv underlying3 (hp 0 _ p0 rfl rfl);obtain ⟨vs, rfl⟩ := ep6 (hp 1 _ p1 rfl rfl);obtain ⟨s, rfl⟩ := az6.str_inv underlying9 (hp 2 _ p2 rfl rfl);obtain ⟨ty, rfl⟩ := ep5 (hp 3 _ p3 rfl rfl);obtain ⟨v, rfl⟩ := ep3 (hp 4 _ p4 rfl rfl);obtain ⟨vk, vn, vd, vs', vl⟩ := v;exact ⟨⟨k, vs, s, ty, .mk vk vn vd vs' vl⟩, rfl⟩
theorem ep8 {x : D} (h : az6 Tryz.prog 26 x) : ∃ l : List AT, x = .sl (l.map di7) := by
 obtain ⟨xs, rfl, hx⟩ := az6.sl_inv underlying26 h;obtain ⟨l, rfl⟩ := ep4 (f := di7) xs fun y hy => ep7 (hx y hy)
 exact ⟨l, rfl⟩
theorem ty_CJ {x : D} (h : az6 Tryz.prog 28 x) : ∃ c, x = di8 c := by
 obtain ⟨parts, rfl, hl, hp⟩ := az6.struct_inv underlying28 h
 match parts, hl with
 | [p0, p1], _ =>
  obtain ⟨vs, rfl⟩ := ep5 (hp 0 _ p0 rfl rfl);obtain ⟨ats, rfl⟩ := ep8 (hp 1 _ p1 rfl rfl);exact ⟨⟨vs, ats⟩, rfl⟩
def tys : List TypeId := [3, 9, 46, 25, 54, 56, 58, 26, 28, 236]
theorem ep9 : az9 Tryz.prog tys = true := by kernel_rfl
noncomputable def eq0 : List (String × DataW Unit) := Rows.atomsOfRow.laid
theorem gi_of {W : World} (hL : laidMetH Tryz.prog eq0 W) (hS : W.ShapedOpen Tryz.prog) : E.GI W (F0 W) := by
 rw [MakeChecks.laidMetH_plain _ _ _ (by kernel_rfl)] at hL;obtain ⟨ps, hLV, -⟩ := hL
 have hlt : ∀ {g : Nat} {v : Value}, W.cell? ⟨g, 0, none⟩ = some v → F0 W g := fun {g v} h => by
  unfold F0;rcases ez6 g W.heap.size with h' | h'
  ·exact h'
  ·unfold World.cell? at h;simp only at h;rw [fl0 h'] at h
   cases h
 refine ⟨fun e he => ?_, ⟨?_, ?_⟩, ?_, ?_⟩
 ·simp only [E, bu0, fa0] at he;subst he;obtain ⟨x, hm, hs⟩ := ba4 tys ep9 hLV "graphdb/frac.zero" Rows.laid_graphdb_frac_zero 0 236 (by simp [eq0, Rows.atomsOfRow]) (by kernel_rfl) (by kernel_rfl) (by decide);obtain ⟨parts, rfl, hl, hp⟩ := az7.agg_inv hs
  match parts, hl with
  | [p0, p1], _ =>
   have e0 := az7.int_inv (hp 0 _ p0 rfl rfl);have e1 := az7.int_inv (hp 1 _ p1 rfl rfl);subst e0 e1;exact hm
 ·have ht : Lib.TabIs Tryz.prog W "internal/strconv.uint64pow10" .u64 Lib.pow10Tab :=
   ba8 hLV "internal/strconv.uint64pow10" .u64 Lib.pow10Tab 2 373 277 20 (by
    have : (Lib.tabData .u64 Lib.pow10Tab : DataW Unit) = Rows.laid_internal_strconv_uint64pow10 := by rfl
    rw [this];simp [eq0, Rows.atomsOfRow]) (by kernel_rfl) (by kernel_rfl) underlying373 underlying277 (by kernel_rfl) (by kernel_rfl)
  unfold Lib.TabIs World.var? at ht;have hg : Tryz.prog.globalNamed "internal/strconv.uint64pow10" = some 2 := by kernel_rfl
  rw [hg] at ht;simp only [Option.bind_some] at ht;unfold F0;rcases ez6 2 W.heap.size with h | h
  ·exact h
  ·rw [fl0 h] at ht; cases ht
 ·exact ba8 hLV "internal/strconv.uint64pow10" .u64 Lib.pow10Tab 2 373 277 20 (by
    have : (Lib.tabData .u64 Lib.pow10Tab : DataW Unit) = Rows.laid_internal_strconv_uint64pow10 := by rfl
    rw [this];simp [eq0, Rows.atomsOfRow]) (by kernel_rfl) (by kernel_rfl) underlying373 underlying277 (by kernel_rfl) (by kernel_rfl)
 ·obtain ⟨m, hm⟩ := cell_of_shapedOpen_int (P := Tryz.prog) (g := 1) (t := 3) (zero := #[.int .i64 0]) hS (by decide +kernel) (by kernel_rfl) (by decide) (by kernel_rfl) (by kernel_rfl) underlying3;exact hlt hm
 ·exact cell_of_shapedOpen_int (P := Tryz.prog) (g := 1) (t := 3) (zero := #[.int .i64 0]) hS (by decide +kernel) (by kernel_rfl) (by decide) (by kernel_rfl) (by kernel_rfl) underlying3
noncomputable def wit (os : Os) : World := World.doorLaid Tryz.prog 400 os
set_option maxRecDepth 100000 in
theorem eq1 (os : Os) (args : Array Value) : laidMetH Tryz.prog eq0 ((wit os).forCall (fun _ _ => 0) ⟨#[], args, []⟩).memory :=
 laidMetH_of_parts3 (fuel := 8) (laidMet_of_run' 8 (by kernel_rfl) (by kernel_rfl)) (by kernel_rfl) (by kernel_rfl)
set_option maxRecDepth 100000 in
theorem eq2 (os : Os) (args : Array Value) : ((wit os).forCall (fun _ _ => 0) ⟨#[], args, []⟩).Shaped Tryz.prog := World.shaped_of_RefB (by kernel_rfl) (by kernel_rfl)
theorem eq3 : ownKnob Tryz.prog.godebug = none := by kernel_rfl
theorem eq4 : laidOutB Tryz.prog = true := by kernel_rfl
theorem eq5 {α : Type} {f : α → D} : ∀ {ys : List D}, (∀ y ∈ ys, ∃ v, y = f v) → ∃ l : List α, ys = l.map f
 | [], _ => ⟨[], rfl⟩
 | y :: r, h => by
  obtain ⟨v, hv⟩ := h y (by simp);obtain ⟨l, hl⟩ := eq5 (ys := r) fun z hz => h z (by simp [hz])
  exact ⟨v :: l, by rw [hv, hl]; rfl⟩
theorem ty_pr {x : D} (h : az6 Tryz.prog 210 x) : ∃ p, x = cx9 p := by
 obtain ⟨parts, rfl, hl, hp⟩ := az6.struct_inv underlying210 h
 match parts, hl with
 | [p0, p1], _ =>
  obtain ⟨k, rfl⟩ := az6.str_inv underlying9 (hp 0 _ p0 rfl rfl);obtain ⟨v, rfl⟩ := ep3 (hp 1 _ p1 rfl rfl);exact ⟨⟨k, v⟩, rfl⟩
theorem eq6 {x : D} (h : az6 Tryz.prog 102 x) : ∃ l : List Pr, x = .sl (l.map cx9) := by
 obtain ⟨xs, rfl, hx⟩ := az6.sl_inv underlying102 h;obtain ⟨l, rfl⟩ := eq5 (f := cx9) fun y hy => ty_pr (hx y hy)
 exact ⟨l, rfl⟩
theorem eq7 {x : D} (h : az6 Tryz.prog 104 x) : ∃ p, x = cy0 p := by
 obtain ⟨parts, rfl, hl, hp⟩ := az6.struct_inv underlying104 h
 match parts, hl with
 | [p0, p1, p2], _ =>
  obtain ⟨k, rfl⟩ := az6.int_inv underlying3 (hp 0 _ p0 rfl rfl);obtain ⟨l, rfl⟩ := ep5 (hp 1 _ p1 rfl rfl);obtain ⟨v, rfl⟩ := eq6 (hp 2 _ p2 rfl rfl);exact ⟨⟨k, l, v⟩, rfl⟩
theorem eq8 {x : D} (h : az6 Tryz.prog 109 x) : ∃ p, x = cy1 p := by
 obtain ⟨parts, rfl, hl, hp⟩ := az6.struct_inv underlying109 h
 match parts, hl with
 | [p0, p1, p2, p3, p4], _ =>
  obtain ⟨k, rfl⟩ := az6.int_inv underlying3 (hp 0 _ p0 rfl rfl);obtain ⟨m, rfl⟩ := az6.int_inv underlying3 (hp 1 _ p1 rfl rfl);obtain ⟨n, rfl⟩ := az6.int_inv underlying3 (hp 2 _ p2 rfl rfl);obtain ⟨s, rfl⟩ := az6.str_inv underlying9 (hp 3 _ p3 rfl rfl);obtain ⟨v, rfl⟩ := eq6 (hp 4 _ p4 rfl rfl);exact ⟨⟨k, m, n, s, v⟩, rfl⟩
theorem ty_GR {x : D} (h : az6 Tryz.prog 38 x) : ∃ p, x = cy2 p := by
 obtain ⟨parts, rfl, hl, hp⟩ := az6.struct_inv underlying38 h
 match parts, hl with
 | [p0, p1, p2, p3], _ =>
  obtain ⟨xs, rfl, hx⟩ := az6.sl_inv underlying35 (hp 0 _ p0 rfl rfl);obtain ⟨l, rfl⟩ := eq5 (f := cy0) fun y hy => eq7 (hx y hy)
  obtain ⟨ys, rfl, hy⟩ := az6.sl_inv underlying36 (hp 1 _ p1 rfl rfl);obtain ⟨m, rfl⟩ := eq5 (f := cy1) fun z hz => eq8 (hy z hz)
  obtain ⟨k, rfl⟩ := az6.int_inv underlying3 (hp 2 _ p2 rfl rfl);obtain ⟨n, rfl⟩ := az6.int_inv underlying3 (hp 3 _ p3 rfl rfl);exact ⟨⟨l, m, k, n⟩, rfl⟩
def tysX : List TypeId := [3, 9, 46, 25, 54, 56, 58, 26, 28, 210, 102, 104, 35, 109, 36, 38, 236]
theorem eq9 : az9 Tryz.prog tysX = true := by kernel_rfl
end Go.Proofs.YtenpjlghikohmaaGreatDoor
