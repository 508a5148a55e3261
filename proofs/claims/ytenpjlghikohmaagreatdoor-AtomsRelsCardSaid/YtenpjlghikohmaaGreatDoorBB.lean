/- Conjunctive queries compared with themselves, by the specification; Which properties and which path patterns become atoms, by both texts; The chapter's example, translated: the builder at the path pattern (a:A)-[:T]->(b); The chapter's example holds: the translation of one path pattern, compared and checked; From rows' readings to conjunctive queries; the listed variables as the engine wants them; a world for the witnesses (chapter 28); From rows' readings to graphs, in the seat of chapter 28. Conditions: each part's own, as it says. -/
import Derived.Test.YtenpjlghikohmaaGreatDoorZA
import Derived.Test.YtenpjlghikohmaaGreatDoorMB
import Derived.Test.YtenpjlghikohmaaGreatDoorLD
import Derived.Test.YtenpjlghikohmaaGreatDoorCA
import Derived.Test.YtenpjlghikohmaaGreatDoorMA
import Derived.Test.YtenpjlghikohmaaGreatDoorGC
import Derived.Test.YtenpjlghikohmaaGreatDoorBA
import Derived.Test.YtenpjlghikohmaaGreatDoorGG
import Derived.Test.YtenpjlghikohmaaGreatDoorLA
import Derived.Test.YtenpjlghikohmaaGreatDoorGB
import Derived.Test.YtenpjlghikohmaaGreatDoorRows
import Derived.Test.YtenpjlghikohmaaGreatDoorTie
import Derived.ProofKit
set_option linter.unusedVariables false
set_option linter.unusedSimpArgs false
namespace Go.Proofs.YtenpjlghikohmaaGreatDoor
set_option maxRecDepth 4000
open Go Go.Abs Go.Val Go.RowKit Go.Proofs Go.Proofs.Tryz
attribute [local irreducible] go SGo HasBody Ev ExtEv EvO EvS PGo RGo ordF
structure SSe (n : Nat) where
 i : Nat
 hi : i ≤ n
theorem sameatom_self (a : AT) (h0 : ordF a.v a.v = 0) (hn : a.vs.length ≤ 1000000) : Ev E 38 [encAT a, encAT a] (.d (.bool true)) := Ev.fit fun hfit => by
 have hmax := (fit_map (f := D.str) ((hfit (encAT a) (by simp)).aggs (.sl (a.ty.map D.str)) (by simp [encAT]))).1
 have h1 := rOrder_ev a.v a.v
 rw [h0] at h1
 have h2 := cmp_self a.vs hn
 have hle : (a.ty.map D.str).length = a.ty.length := by simp
 clear h0 hn hfit
 obtain ⟨k, vs, nm, ty, ⟨vk, vn, vd, vS, vl⟩⟩ := a
 dsimp only at *
 have g1 : (k != k) = false := by simp
 have g2 : (!(nm.toList == nm.toList)) = false := by simp
 have g3 : ((0 : Int) != 0) = false := rfl
 have g4 : (((ty.map D.str).length : Int) != ((ty.map D.str).length : Int)) = false := by simp
 refine ye2 func38 ntmps38 fun _ _ _=>?_
 repeat' (first | refine yz ?_ | refine yp b116 h1 ?_ | refine yp b117 h2 ?_ | refine yx ?_ | (refine yy ?_ ?_ <;> intro _) | exact zD | exact zL)
 refine go_loop_ (α := SSe ty.length) (fun p => ⟨[(2, .ptr 0 0), (3, .ptr 1 0), (5, .d (.int p.i))], [oAT ⟨k, vs, nm, ty, .mk vk vn vd vS vl⟩, oAT ⟨k, vs, nm, ty, .mk vk vn vd vS vl⟩]⟩) (fun p => ty.length - p.i) ⟨0, by omega⟩ (zle 2) ?_
 rintro ⟨i, hi⟩
 dsimp only
 rcases Nat.lt_or_ge i ty.length with hlt | hge
 ·have q1 : decide ((i : Int) < ((ty.map D.str).length : Int)) = true := by rw [hle]; simpa using hlt
  have hx0 := List.getElem?_eq_getElem hlt
  generalize ty[i] = x at hx0
  have hx : (ty.map D.str)[((i : Nat) : Int).toNat]? = some (.str x) := by rw [Int.toNat_natCast, List.getElem?_map, hx0]; rfl
  have q2 : (!(x.toList == x.toList)) = false := by simp
  repeat' (first | refine yz ?_ | refine yi (.str x) hx ?_ | refine yx ?_ | (refine yy ?_ ?_ <;> intro _) | exact zD | exact zL)
  refine go_stop ?_
  exact ⟨⟨i + 1, by omega⟩, by dsimp only; omega, (zle 2)⟩
 ·have q1 : decide ((i : Int) < ((ty.map D.str).length : Int)) = false := by rw [hle]; simp; omega
  repeat' (first | refine yz ?_ | refine yx ?_ | (refine yy ?_ ?_ <;> intro _) | exact zD | exact zL)
theorem same_self (c : CJ) (h : ∀ a ∈ c.as, ordF a.v a.v = 0 ∧ a.vs.length ≤ 1000000) : Ev E 11 [encCJ c, encCJ c] (.d (.bool true)) := Ev.fit fun hfit => by
 obtain ⟨vs, ats⟩ := c
 dsimp only at h
 have m1 := (fit_map (f := D.str) ((hfit (encCJ ⟨vs, ats⟩) (by simp)).aggs (.sl (vs.map D.str)) (by simp [encCJ]))).1
 have m2 := (fit_map (f := encAT) ((hfit (encCJ ⟨vs, ats⟩) (by simp)).aggs (.sl (ats.map encAT)) (by simp [encCJ]))).1
 have l1 : (vs.map D.str).length = vs.length := by simp
 have l2 : (ats.map encAT).length = ats.length := by simp
 have g1 : (((vs.map D.str).length : Int) != ((vs.map D.str).length : Int)) = false := by simp
 have g2 : (((ats.map encAT).length : Int) != ((ats.map encAT).length : Int)) = false := by simp
 refine ye2 func11 ntmps11 fun _ _ _=>?_
 repeat' (first | refine yz ?_ | refine yx ?_ | (refine yy ?_ ?_ <;> intro _) | exact zD | exact zL)
 refine go_loop_ (α := SSe vs.length) (fun p => ⟨[(2, .ptr 0 0), (3, .ptr 1 0), (5, .d (.int p.i))], [oCJ ⟨vs, ats⟩, oCJ ⟨vs, ats⟩]⟩) (fun p => vs.length - p.i) ⟨0, by omega⟩ (zle 2) ?_
 rintro ⟨i, hi⟩
 dsimp only
 rcases Nat.lt_or_ge i vs.length with hlt | hge
 ·have q1 : decide ((i : Int) < ((vs.map D.str).length : Int)) = true := by rw [l1]; simpa using hlt
  have hx0 := List.getElem?_eq_getElem hlt
  generalize vs[i] = x at hx0
  have hx : (vs.map D.str)[((i : Nat) : Int).toNat]? = some (.str x) := by rw [Int.toNat_natCast, List.getElem?_map, hx0]; rfl
  have q2 : (!(x.toList == x.toList)) = false := by simp
  repeat' (first | refine yz ?_ | refine yi (.str x) hx ?_ | refine yx ?_ | (refine yy ?_ ?_ <;> intro _) | exact zD | exact zL)
  refine go_stop ?_
  exact ⟨⟨i + 1, by omega⟩, by dsimp only; omega, (zle 2)⟩
 ·have q1 : decide ((i : Int) < ((vs.map D.str).length : Int)) = false := by rw [l1]; simp; omega
  repeat' (first | refine yz ?_ | refine yx ?_ | (refine yy ?_ ?_ <;> intro _) | exact zD | exact zL)
  refine go_loop_ (α := SSe ats.length) (fun p => ⟨[(2, .ptr 0 0), (3, .ptr 1 0), (6, .d (.int p.i))], [oCJ ⟨vs, ats⟩, oCJ ⟨vs, ats⟩]⟩) (fun p => ats.length - p.i) ⟨0, by omega⟩ (zle 2) ?_
  rintro ⟨j, hj⟩
  dsimp only
  rcases Nat.lt_or_ge j ats.length with hlt2 | hge2
  ·have q3 : decide ((j : Int) < ((ats.map encAT).length : Int)) = true := by rw [l2]; simpa using hlt2
   have hx0 := List.getElem?_eq_getElem hlt2
   generalize ats[j] = x at hx0
   have hx : (ats.map encAT)[((j : Nat) : Int).toNat]? = some (encAT x) := by rw [Int.toNat_natCast, List.getElem?_map, hx0]; rfl
   obtain ⟨a1, a2⟩ := h x (List.mem_of_getElem? hx0)
   have hs := sameatom_self x a1 a2
   repeat' (first | refine yz ?_ | refine yi (encAT x) hx ?_ | refine yp b38 hs ?_ | refine yx ?_ | (refine yy ?_ ?_ <;> intro _) | exact zD | exact zL)
   refine go_stop ?_
   exact ⟨⟨j + 1, by omega⟩, by dsimp only; omega, (zle 2)⟩
  ·have q3 : decide ((j : Int) < ((ats.map encAT).length : Int)) = false := by rw [l2]; simp; omega
   repeat' (first | refine yz ?_ | refine yx ?_ | (refine yy ?_ ?_ <;> intro _) | exact zD | exact zL)
end Go.Proofs.YtenpjlghikohmaaGreatDoor
namespace Go.Proofs.YtenpjlghikohmaaGreatDoor
set_option maxRecDepth 4000
open Go Go.Abs Go.Val Go.RowKit Go.Proofs.Tryz
attribute [local irreducible] go SGo HasBody Ev ExtEv EvO EvS RGo
def offB (e : EP) : Bool := e.mode != 0 || (e.dir != 1 && e.dir != 2)
theorem conj1_ev (e : EP) : Ev E 99 [encEP e] (.d (.bool (offB e))) := by
 unfold offB
 obtain ⟨vr, ty, dir, mode, mn, mx, ps⟩ := e
 dsimp only
 cases c1 : mode != 0 with
 | true =>
  refine ye1 func99 ntmps99 fun _ _ _=>?_
  repeat' (first | refine yz ?_ | refine yx ?_ | (refine yy ?_ ?_ <;> intro _) | exact zD | exact zL)
 | false =>
  cases c2 : dir != 1 with
  | true =>
   cases c3 : dir != 2 with
   | true =>
    refine ye1 func99 ntmps99 fun _ _ _=>?_
    repeat' (first | refine yz ?_ | refine yx ?_ | (refine yy ?_ ?_ <;> intro _) | exact zD | exact zL)
    exact congrArg D.bool c3
   | false =>
    refine ye1 func99 ntmps99 fun _ _ _=>?_
    repeat' (first | refine yz ?_ | refine yx ?_ | (refine yy ?_ ?_ <;> intro _) | exact zD | exact zL)
    exact congrArg D.bool c3
  | false =>
   refine ye1 func99 ntmps99 fun _ _ _=>?_
   repeat' (first | refine yz ?_ | refine yx ?_ | (refine yy ?_ ?_ <;> intro _) | exact zD | exact zL)
def conB (p : PA) : Bool := s0B p.vr && !(p.es.any offB)
theorem conj_ev (p : PA) : Ev E 32 [encPA p] (.d (.bool (conB p))) := by
 have h1 := containsP_ev 99 b99 offB p.es fun e _ => conj1_ev e
 unfold conB
 obtain ⟨b, hb⟩ : ∃ b, p.es.any offB = b := ⟨_, rfl⟩
 rw [hb] at h1 ⊢
 clear hb
 obtain ⟨vr, ns, es⟩ := p
 dsimp only at *
 cases c1 : s0B vr with
 | true =>
  have c2 : (vr.toList == (⟨#[]⟩ : ByteArray).toList) = true := c1
  refine ye1 func32 ntmps32 fun _ _ _=>?_
  repeat' (first | refine yz ?_ | refine yp b87 h1 ?_ | refine yx ?_ | (refine yy ?_ ?_ <;> intro _) | exact zD | exact zL)
 | false =>
  have c2 : (vr.toList == (⟨#[]⟩ : ByteArray).toList) = false := c1
  refine ye1 func32 ntmps32 fun _ _ _=>?_
  repeat' (first | refine yz ?_ | refine yx ?_ | (refine yy ?_ ?_ <;> intro _) | exact zD | exact zL)
open Go.Proofs
attribute [local irreducible] PGo RMgo
def sA : ByteArray := ⟨#[97]⟩
def sB : ByteArray := ⟨#[98]⟩
def lA : ByteArray := ⟨#[65]⟩
def tT : ByteArray := ⟨#[84]⟩
def nE : ByteArray := ⟨#[]⟩
def np1 : NP := ⟨sA, [lA], []⟩
def np2 : NP := ⟨sB, [], []⟩
def ep1 : EP := ⟨nE, [tT], 1, 0, 0, 0, []⟩
def pa1 : PA := ⟨nE, [np1, np2], [ep1]⟩
def v0x : V := .mk 0 0 0 ⟨#[]⟩ []
def at1 : AT := ⟨1, [0], lA, [], v0x⟩
def at2 : AT := ⟨3, [0, 1, 2], nE, [tT], v0x⟩
def vs3 : List D := [.str sA, .str (unN 0), .str sB]
theorem ix1 : Ev E 180 [.sl [], .str sA] (.d (.int (-1))) := indexT_ev [] sA
theorem ix3 : Ev E 180 [.sl [.str sA, .str (unN 0)], .str sB] (.d (.int (-1))) := by
 have h := indexT_ev [sA, unN 0] sB
 rwa [show ixI (ixT [sA, unN 0] sB) = -1 by decide +kernel] at h
theorem va1 : EvS E 100 [.ptr 0 0, .d (.str sA)] [bld .nilS .nilS .nilS 0, .dead, .dead, .dead] (.d (.int 0)) [bld (.own 4) .nilS .nilS 0, .dead, .dead, .dead, rowS [.str sA]] :=
 variable2_evS [] [] [] 0 sA (by decide +kernel) ix1 (by simp)
theorem va2 : EvS E 100 [.ptr 0 0, .d (.str nE)] [bld (.own 1) .nilS .nilS 0, rowS [.str sA], .dead, .dead] (.d (.int 1)) [bld (.own 4) .nilS .nilS 1, .dead, .dead, .dead, rowS [.str sA, .str (unN 0)]] :=
 variable0_evS [.str sA] [] [] 0 (by simp) (by omega)
theorem va3 : EvS E 100 [.ptr 0 0, .d (.str sB)] [bld (.own 1) .nilS .nilS 1, rowS [.str sA, .str (unN 0)], .dead, .dead] (.d (.int 2)) [bld (.own 4) .nilS .nilS 1, .dead, .dead, .dead, rowS vs3] :=
 variable2_evS [.str sA, .str (unN 0)] [] [] 1 sB (by decide +kernel) ix3 (by simp)
theorem atm1 : EvS E 103 [.ptr 0 0, .d (encAT at1)] [bld (.own 1) .nilS .nilS 1, rowS vs3, .dead, .dead] (.tup []) [bld (.own 1) (.own 4) .nilS 1, rowS vs3, .dead, .dead, rowA [encAT at1]] :=
 atomB_evS vs3 [] [] 1 at1 (by simp)
theorem atm2 : EvS E 103 [.ptr 0 0, .d (encAT at2)] [bld (.own 1) (.own 2) .nilS 1, rowS vs3, rowA [encAT at1], .dead] (.tup []) [bld (.own 1) (.own 4) .nilS 1, rowS vs3, .dead, .dead, rowA [encAT at1, encAT at2]] :=
 atomB_evS vs3 [encAT at1] [] 1 at2 (by simp)
abbrev oNX (n : NP) : AObj := .var 76 (.w (.d (encNP n)))
abbrev oPX (p : PA) : AObj := .var 73 (.w (.d (encPA p)))
abbrev rI (l : List Int) : AObj := .row 3 1 (iL l)
def oN : Nat → List AObj
 | 0 => [bld (.own 1) .nilS .nilS 1, rowS vs3, .dead, .dead, oNX np1]
 | _ => [bld (.own 1) (.own 5) .nilS 1, rowS vs3, .dead, .dead, oNX np1, rowA [encAT at1]]
theorem node1_evS : EvS E 101 [.ptr 0 0, .d (.int 0), .d (encNP np1), .d (.bool false)] [bld (.own 1) .nilS .nilS 1, rowS vs3, .dead, .dead] (.tup []) [bld (.own 1) (.own 4) .nilS 1, rowS vs3, .dead, .dead, rowA [encAT at1]] := by
 have h := atm1
 refine yn func101 ntmps101 fun _ _ _ _=>?_
 repeat' (first | refine yz ?_ | refine yx ?_ | (refine yy ?_ ?_ <;> intro _) | exact zD | exact zL)
 refine go_loop_ (α := Fin 2) (fun p => ⟨[(0, .ptr 0 0), (1, .d (.int 0)), (6, .ptr 4 0), (31, .d (.sl ([lA].map .str))), (32, .d (.int ([lA].map D.str).length)), (33, .d (.int (p.val : Nat)))], oN p.val⟩) (fun p => 1 - p.val) ⟨0, by omega⟩ (zle 5) ?_
 rintro ⟨i, hi⟩
 match i, hi with
 | 0, _ =>
  have hx : ([lA].map D.str)[(((0 : Nat) : Int)).toNat]? = some (.str lA) := rfl
  dsimp only [oN]
  repeat' (first | refine yz ?_ | refine yi (.str lA) hx ?_ | refine yc [0,1,2,3] b103 (h) ?_ | refine yx ?_ | (refine yy ?_ ?_ <;> intro _) | exact zD | exact zL)
  refine go_stop ?_
  exact ⟨⟨1, by omega⟩, by show 1 - 1 < 1 - 0; omega, (zle 6)⟩
 | 1, _ =>
  dsimp only [oN]
  repeat' (first | refine yz ?_ | refine yx ?_ | (refine yy ?_ ?_ <;> intro _) | exact zD | exact zL)
  refine go_loop_ (α := Unit) (fun p => ⟨[(46, .d (.int (([] : List PP).map encPP).length)), (47, .d (.int 0))], [bld (.own 1) (.own 5) .nilS 1, rowS vs3, .dead, .dead, oNX np1, rowA [encAT at1]]⟩) (fun p => 0) () (zle 6) ?_
  rintro -
  repeat' (first | refine yz ?_ | refine retS0 [0, 1, 2, 3, 5] rfl rfl rfl rfl | refine endS0 [0, 1, 2, 3, 5] rfl rfl rfl rfl | refine yx ?_ | (refine yy ?_ ?_ <;> intro _) | exact zD | exact zL)
theorem node2_evS : EvS E 101 [.ptr 0 0, .d (.int 2), .d (encNP np2), .d (.bool false)] [bld (.own 1) (.own 2) .nilS 1, rowS vs3, rowA [encAT at1], .dead] (.tup []) [bld (.own 1) (.own 2) .nilS 1, rowS vs3, rowA [encAT at1], .dead] := by
 refine yn func101 ntmps101 fun _ _ _ _=>?_
 repeat' (first | refine yz ?_ | refine yx ?_ | (refine yy ?_ ?_ <;> intro _) | exact zD | exact zL)
 refine go_loop_ (α := Unit) (fun p => ⟨[(6, .ptr 4 0), (32, .d (.int (([] : List ByteArray).map D.str).length)), (33, .d (.int 0))], [bld (.own 1) (.own 2) .nilS 1, rowS vs3, rowA [encAT at1], .dead, oNX np2]⟩) (fun p => 0) () (zle 5) ?_
 rintro -
 repeat' (first | refine yz ?_ | refine yx ?_ | (refine yy ?_ ?_ <;> intro _) | exact zD | exact zL)
 refine go_loop_ (α := Unit) (fun p => ⟨[(46, .d (.int (([] : List PP).map encPP).length)), (47, .d (.int 0))], [bld (.own 1) (.own 2) .nilS 1, rowS vs3, rowA [encAT at1], .dead]⟩) (fun p => 0) () (zle 4) ?_
 rintro -
 repeat' (first | refine yz ?_ | refine retS0 [0, 1, 2, 3] rfl rfl rfl rfl | refine endS0 [0, 1, 2, 3] rfl rfl rfl rfl | refine yx ?_ | (refine yy ?_ ?_ <;> intro _) | exact zD | exact zL)
def oP1 : Nat → List AObj
 | 0 => [bld .nilS .nilS .nilS 0, .dead, .dead, .dead, oPX pa1, rI [0, 0], rI [0]]
 | 1 => [bld (.own 7) .nilS .nilS 1, .dead, .dead, .dead, oPX pa1, rI [0, 0], rI [1], rowS [.str sA, .str (unN 0)]]
 | _ => [bld (.own 7) .nilS .nilS 1, .dead, .dead, .dead, oPX pa1, rI [0, 2], rI [1], rowS vs3]
def oP2 : Nat → List AObj
 | 0 => [bld (.own 7) .nilS .nilS 1, .dead, .dead, .dead, oPX pa1, rI [0, 2], rI [1], rowS vs3]
 | _ => [bld (.own 7) (.own 8) .nilS 1, .dead, .dead, .dead, oPX pa1, rI [0, 2], rI [1], rowS vs3, rowA [encAT at1]]
def oP3 : Nat → List AObj
 | 0 => [bld (.own 7) (.own 8) .nilS 1, .dead, .dead, .dead, oPX pa1, rI [0, 2], rI [1], rowS vs3, rowA [encAT at1]]
 | _ => [bld (.own 7) (.own 8) .nilS 1, .dead, .dead, .dead, oPX pa1, rI [0, 2], rI [1], rowS vs3, rowA [encAT at1, encAT at2]]
set_option maxRecDepth 20000 in
set_option maxHeartbeats 4000000 in
theorem path1_evS : EvS E 33 [.ptr 0 0, .d (encPA pa1)] [bld .nilS .nilS .nilS 0, .dead, .dead, .dead] (.tup []) [bld (.own 4) (.own 5) .nilS 1, .dead, .dead, .dead, rowS vs3, rowA [encAT at1, encAT at2]] := by
 have h1 := va1
 have h2 := va2
 have h3 := va3
 have h4 := node1_evS
 have h5 := node2_evS
 have h6 := atm2
 have hn0 : ([np1, np2].map encNP)[(((0 : Nat) : Int)).toNat]? = some (encNP np1) := rfl
 have hn1 : ([np1, np2].map encNP)[(((1 : Nat) : Int)).toNat]? = some (encNP np2) := rfl
 have hcl : Ev E 104 [.sl (ep1.ty.map .str)] (.d (.sl (ep1.ty.map .str))) := cloneS_ev [tT] (by decide)
 have he0 : ([ep1].map encEP)[(((0 : Nat) : Int)).toNat]? = some (encEP ep1) := rfl
 refine yn func33 ntmps33 fun _ _ _ _=>?_
 repeat' (first | refine qRM 1 [3,7] ?_ | refine rmN ⟨rfl, ?_⟩ | refine rmM (.inl rfl) ?_ | refine rmM (.inr rfl) ?_ | refine rmV rfl ?_ (by first | exact True.intro | rfl | assumption | omega | (simp only [inR]; omega) | ((show _ ≤ (9223372036854775807 : Nat)); (try simp only [ByteArray.size_append]); omega) | exact tmod_ok (by omega) (by omega) | exact tdiv_ok (by omega) (by omega) | exact ⟨rfl, by decide, by decide⟩) | (refine rmMk ?_ ?_ ?_; rotate_left; (first | decide | omega); (first | decide | omega)) | refine yz ?_ | refine yx ?_ | (refine yy ?_ ?_ <;> intro _) | exact zD | exact zL)
 refine go_loop_ (α := Fin 3) (fun p => ⟨[(0, .ptr 0 0), (3, .ptr 4 0), (4, .own 5), (5, .own 6), (25, .d (.sl ([np1, np2].map encNP))), (26, .d (.int ([np1, np2].map encNP).length)), (27, .d (.int (p.val : Nat)))], oP1 p.val⟩) (fun p => 2 - p.val) ⟨0, by omega⟩ (zle 7) ?_
 rintro ⟨i, hi⟩
 match i, hi with
 | 0, _ =>
  dsimp only [oP1]
  repeat' (first | refine yz ?_ | (refine qS rfl ?_ ?_; exact ⟨by decide, by decide⟩) | refine qW (.int 0) rfl rfl rfl rfl rfl rfl rfl rfl ?_ | refine qW (.int 1) rfl rfl rfl rfl rfl rfl rfl rfl ?_ | refine qW (.int 2) rfl rfl rfl rfl rfl rfl rfl rfl ?_ | refine qZ (.int 0) rfl rfl rfl rfl rfl rfl rfl rfl rfl rfl ?_ | refine yi (encNP np1) hn0 ?_ | refine yi (encEP ep1) he0 ?_ | refine yc [0,1,2,3] b100 (h1) ?_ | refine yc [0,8,2,3] b100 (h2) ?_ | refine yx ?_ | (refine yy ?_ ?_ <;> intro _) | exact zD | exact zL)
  refine go_stop ?_
  exact ⟨⟨1, by omega⟩, by show 2 - 1 < 2 - 0; omega, (zren [0, 1, 2, 3, 4, 5, 6, 9])⟩
 | 1, _ =>
  dsimp only [oP1]
  repeat' (first | refine yz ?_ | (refine qS rfl ?_ ?_; exact ⟨by decide, by decide⟩) | refine qW (.int 0) rfl rfl rfl rfl rfl rfl rfl rfl ?_ | refine qW (.int 1) rfl rfl rfl rfl rfl rfl rfl rfl ?_ | refine qW (.int 2) rfl rfl rfl rfl rfl rfl rfl rfl ?_ | refine qZ (.int 0) rfl rfl rfl rfl rfl rfl rfl rfl rfl rfl ?_ | refine yi (encNP np2) hn1 ?_ | refine yc [0,7,2,3] b100 (h3) ?_ | refine yx ?_ | (refine yy ?_ ?_ <;> intro _) | exact zD | exact zL)
  refine go_stop ?_
  exact ⟨⟨2, by omega⟩, by show 2 - 2 < 2 - 1; omega, (zren [0, 1, 2, 3, 4, 5, 6, 9])⟩
 | 2, _ =>
  dsimp only [oP1]
  repeat' (first | refine yz ?_ | refine yx ?_ | (refine yy ?_ ?_ <;> intro _) | exact zD | exact zL)
  refine go_loop_ (α := Fin 3) (fun p => ⟨[(0, .ptr 0 0), (3, .ptr 4 0), (4, .own 5), (5, .own 6), (57, .d (.sl ([np1, np2].map encNP))), (58, .d (.int ([np1, np2].map encNP).length)), (59, .d (.int (p.val : Nat)))], oP2 p.val⟩) (fun p => 2 - p.val) ⟨0, by omega⟩ (zle 8) ?_
  rintro ⟨i, hi⟩
  match i, hi with
  | 0, _ =>
   dsimp only [oP2]
   repeat' (first | refine yq 12 [10] ?_ | refine yf 12 0 10 ?_ | refine yw ?_ | refine rgN ?_ | refine yv ?_ | refine yz ?_ | (refine qS rfl ?_ ?_; exact ⟨by decide, by decide⟩) | refine qW (.int 0) rfl rfl rfl rfl rfl rfl rfl rfl ?_ | refine qW (.int 1) rfl rfl rfl rfl rfl rfl rfl rfl ?_ | refine qW (.int 2) rfl rfl rfl rfl rfl rfl rfl rfl ?_ | refine qZ (.int 0) rfl rfl rfl rfl rfl rfl rfl rfl rfl rfl ?_ | refine yi (encNP np1) hn0 ?_ | refine yi (encEP ep1) he0 ?_ | refine rgCallS [0,7,2,3] (id := 12) (i := 10) rfl rfl rfl rfl rfl (FnX.plain _) b101 (h4) rfl rfl rfl rfl rfl (by repeat (first | exact trivial | refine ⟨⟨rfl, rfl⟩, ?_⟩ | refine ⟨trivial, ?_⟩)) ?_ | refine yx ?_ | (refine yy ?_ ?_ <;> intro _) | exact zD | exact zL)
   refine go_loop_ (α := Unit) (fun _ => ⟨[(0, .ptr 0 0), (3, .ptr 4 0), (4, .own 5), (5, .own 6), (57, .d (.sl ([np1, np2].map encNP))), (58, .d (.int ([np1, np2].map encNP).length)), (59, .d (.int 0)), (86, .d (.int (([] : List PP).map encPP).length)), (87, .d (.int 0))], oP2 1⟩) (fun _ => 0) () (zren [0, 1, 2, 3, 4, 5, 6, 7, 9]) ?_
   rintro -
   dsimp only [oP2]
   repeat' (first | refine yz ?_ | refine yx ?_ | (refine yy ?_ ?_ <;> intro _) | exact zD | exact zL)
   refine go_stop ?_
   exact ⟨⟨1, by omega⟩, by show 2 - 1 < 2 - 0; omega, (zle 9)⟩
  | 1, _ =>
   dsimp only [oP2]
   repeat' (first | refine yq 12 [10] ?_ | refine yf 12 0 10 ?_ | refine yw ?_ | refine rgN ?_ | refine yv ?_ | refine yz ?_ | (refine qS rfl ?_ ?_; exact ⟨by decide, by decide⟩) | refine qW (.int 0) rfl rfl rfl rfl rfl rfl rfl rfl ?_ | refine qW (.int 1) rfl rfl rfl rfl rfl rfl rfl rfl ?_ | refine qW (.int 2) rfl rfl rfl rfl rfl rfl rfl rfl ?_ | refine qZ (.int 0) rfl rfl rfl rfl rfl rfl rfl rfl rfl rfl ?_ | refine yi (encNP np2) hn1 ?_ | refine rgCallS [0,7,8,3] (id := 12) (i := 10) rfl rfl rfl rfl rfl (FnX.plain _) b101 (h5) rfl rfl rfl rfl rfl (by repeat (first | exact trivial | refine ⟨⟨rfl, rfl⟩, ?_⟩ | refine ⟨trivial, ?_⟩)) ?_ | refine yx ?_ | (refine yy ?_ ?_ <;> intro _) | exact zD | exact zL)
   refine go_stop ?_
   exact ⟨⟨2, by omega⟩, by show 2 - 2 < 2 - 1; omega, (zren [0, 1, 2, 3, 4, 5, 6, 7, 8])⟩
  | 2, _ =>
   dsimp only [oP2]
   repeat' (first | refine yz ?_ | refine yx ?_ | (refine yy ?_ ?_ <;> intro _) | exact zD | exact zL)
   refine go_loop_ (α := Fin 2) (fun p => ⟨[(0, .ptr 0 0), (3, .ptr 4 0), (4, .own 5), (5, .own 6), (101, .d (.sl ([ep1].map encEP))), (102, .d (.int ([ep1].map encEP).length)), (103, .d (.int (p.val : Nat)))], oP3 p.val⟩) (fun p => 1 - p.val) ⟨0, by omega⟩ (zle 9) ?_
   rintro ⟨i, hi⟩
   match i, hi with
   | 0, _ =>
    dsimp only [oP3]
    repeat' (first | refine yq 26 [12] ?_ | refine yf 26 0 12 ?_ | refine yw ?_ | refine rgN ?_ | refine yv ?_ | refine yz ?_ | (refine qS rfl ?_ ?_; exact ⟨by decide, by decide⟩) | refine qW (.int 0) rfl rfl rfl rfl rfl rfl rfl rfl ?_ | refine qW (.int 1) rfl rfl rfl rfl rfl rfl rfl rfl ?_ | refine qW (.int 2) rfl rfl rfl rfl rfl rfl rfl rfl ?_ | refine qZ (.int 0) rfl rfl rfl rfl rfl rfl rfl rfl rfl rfl ?_ | refine yi (encEP ep1) he0 ?_ | refine yp b104 hcl ?_ | refine rgCallS [0,7,8,3] (id := 26) (i := 12) rfl rfl rfl rfl rfl (FnX.plain _) b103 (h6) rfl rfl rfl rfl rfl (by repeat (first | exact trivial | refine ⟨⟨rfl, rfl⟩, ?_⟩ | refine ⟨trivial, ?_⟩)) ?_ | refine yx ?_ | (refine yy ?_ ?_ <;> intro _) | exact zD | exact zL)
    refine go_stop ?_
    exact ⟨⟨1, by omega⟩, by show 1 - 1 < 1 - 0; omega, (zren [0, 1, 2, 3, 4, 5, 6, 7, 10])⟩
   | 1, _ =>
    dsimp only [oP3]
    repeat' (first | refine yz ?_ | refine retS0 [0, 1, 2, 3, 7, 8] rfl rfl rfl rfl | refine endS0 [0, 1, 2, 3, 7, 8] rfl rfl rfl rfl | refine yx ?_ | (refine yy ?_ ?_ <;> intro _) | exact zD | exact zL)
attribute [local irreducible] ordF
def cj1 : CJ := ⟨[sA, unN 0, sB], [at1, at2]⟩
theorem cp1 : Ev E 31 [encPA pa1, .bool false] (.d (.int 0)) := by
 have h := checkpath_ev pa1 false ⟨by decide, by decide +kernel, fun e he => by (rw [show exsF (partG pa1.ns pa1.es) = [] by decide +kernel] at he; cases he)⟩
 rwa [show pathF pa1 false = 0 by decide +kernel] at h
theorem cn1 : Ev E 32 [encPA pa1] (.d (.bool true)) := by
 have h := conj_ev pa1
 rwa [show conB pa1 = true by decide +kernel] at h
abbrev rsC : AObj := .var 28 (.cs [.nilS, .nilS])
def oO : Nat → List AObj
 | 0 => [rsC, bld .nilS .nilS .nilS 0, .dead, .dead, .dead]
 | _ => [rsC, bld (.own 5) (.own 6) .nilS 1, .dead, .dead, .dead, rowS vs3, rowA [encAT at1, encAT at2]]
set_option maxRecDepth 20000 in
set_option maxHeartbeats 4000000 in
theorem of1_ev : Ev E 9 [.sl [encPA pa1]] (.tup [encCJ cj1, .sl [], .sl []]) := by
 have h1 := cp1
 have h2 := cn1
 have h3 := path1_evS
 refine ye1 func9 ntmps9 fun _ _ _=>?_
 repeat' (first | refine yz ?_ | refine yx ?_ | (refine yy ?_ ?_ <;> intro _) | exact zD | exact zL)
 refine go_loop_ (α := Fin 2) (fun p => ⟨[(0, .d (.sl [encPA pa1])), (2, .ptr 0 0), (3, .nilS), (4, .nilS), (5, .ptr 1 0), (6, .nilS), (11, .d (.sl [encPA pa1])), (12, .d (.int ([encPA pa1] : List D).length)), (13, .d (.int (p.val : Nat)))], [rsC, bld .nilS .nilS (.nilS) 0]⟩) (fun p => 1 - p.val) ⟨0, by omega⟩ (zle 2) ?_
 rintro ⟨i, hi⟩
 match i, hi with
 | 0, _ =>
  have hx : ([encPA pa1] : List D)[(((0 : Nat) : Int)).toNat]? = some (encPA pa1) := rfl
  repeat' (first | refine yz ?_ | refine yi (encPA pa1) hx ?_ | refine yp b31 h1 ?_ | refine yx ?_ | (refine yy ?_ ?_ <;> intro _) | exact zD | exact zL)
  refine go_stop ?_
  exact ⟨⟨1, by omega⟩, by show 1 - 1 < 1 - 0; omega, (zle 2)⟩
 | 1, _ =>
  repeat' (first | refine yz ?_ | refine yx ?_ | (refine yy ?_ ?_ <;> intro _) | exact zD | exact zL)
  refine go_dead ?_
  refine go_dead ?_
  refine go_dead ?_
  refine go_loop_ (α := Fin 2) (fun p => ⟨[(2, .ptr 0 0), (5, .ptr 1 0), (6, .nilS), (22, .d (.sl [encPA pa1])), (23, .d (.int ([encPA pa1] : List D).length)), (24, .d (.int (p.val : Nat)))], oO p.val⟩) (fun p => 1 - p.val) ⟨0, by omega⟩ (zle 5) ?_
  rintro ⟨i, hi⟩
  match i, hi with
  | 0, _ =>
   have hx : ([encPA pa1] : List D)[(((0 : Nat) : Int)).toNat]? = some (encPA pa1) := rfl
   dsimp only [oO]
   repeat' (first | refine yz ?_ | refine yi (encPA pa1) hx ?_ | refine yp b32 h2 ?_ | refine yc [1,2,3,4] b33 (h3) ?_ | refine yx ?_ | (refine yy ?_ ?_ <;> intro _) | exact zD | exact zL)
   refine go_stop ?_
   exact ⟨⟨1, by omega⟩, by show 1 - 1 < 1 - 0; omega, (zren [0, 1, 2, 3, 4, 6, 7])⟩
  | 1, _ =>
   dsimp only [oO]
   refine go_frz 5 rfl ?_
   refine go_frz 6 rfl ?_
   repeat' (first | refine yu 16 [5] [0] ?_ | refine yf 16 0 2 ?_ | refine yk 16 2 3 ?_ | refine yw ?_ | refine yf 16 6 2 ?_ | refine rgN ?_ | refine yv ?_ | refine yz ?_ | refine yx ?_ | (refine yy ?_ ?_ <;> intro _) | exact zD | exact zL)
   exact ret3 rfl rfl rfl rfl rfl
def s1x : ByteArray := ⟨#[95, 49]⟩
def cj2 : CJ := ⟨[sA, s1x, sB], [at1, at2]⟩
theorem cj12 : cj1 = cj2 := by
 unfold cj1 cj2
 rw [show unN 0 = s1x by decide +kernel]
theorem same12 : Ev E 11 [encCJ cj1, encCJ cj2] (.d (.bool true)) := by
 have : ∀ c, c = cj1 → Ev E 11 [encCJ cj1, encCJ c] (.d (.bool true)) := fun c h => h ▸ same_self cj1 (by
  intro a ha
  rcases List.mem_cons.1 ha with rfl | ha
  ·exact ⟨by decide +kernel, by decide⟩
  ·obtain rfl := List.mem_singleton.1 ha
   exact ⟨by decide +kernel, by decide⟩)
 exact this cj2 cj12.symm
theorem chk1 : Ev E 30 [encCJ cj1] (.d (.int 0)) := by
 have h := checkC_ev cj1
 rwa [show chkC cj1 = 0 by rw [cj12]; decide +kernel] at h
set_option maxRecDepth 20000 in
set_option maxHeartbeats 4000000 in
theorem alive28_ev : Ev E 8 [] (.d (.bool true)) := by
 have h1 := of1_ev
 have h2 := same12
 have h3 := chk1
 refine enter0 func8 ntmps8 rfl rfl fun w0 F0 O => ?_
 repeat' (first | refine yz ?_ | refine yp b9 h1 ?_ | refine yp b11 h2 ?_ | refine yp b30 h3 ?_ | refine yx ?_ | (refine yy ?_ ?_ <;> intro _) | exact zD | exact zL)
end Go.Proofs.YtenpjlghikohmaaGreatDoor
namespace Go.Proofs.YtenpjlghikohmaaGreatDoor
set_option maxRecDepth 4000
open Go Go.Abs Go.Val Go.RowKit Go.ChangeShapes Go.WideShapes Go.Proofs.Tryz
theorem ty_V : ∀ {t : TypeId} {x : D}, HasTy Tryz.prog t x → (t = 56 → ∃ v, x = enc v) ∧ (t = 54 → ∃ l, x = .sl (encL l)) := by
 intro t x h
 induction h with
 | bool b h => exact ⟨fun e => (by subst e; rw [underlying56] at h; cases h), fun e => (by subst e; rw [underlying54] at h; cases h)⟩
 | int n h => exact ⟨fun e => (by subst e; rw [underlying56] at h; cases h), fun e => (by subst e; rw [underlying54] at h; cases h)⟩
 | str s h => exact ⟨fun e => (by subst e; rw [underlying56] at h; cases h), fun e => (by subst e; rw [underlying54] at h; cases h)⟩
 | arr ps h _ _ => exact ⟨fun e => (by subst e; rw [underlying56] at h; cases h), fun e => (by subst e; rw [underlying54] at h; cases h)⟩
 | sl xs h hx ih =>
  refine ⟨fun e => (by subst e; rw [underlying56] at h; cases h), fun e => ?_⟩
  subst e
  rw [underlying54] at h
  cases h
  have : ∀ ys : List D, (∀ y ∈ ys, ∃ v, y = enc v) → ∃ l, ys = encL l := by
   intro ys
   induction ys with
   | nil => exact fun _ => ⟨[], by simp [encL]⟩
   | cons y r ihr =>
    intro hy
    obtain ⟨v, rfl⟩ := hy y (by simp)
    obtain ⟨l, rfl⟩ := ihr fun z hz => hy z (by simp [hz])
    exact ⟨v :: l, by simp [encL, enc]⟩
  obtain ⟨l, rfl⟩ := this xs fun y hy => (ih y hy).1 rfl
  exact ⟨l, rfl⟩
 | struct parts h hl hp ih =>
  refine ⟨fun e => ?_, fun e => (by subst e; rw [underlying54] at h; cases h)⟩
  subst e
  rw [underlying56] at h
  cases h
  match parts, hl with
  | [p0, p1, p2, p3, p4], _ =>
   obtain ⟨k, rfl⟩ := HasTy.int_inv underlying3 (hp 0 _ p0 rfl rfl)
   obtain ⟨n, rfl⟩ := HasTy.int_inv underlying3 (hp 1 _ p1 rfl rfl)
   obtain ⟨d, rfl⟩ := HasTy.int_inv underlying3 (hp 2 _ p2 rfl rfl)
   obtain ⟨s, rfl⟩ := HasTy.str_inv underlying9 (hp 3 _ p3 rfl rfl)
   obtain ⟨l, rfl⟩ := (ih 4 _ p4 rfl rfl).2 rfl
   exact ⟨.mk k n d s l, rfl⟩
theorem ty_val {x : D} (h : HasTy Tryz.prog 56 x) : ∃ v, x = enc v := (ty_V h).1 rfl
theorem list_of {α : Type} {f : α → D} : ∀ ys : List D, (∀ y ∈ ys, ∃ v, y = f v) → ∃ l : List α, ys = l.map f
 | [], _ => ⟨[], rfl⟩
 | y :: r, hy => by
  obtain ⟨v, rfl⟩ := hy y (by simp)
  obtain ⟨l, rfl⟩ := list_of r fun z hz => hy z (by simp [hz])
  exact ⟨v :: l, rfl⟩
theorem ty_strs {x : D} (h : HasTy Tryz.prog 25 x) : ∃ l : List ByteArray, x = .sl (l.map .str) := by
 obtain ⟨xs, rfl, hx⟩ := HasTy.sl_inv underlying25 h
 obtain ⟨l, rfl⟩ := list_of (f := D.str) xs fun y hy => HasTy.str_inv underlying9 (hx y hy)
 exact ⟨l, rfl⟩
theorem ty_ints {x : D} (h : HasTy Tryz.prog 46 x) : ∃ l : List Int, x = .sl (iL l) := by
 obtain ⟨xs, rfl, hx⟩ := HasTy.sl_inv underlying46 h
 obtain ⟨l, rfl⟩ := list_of (f := D.int) xs fun y hy => HasTy.int_inv underlying3 (hx y hy)
 exact ⟨l, rfl⟩
theorem ty_AT {x : D} (h : HasTy Tryz.prog 58 x) : ∃ a, x = encAT a := by
 obtain ⟨parts, rfl, hl, hp⟩ := HasTy.struct_inv underlying58 h
 match parts, hl with
 | [p0, p1, p2, p3, p4], _ =>
  obtain ⟨k, rfl⟩ := HasTy.int_inv underlying3 (hp 0 _ p0 rfl rfl)
  obtain ⟨vs, rfl⟩ := ty_ints (hp 1 _ p1 rfl rfl)
  obtain ⟨s, rfl⟩ := HasTy.str_inv underlying9 (hp 2 _ p2 rfl rfl)
  obtain ⟨ty, rfl⟩ := ty_strs (hp 3 _ p3 rfl rfl)
  obtain ⟨v, rfl⟩ := ty_val (hp 4 _ p4 rfl rfl)
  obtain ⟨vk, vn, vd, vs', vl⟩ := v
  exact ⟨⟨k, vs, s, ty, .mk vk vn vd vs' vl⟩, rfl⟩
def tys : List TypeId := [3, 9, 46, 25, 54, 56, 58, 26, 28, 236]
theorem tys_ok : closedB Tryz.prog tys = true := by kernel_rfl
noncomputable def seatLaid : List (String × DataW Unit) := Rows.atomsOfRow.laid
theorem gi_of {W : World} (hL : laidMetH Tryz.prog seatLaid W) (hS : W.ShapedOpen Tryz.prog) : E.GI W (F0 W) := by
 rw [MakeChecks.laidMetH_plain _ _ _ (by kernel_rfl)] at hL
 obtain ⟨ps, hLV, -⟩ := hL
 have hlt : ∀ {g : Nat} {v : Value}, W.cell? ⟨g, 0, none⟩ = some v → F0 W g := fun {g v} h => by
  unfold F0
  rcases Nat.lt_or_ge g W.heap.size with h' | h'
  ·exact h'
  ·unfold World.cell? at h
   simp only at h
   rw [Array.getElem?_eq_none h'] at h
   cases h
 refine ⟨fun e he => ?_, ⟨?_, ?_⟩, ?_, ?_⟩
 ·simp only [E, seatG, List.mem_singleton] at he
  subst he
  obtain ⟨x, hm, hs⟩ := listed_D tys tys_ok hLV "graphdb/frac.zero" Rows.laid_graphdb_frac_zero 0 236 (by simp [seatLaid, Rows.atomsOfRow]) (by kernel_rfl) (by kernel_rfl) (by decide)
  obtain ⟨parts, rfl, hl, hp⟩ := Says.agg_inv hs
  match parts, hl with
  | [p0, p1], _ =>
   have e0 := Says.int_inv (hp 0 _ p0 rfl rfl)
   have e1 := Says.int_inv (hp 1 _ p1 rfl rfl)
   subst e0 e1
   exact hm
 ·have ht : Lib.TabIs Tryz.prog W "internal/strconv.uint64pow10" .u64 Lib.pow10Tab :=
   listed_tab hLV "internal/strconv.uint64pow10" .u64 Lib.pow10Tab 2 373 277 20 (by
    have : (Lib.tabData .u64 Lib.pow10Tab : DataW Unit) = Rows.laid_internal_strconv_uint64pow10 := by rfl
    rw [this]
    simp [seatLaid, Rows.atomsOfRow]) (by kernel_rfl) (by kernel_rfl) underlying373 underlying277 (by kernel_rfl) (by kernel_rfl)
  unfold Lib.TabIs World.var? at ht
  have hg : Tryz.prog.globalNamed "internal/strconv.uint64pow10" = some 2 := by kernel_rfl
  rw [hg] at ht
  simp only [Option.bind_some] at ht
  unfold F0
  rcases Nat.lt_or_ge 2 W.heap.size with h | h
  ·exact h
  ·rw [Array.getElem?_eq_none h] at ht; cases ht
 ·exact listed_tab hLV "internal/strconv.uint64pow10" .u64 Lib.pow10Tab 2 373 277 20 (by
    have : (Lib.tabData .u64 Lib.pow10Tab : DataW Unit) = Rows.laid_internal_strconv_uint64pow10 := by rfl
    rw [this]
    simp [seatLaid, Rows.atomsOfRow]) (by kernel_rfl) (by kernel_rfl) underlying373 underlying277 (by kernel_rfl) (by kernel_rfl)
 ·obtain ⟨m, hm⟩ := cell_of_shapedOpen_int (P := Tryz.prog) (g := 1) (t := 3) (zero := #[.int .i64 0]) hS (by decide +kernel) (by kernel_rfl) (by decide) (by kernel_rfl) (by kernel_rfl) underlying3
  exact hlt hm
 ·exact cell_of_shapedOpen_int (P := Tryz.prog) (g := 1) (t := 3) (zero := #[.int .i64 0]) hS (by decide +kernel) (by kernel_rfl) (by decide) (by kernel_rfl) (by kernel_rfl) underlying3
noncomputable def wit (os : Os) : World := World.doorLaid Tryz.prog 400 os
set_option maxRecDepth 100000 in
theorem wit_met (os : Os) (args : Array Value) : laidMetH Tryz.prog seatLaid ((wit os).forCall (fun _ _ => 0) ⟨#[], args, []⟩).memory :=
 laidMetH_of_parts3 (fuel := 8) (laidMet_of_run' 8 (by kernel_rfl) (by kernel_rfl)) (by kernel_rfl) (by kernel_rfl)
set_option maxRecDepth 100000 in
theorem wit_shaped (os : Os) (args : Array Value) : ((wit os).forCall (fun _ _ => 0) ⟨#[], args, []⟩).Shaped Tryz.prog := World.shaped_of_RefB (by kernel_rfl) (by kernel_rfl)
theorem seat_own : ownKnob Tryz.prog.godebug = none := by kernel_rfl
theorem seat_out : laidOutB Tryz.prog = true := by kernel_rfl
theorem map_all {α : Type} {f : α → D} : ∀ {ys : List D}, (∀ y ∈ ys, ∃ v, y = f v) → ∃ l : List α, ys = l.map f
 | [], _ => ⟨[], rfl⟩
 | y :: r, h => by
  obtain ⟨v, hv⟩ := h y (by simp)
  obtain ⟨l, hl⟩ := map_all (ys := r) fun z hz => h z (by simp [hz])
  exact ⟨v :: l, by rw [hv, hl]; rfl⟩
theorem ty_pr {x : D} (h : HasTy Tryz.prog 210 x) : ∃ p, x = encPr p := by
 obtain ⟨parts, rfl, hl, hp⟩ := HasTy.struct_inv underlying210 h
 match parts, hl with
 | [p0, p1], _ =>
  obtain ⟨k, rfl⟩ := HasTy.str_inv underlying9 (hp 0 _ p0 rfl rfl)
  obtain ⟨v, rfl⟩ := ty_val (hp 1 _ p1 rfl rfl)
  exact ⟨⟨k, v⟩, rfl⟩
theorem ty_prs {x : D} (h : HasTy Tryz.prog 102 x) : ∃ l : List Pr, x = .sl (l.map encPr) := by
 obtain ⟨xs, rfl, hx⟩ := HasTy.sl_inv underlying102 h
 obtain ⟨l, rfl⟩ := map_all (f := encPr) fun y hy => ty_pr (hx y hy)
 exact ⟨l, rfl⟩
theorem ty_node {x : D} (h : HasTy Tryz.prog 104 x) : ∃ p, x = encNd p := by
 obtain ⟨parts, rfl, hl, hp⟩ := HasTy.struct_inv underlying104 h
 match parts, hl with
 | [p0, p1, p2], _ =>
  obtain ⟨k, rfl⟩ := HasTy.int_inv underlying3 (hp 0 _ p0 rfl rfl)
  obtain ⟨l, rfl⟩ := ty_strs (hp 1 _ p1 rfl rfl)
  obtain ⟨v, rfl⟩ := ty_prs (hp 2 _ p2 rfl rfl)
  exact ⟨⟨k, l, v⟩, rfl⟩
theorem ty_edge {x : D} (h : HasTy Tryz.prog 109 x) : ∃ p, x = encEd p := by
 obtain ⟨parts, rfl, hl, hp⟩ := HasTy.struct_inv underlying109 h
 match parts, hl with
 | [p0, p1, p2, p3, p4], _ =>
  obtain ⟨k, rfl⟩ := HasTy.int_inv underlying3 (hp 0 _ p0 rfl rfl)
  obtain ⟨m, rfl⟩ := HasTy.int_inv underlying3 (hp 1 _ p1 rfl rfl)
  obtain ⟨n, rfl⟩ := HasTy.int_inv underlying3 (hp 2 _ p2 rfl rfl)
  obtain ⟨s, rfl⟩ := HasTy.str_inv underlying9 (hp 3 _ p3 rfl rfl)
  obtain ⟨v, rfl⟩ := ty_prs (hp 4 _ p4 rfl rfl)
  exact ⟨⟨k, m, n, s, v⟩, rfl⟩
theorem ty_GR {x : D} (h : HasTy Tryz.prog 38 x) : ∃ p, x = encGr p := by
 obtain ⟨parts, rfl, hl, hp⟩ := HasTy.struct_inv underlying38 h
 match parts, hl with
 | [p0, p1, p2, p3], _ =>
  obtain ⟨xs, rfl, hx⟩ := HasTy.sl_inv underlying35 (hp 0 _ p0 rfl rfl)
  obtain ⟨l, rfl⟩ := map_all (f := encNd) fun y hy => ty_node (hx y hy)
  obtain ⟨ys, rfl, hy⟩ := HasTy.sl_inv underlying36 (hp 1 _ p1 rfl rfl)
  obtain ⟨m, rfl⟩ := map_all (f := encEd) fun z hz => ty_edge (hy z hz)
  obtain ⟨k, rfl⟩ := HasTy.int_inv underlying3 (hp 2 _ p2 rfl rfl)
  obtain ⟨n, rfl⟩ := HasTy.int_inv underlying3 (hp 3 _ p3 rfl rfl)
  exact ⟨⟨l, m, k, n⟩, rfl⟩
def tysX : List TypeId := [3, 9, 46, 25, 54, 56, 58, 26, 28, 210, 102, 104, 35, 109, 36, 38, 236]
theorem tysX_ok : closedB Tryz.prog tysX = true := by kernel_rfl
end Go.Proofs.YtenpjlghikohmaaGreatDoor
