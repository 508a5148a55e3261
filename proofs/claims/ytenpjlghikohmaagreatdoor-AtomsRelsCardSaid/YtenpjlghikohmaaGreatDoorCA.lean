/- Clauses and queries: how they are read in memory; what the check of a path pattern and of a clause answers; The check of a path pattern's parts, by the program; The check of a path pattern, by the program; The check of a path pattern, by the program. Conditions: each part's own, as it says. -/
import Derived.Test.YtenpjlghikohmaaGreatDoorFB
import Derived.Test.YtenpjlghikohmaaGreatDoorGC
set_option linter.unusedVariables false
set_option linter.unusedSimpArgs false
namespace Go.Proofs.YtenpjlghikohmaaGreatDoor
set_option maxRecDepth 4000
open Go Go.Abs Go.Val Go.RowKit Go.Proofs.Tryz
structure PP where
 key : ByteArray
 e : Ex
structure NP where
 vr : ByteArray
 lb : List ByteArray
 ps : List PP
structure EP where
 vr : ByteArray
 ty : List ByteArray
 dir : Int
 mode : Int
 mn : Int
 mx : Int
 ps : List PP
structure PA where
 vr : ByteArray
 ns : List NP
 es : List EP
structure SItC where
 vr : ByteArray
 key : ByteArray
 lb : ByteArray
 off : Bool
 e : Ex
def encPP (p : PP) : D := .agg [.str p.key, .int p.e.op, .int p.e.v.k, .int p.e.v.n, .int p.e.v.d, .str p.e.v.s, .sl (kids p.e.v), .str p.e.nm, .bool p.e.ds, .sl (kidsE p.e)]
def encNP (n : NP) : D := .agg [.str n.vr, .sl (n.lb.map .str), .sl (n.ps.map encPP)]
def encEP (e : EP) : D := .agg [.str e.vr, .sl (e.ty.map .str), .int e.dir, .int e.mode, .int e.mn, .int e.mx, .sl (e.ps.map encPP)]
def encPA (p : PA) : D := .agg [.str p.vr, .sl (p.ns.map encNP), .sl (p.es.map encEP)]
def s0B (s : ByteArray) : Bool := isS s ⟨#[]⟩
mutual
def hagF : Ex → Bool
 | .mk op _ _ _ ks => op == 24 || hagL ks
def hagL : List Ex → Bool
 | [] => false
 | x :: r => hagF x || hagL r
end
def keysF (l : List PP) : List ByteArray := l.map fun p => p.key
def risF : List ByteArray → Bool
 | a :: b :: r => Op.bytesLess a.toList b.toList && risF (b :: r)
 | _ => true
def hopN (e : EP) : Int := bif e.mode == 0 then 1 else min (max e.mx 0) 13
def hopS (l : List EP) : Int := l.foldl (fun n e => n + hopN e) 0
def longF (p : PA) : Bool := (p.ns.length == 0 || decide (p.es.length > 6)) || decide (hopS p.es > 12)
def hopF (e : EP) : Bool :=
 bif (decide (e.dir < 1) || decide (e.dir > 3)) || (decide (e.mode < 0) || decide (e.mode > 5)) then false else
 bif e.mode == 0 then e.mn == 0 && e.mx == 0 else decide (e.mn ≥ 0) && (decide (e.mn ≤ e.mx) && (decide (e.mx ≥ 1) && (decide (e.mx ≤ 6) && e.ps.length == 0)))
def creF (e : EP) : Bool := e.mode == 0 && (e.ty.length == 1 && e.dir != 3)
structure PT where
 nm : ByteArray
 ns : List ByteArray
 ps : List PP
def encPT (x : PT) : D := .agg [.str x.nm, .sl (x.ns.map .str), .sl (x.ps.map encPP)]
def ptN (n : NP) : PT := ⟨n.vr, n.lb, n.ps⟩
def ptE (e : EP) : PT := ⟨e.vr, e.ty, e.ps⟩
def partG : List NP → List EP → List PT
 | [], _ => []
 | n :: r, [] => ptN n :: partG r []
 | n :: r, e :: q => ptN n :: ptE e :: partG r q
def freeF (s : ByteArray) : Bool := s0B s || wordF s
def badN (x : PT) : Bool := !(freeF x.nm) || (!(x.ns.all wordF) || !((keysF x.ps).all wordF))
def badRs (x : PT) : Bool := !(risF x.ns) || !(risF (keysF x.ps))
def firE : List Ex → Int
 | [] => 0
 | e :: r => bif chkF e != 0 then chkF e else firE r
def exsF (l : List PT) : List Ex := l.flatMap fun x => x.ps.map fun p => p.e
def pathF (p : PA) (create : Bool) : Int :=
 bif longF p then 4 else
 bif p.ns.length != p.es.length + 1 || p.es.any fun e => !hopF e then 1 else
 bif !(freeF p.vr) || (partG p.ns p.es).any badN then 6 else
 bif (partG p.ns p.es).any badRs then 26 else
 bif firE (exsF (partG p.ns p.es)) != 0 then firE (exsF (partG p.ns p.es)) else
 bif (exsF (partG p.ns p.es)).any hagF then 9 else
 bif create && p.es.any fun e => !creF e then 1 else 0
end Go.Proofs.YtenpjlghikohmaaGreatDoor
namespace Go.Proofs.YtenpjlghikohmaaGreatDoor
set_option maxRecDepth 4000
open Go Go.Abs Go.Val Go.RowKit Go.Proofs.Tryz
attribute [local irreducible] go SGo HasBody Ev ExtEv EvO EvS
theorem drop_c {α : Type} {l : List α} {i : Nat} {x : α} (h : l[i]? = some x) : l.drop i = x :: l.drop (i + 1) := by
 obtain ⟨hi, rfl⟩ := List.getElem?_eq_some_iff.1 h
 exact List.drop_eq_getElem_cons hi
theorem map_c {α : Type} {f : α → D} {l : List α} {i : Nat} {x : α} (h : l[i]? = some x) : (l.map f)[((i : Nat) : Int).toNat]? = some (f x) := by
 rw [show ((i : Nat) : Int).toNat = i by omega, List.getElem?_map, h]; rfl
theorem fitc_map {α : Type} {f : α → D} {l : List α} (h : Fit (.sl (l.map f))) : l.length ≤ 9223372036854775807 ∧ ∀ x ∈ l, Fit (f x) := by
 obtain ⟨h1, h2⟩ := h.sls
 exact ⟨by simpa using h1, fun x hx => h2 _ (List.mem_map.2 ⟨x, hx, rfl⟩)⟩
def optC : Option Nat → Int | some i => (i : Int) | none => -1
theorem fic_some {α : Type} {l : List α} {f : α → Bool} {i : Nat} {x : α} (hx : l[i]? = some x) (hc : f x = true) (h : ∀ j, j < i → ∀ y, l[j]? = some y → f y = false) : l.findIdx? f = some i := by
 have hi := (List.getElem?_eq_some_iff.1 hx).1
 rw [List.findIdx?_eq_some_iff_getElem]
 refine ⟨hi, ?_, fun j hj => ?_⟩
 ·rw [List.getElem?_eq_getElem hi] at hx
  cases hx
  exact hc
 ·have := h j hj _ (List.getElem?_eq_getElem (by omega))
  simpa using this
theorem fic_none {α : Type} {l : List α} {f : α → Bool} (h : ∀ j, j < l.length → ∀ y, l[j]? = some y → f y = false) : l.findIdx? f = none := by
 rw [List.findIdx?_eq_none_iff]
 intro x hx
 obtain ⟨j, hj⟩ := List.getElem?_of_mem hx
 exact h j (List.getElem?_eq_some_iff.1 hj).1 x hj
theorem fic_any {α : Type} {l : List α} {f : α → Bool} : decide (optC (l.findIdx? f) ≥ 0) = l.any f := by
 cases h : l.findIdx? f with
 | none =>
  rw [List.findIdx?_eq_none_iff] at h
  have : l.any f = false := by rw [List.any_eq_false]; intro x hx; simpa using h x hx
  rw [this]; rfl
 | some i =>
  obtain ⟨hi, h1, -⟩ := List.findIdx?_eq_some_iff_getElem.1 h
  have : l.any f = true := List.any_eq_true.2 ⟨_, List.getElem_mem hi, h1⟩
  rw [this]
  simp [optC]
structure SFc {α : Type} (l : List α) (f : α → Bool) where
 i : Nat
 hi : i ≤ l.length
 ok : ∀ j, j < i → ∀ y, l[j]? = some y → f y = false
theorem SFc.next {α : Type} {l : List α} {f : α → Bool} {i : Nat} {x : α} (hx : l[i]? = some x) (hc : f x = false) (h : ∀ j, j < i → ∀ y, l[j]? = some y → f y = false) : ∀ j, j < i + 1 → ∀ y, l[j]? = some y → f y = false := by
 intro j hj y hy
 rcases Nat.lt_succ_iff_lt_or_eq.1 hj with h1 | rfl
 ·exact h j h1 y hy
 ·rw [hx] at hy; cases hy; exact hc
theorem indexS_ev (fn : FuncId) (hb : HasBody E fn) (f : ByteArray → Bool) (l : List (ByteArray)) (hf : ∀ x ∈ l, Ev E fn [D.str x] (.d (.bool (f x)))) : Ev E 236 [.sl (l.map D.str), .imm (.func (.func fn) #[] #[])] (.d (.int (optC (l.findIdx? f)))) := Ev.fit fun hfit => by
 have hmax := (fitc_map (hfit (.sl (l.map D.str)) (by simp))).1
 have hle : (l.map D.str).length = l.length := by simp
 refine ye2 func236 ntmps236 fun _ _ _=>?_
 repeat' (first | refine yz ?_ | refine yx ?_ | (refine yy ?_ ?_ <;> intro _) | exact zD | exact zL)
 refine go_loop_ (α := SFc l f) (fun p => ⟨[(0, .d (.sl (l.map D.str))), (1, .d (.imm (.func (.func fn) #[] #[]))), (7, .d (.int (l.map D.str).length)), (8, .d (.int p.i))], []⟩) (fun p => l.length - p.i) ⟨0, by omega, fun j hj => absurd hj (by omega)⟩ (zle 0) ?_
 rintro ⟨i, hi, ok⟩
 dsimp only
 rcases Nat.lt_or_ge i l.length with hlt | hge
 ·have g1 : decide ((i : Int) < ((l.map D.str).length : Int)) = true := by rw [hle]; simpa using hlt
  have hx0 := List.getElem?_eq_getElem hlt
  generalize l[i] = y at hx0
  have hx := map_c (f := D.str) hx0
  have h := hf y (List.mem_of_getElem? hx0)
  cases hc : f y with
  | true =>
   rw [hc] at h
   rw [fic_some hx0 hc ok]
   repeat' (first | refine yz ?_ | refine yi (D.str y) hx ?_ | refine yp hb h ?_ | refine yx ?_ | (refine yy ?_ ?_ <;> intro _) | exact zD | exact zL)
  | false =>
   rw [hc] at h
   repeat' (first | refine yz ?_ | refine yi (D.str y) hx ?_ | refine yp hb h ?_ | refine yx ?_ | (refine yy ?_ ?_ <;> intro _) | exact zD | exact zL)
   refine go_stop ?_
   exact ⟨⟨i + 1, by omega, SFc.next hx0 hc ok⟩, by dsimp only; omega, (zle 0)⟩
 ·have g1 : decide ((i : Int) < ((l.map D.str).length : Int)) = false := by rw [hle]; simp; omega
  rw [fic_none fun j hj => ok j (by omega)]
  repeat' (first | refine yz ?_ | refine yx ?_ | (refine yy ?_ ?_ <;> intro _) | exact zD | exact zL)
theorem containsS_ev (fn : FuncId) (hb : HasBody E fn) (f : ByteArray → Bool) (l : List (ByteArray)) (hf : ∀ x ∈ l, Ev E fn [D.str x] (.d (.bool (f x)))) : Ev E 149 [.sl (l.map D.str), .imm (.func (.func fn) #[] #[])] (.d (.bool (l.any f))) := by
 have h := indexS_ev fn hb f l hf
 rw [← fic_any]
 refine ye2 func149 ntmps149 fun _ _ _=>?_
 repeat' (first | refine yz ?_ | refine yp b236 h ?_ | refine yx ?_ | (refine yy ?_ ?_ <;> intro _) | exact zD | exact zL)
theorem indexE_ev (fn : FuncId) (hb : HasBody E fn) (f : Ex → Bool) (l : List (Ex)) (hf : ∀ x ∈ l, Ev E fn [encE x] (.d (.bool (f x)))) : Ev E 261 [.sl (l.map encE), .imm (.func (.func fn) #[] #[])] (.d (.int (optC (l.findIdx? f)))) := Ev.fit fun hfit => by
 have hmax := (fitc_map (hfit (.sl (l.map encE)) (by simp))).1
 have hle : (l.map encE).length = l.length := by simp
 refine ye2 func261 ntmps261 fun _ _ _=>?_
 repeat' (first | refine yz ?_ | refine yx ?_ | (refine yy ?_ ?_ <;> intro _) | exact zD | exact zL)
 refine go_loop_ (α := SFc l f) (fun p => ⟨[(0, .d (.sl (l.map encE))), (1, .d (.imm (.func (.func fn) #[] #[]))), (7, .d (.int (l.map encE).length)), (8, .d (.int p.i))], []⟩) (fun p => l.length - p.i) ⟨0, by omega, fun j hj => absurd hj (by omega)⟩ (zle 0) ?_
 rintro ⟨i, hi, ok⟩
 dsimp only
 rcases Nat.lt_or_ge i l.length with hlt | hge
 ·have g1 : decide ((i : Int) < ((l.map encE).length : Int)) = true := by rw [hle]; simpa using hlt
  have hx0 := List.getElem?_eq_getElem hlt
  generalize l[i] = y at hx0
  have hx := map_c (f := encE) hx0
  have h := hf y (List.mem_of_getElem? hx0)
  cases hc : f y with
  | true =>
   rw [hc] at h
   rw [fic_some hx0 hc ok]
   repeat' (first | refine yz ?_ | refine yi (encE y) hx ?_ | refine yp hb h ?_ | refine yx ?_ | (refine yy ?_ ?_ <;> intro _) | exact zD | exact zL)
  | false =>
   rw [hc] at h
   repeat' (first | refine yz ?_ | refine yi (encE y) hx ?_ | refine yp hb h ?_ | refine yx ?_ | (refine yy ?_ ?_ <;> intro _) | exact zD | exact zL)
   refine go_stop ?_
   exact ⟨⟨i + 1, by omega, SFc.next hx0 hc ok⟩, by dsimp only; omega, (zle 0)⟩
 ·have g1 : decide ((i : Int) < ((l.map encE).length : Int)) = false := by rw [hle]; simp; omega
  rw [fic_none fun j hj => ok j (by omega)]
  repeat' (first | refine yz ?_ | refine yx ?_ | (refine yy ?_ ?_ <;> intro _) | exact zD | exact zL)
theorem containsE_ev (fn : FuncId) (hb : HasBody E fn) (f : Ex → Bool) (l : List (Ex)) (hf : ∀ x ∈ l, Ev E fn [encE x] (.d (.bool (f x)))) : Ev E 178 [.sl (l.map encE), .imm (.func (.func fn) #[] #[])] (.d (.bool (l.any f))) := by
 have h := indexE_ev fn hb f l hf
 rw [← fic_any]
 refine ye2 func178 ntmps178 fun _ _ _=>?_
 repeat' (first | refine yz ?_ | refine yp b261 h ?_ | refine yx ?_ | (refine yy ?_ ?_ <;> intro _) | exact zD | exact zL)
theorem indexP_ev (fn : FuncId) (hb : HasBody E fn) (f : EP → Bool) (l : List (EP)) (hf : ∀ x ∈ l, Ev E fn [encEP x] (.d (.bool (f x)))) : Ev E 172 [.sl (l.map encEP), .imm (.func (.func fn) #[] #[])] (.d (.int (optC (l.findIdx? f)))) := Ev.fit fun hfit => by
 have hmax := (fitc_map (hfit (.sl (l.map encEP)) (by simp))).1
 have hle : (l.map encEP).length = l.length := by simp
 refine ye2 func172 ntmps172 fun _ _ _=>?_
 repeat' (first | refine yz ?_ | refine yx ?_ | (refine yy ?_ ?_ <;> intro _) | exact zD | exact zL)
 refine go_loop_ (α := SFc l f) (fun p => ⟨[(0, .d (.sl (l.map encEP))), (1, .d (.imm (.func (.func fn) #[] #[]))), (7, .d (.int (l.map encEP).length)), (8, .d (.int p.i))], []⟩) (fun p => l.length - p.i) ⟨0, by omega, fun j hj => absurd hj (by omega)⟩ (zle 0) ?_
 rintro ⟨i, hi, ok⟩
 dsimp only
 rcases Nat.lt_or_ge i l.length with hlt | hge
 ·have g1 : decide ((i : Int) < ((l.map encEP).length : Int)) = true := by rw [hle]; simpa using hlt
  have hx0 := List.getElem?_eq_getElem hlt
  generalize l[i] = y at hx0
  have hx := map_c (f := encEP) hx0
  have h := hf y (List.mem_of_getElem? hx0)
  cases hc : f y with
  | true =>
   rw [hc] at h
   rw [fic_some hx0 hc ok]
   repeat' (first | refine yz ?_ | refine yi (encEP y) hx ?_ | refine yp hb h ?_ | refine yx ?_ | (refine yy ?_ ?_ <;> intro _) | exact zD | exact zL)
  | false =>
   rw [hc] at h
   repeat' (first | refine yz ?_ | refine yi (encEP y) hx ?_ | refine yp hb h ?_ | refine yx ?_ | (refine yy ?_ ?_ <;> intro _) | exact zD | exact zL)
   refine go_stop ?_
   exact ⟨⟨i + 1, by omega, SFc.next hx0 hc ok⟩, by dsimp only; omega, (zle 0)⟩
 ·have g1 : decide ((i : Int) < ((l.map encEP).length : Int)) = false := by rw [hle]; simp; omega
  rw [fic_none fun j hj => ok j (by omega)]
  repeat' (first | refine yz ?_ | refine yx ?_ | (refine yy ?_ ?_ <;> intro _) | exact zD | exact zL)
theorem containsP_ev (fn : FuncId) (hb : HasBody E fn) (f : EP → Bool) (l : List (EP)) (hf : ∀ x ∈ l, Ev E fn [encEP x] (.d (.bool (f x)))) : Ev E 87 [.sl (l.map encEP), .imm (.func (.func fn) #[] #[])] (.d (.bool (l.any f))) := by
 have h := indexP_ev fn hb f l hf
 rw [← fic_any]
 refine ye2 func87 ntmps87 fun _ _ _=>?_
 repeat' (first | refine yz ?_ | refine yp b172 h ?_ | refine yx ?_ | (refine yy ?_ ?_ <;> intro _) | exact zD | exact zL)
theorem blc_ord : ∀ a b : List UInt8, (Op.bytesLess a b = true ∧ Op.bytesLess b a = false ∧ a ≠ b) ∨ (Op.bytesLess a b = false ∧ Op.bytesLess b a = true ∧ a ≠ b) ∨ (Op.bytesLess a b = false ∧ Op.bytesLess b a = false ∧ a = b)
 | [], [] => .inr (.inr ⟨rfl, rfl, rfl⟩)
 | [], _ :: _ => .inl ⟨rfl, rfl, by simp⟩
 | _ :: _, [] => .inr (.inl ⟨rfl, rfl, by simp⟩)
 | x :: a, y :: b => by
  have ih := blc_ord a b
  simp only [Op.bytesLess]
  rcases Nat.lt_trichotomy x.toNat y.toNat with h | h | h
  ·have h1 : x < y := h
   have h2 : ¬ y < x := fun h' => Nat.lt_asymm h h'
   have h3 : x ≠ y := fun e => by subst e; omega
   have h4 : (y == x) = false := by rw [beq_eq_false_iff_ne]; exact fun e => h3 e.symm
   left
   refine ⟨by simp [h1], by simp [h2, h4], fun e => h3 (List.cons.inj e).1⟩
  ·have e : x = y := UInt8.toNat_inj.1 h
   subst e
   have h2 : ¬ x < x := fun h' => Nat.lt_irrefl _ h'
   simp only [h2, decide_false, beq_self_eq_true, Bool.true_and, Bool.false_or]
   rcases ih with ⟨i1, i2, i3⟩ | ⟨i1, i2, i3⟩ | ⟨i1, i2, i3⟩
   ·exact .inl ⟨i1, i2, fun e => i3 (List.cons.inj e).2⟩
   ·exact .inr (.inl ⟨i1, i2, fun e => i3 (List.cons.inj e).2⟩)
   ·exact .inr (.inr ⟨i1, i2, by rw [i3]⟩)
  ·have h1 : y < x := h
   have h2 : ¬ x < y := fun h' => Nat.lt_asymm h h'
   have h3 : x ≠ y := fun e => by subst e; omega
   have h4 : (x == y) = false := by rw [beq_eq_false_iff_ne]; exact h3
   right; left
   refine ⟨by simp [h2, h4], by simp [h1], fun e => h3 (List.cons.inj e).1⟩
theorem leqc_not (a b : ByteArray) : (Op.bytesLess b.toList a.toList || b.toList == a.toList) = !Op.bytesLess a.toList b.toList := by
 rcases blc_ord a.toList b.toList with ⟨h1, h2, h3⟩ | ⟨h1, h2, h3⟩ | ⟨h1, h2, h3⟩
 ·rw [h1, h2, show (b.toList == a.toList) = false by rw [beq_eq_false_iff_ne]; exact fun e => h3 e.symm]; rfl
 ·rw [h1, h2]; rfl
 ·rw [h1, h2, h3]; simp
structure SRc (l : List ByteArray) where
 i : Nat
 hi : i + 1 ≤ l.length
 ok : risF l = risF (l.drop i)
theorem risc_at {l : List ByteArray} {i : Nat} {a b : ByteArray} (ha : l[i]? = some a) (hb : l[i + 1]? = some b) : risF (l.drop i) = (Op.bytesLess a.toList b.toList && risF (l.drop (i + 1))) := by
 rw [drop_c ha, drop_c hb]
 rfl
theorem risc_end {l : List ByteArray} {i : Nat} (h : i + 1 = l.length) : risF (l.drop i) = true := by
 obtain ⟨a, ha⟩ : ∃ a, l[i]? = some a := ⟨_, List.getElem?_eq_getElem (by omega)⟩
 rw [drop_c ha, List.drop_eq_nil_of_le (by omega)]
 rfl
theorem risesC_ev (l : List ByteArray) : Ev E 94 [.sl (l.map .str)] (.d (.bool (risF l))) := Ev.fit fun hfit => by
 have hmax := (fitc_map (hfit (.sl (l.map .str)) (by simp))).1
 have hle : (l.map D.str).length = l.length := by simp
 by_cases h0 : l = []
 ·subst h0
  refine ye1 func94 ntmps94 fun _ _ _=>?_
  repeat' (first | refine yz ?_ | refine yx ?_ | (refine yy ?_ ?_ <;> intro _) | exact zD | exact zL)
  refine go_loop_ (α := Unit) (fun p => ⟨[(0, .d (.sl [])), (3, .d (.int 1))], []⟩) (fun p => 0) () (zle 0) ?_
  rintro -
  have g1 : decide ((1 : Int) < (([] : List D).length : Int)) = false := rfl
  repeat' (first | refine yz ?_ | refine yx ?_ | (refine yy ?_ ?_ <;> intro _) | exact zD | exact zL)
 have hp := List.length_pos_iff.2 h0
 refine ye1 func94 ntmps94 fun _ _ _=>?_
 repeat' (first | refine yz ?_ | refine yx ?_ | (refine yy ?_ ?_ <;> intro _) | exact zD | exact zL)
 refine go_loop_ (α := SRc l) (fun p => ⟨[(0, .d (.sl (l.map .str))), (3, .d (.int ((p.i + 1 : Nat) : Int)))], []⟩) (fun p => l.length - p.i) ⟨0, by omega, rfl⟩ (zle 0) ?_
 rintro ⟨i, hi, ok⟩
 dsimp only
 rcases Nat.lt_or_ge (i + 1) l.length with hlt | hge
 ·have g1 : decide (((i + 1 : Nat) : Int) < ((l.map D.str).length : Int)) = true := by rw [hle]; simp; omega
  have ha0 := List.getElem?_eq_getElem (show i < l.length by omega)
  have hb0 := List.getElem?_eq_getElem hlt
  generalize l[i] = a at ha0
  generalize l[i + 1] = b at hb0
  have hb := map_c (f := D.str) hb0
  have ha : (l.map D.str)[(((i + 1 : Nat) : Int) - 1).toNat]? = some (.str a) := by
   rw [show (((i + 1 : Nat) : Int) - 1) = (i : Int) by omega]; exact map_c (f := D.str) ha0
  have g2 := leqc_not a b
  rw [ok, risc_at ha0 hb0]
  cases hc : Op.bytesLess a.toList b.toList with
  | true =>
   have hcn : (!Op.bytesLess a.toList b.toList) = false := by rw [hc]; rfl
   rw [hc] at g2
   repeat' (first | refine yz ?_ | refine yi (.str b) hb ?_ | refine yi (.str a) ha ?_ | refine yx ?_ | (refine yy ?_ ?_ <;> intro _) | exact zD | exact zL)
   refine go_stop ?_
   exact ⟨⟨i + 1, hlt, by rw [ok, risc_at ha0 hb0, hc]; rfl⟩, by dsimp only; omega, (zle 0)⟩
  | false =>
   have hcn : (!Op.bytesLess a.toList b.toList) = true := by rw [hc]; rfl
   rw [hc] at g2
   repeat' (first | refine yz ?_ | refine yi (.str b) hb ?_ | refine yi (.str a) ha ?_ | refine yx ?_ | (refine yy ?_ ?_ <;> intro _) | exact zD | exact zL)
 ·have g1 : decide (((i + 1 : Nat) : Int) < ((l.map D.str).length : Int)) = false := by rw [hle]; simp; omega
  rw [ok, risc_end (by omega)]
  repeat' (first | refine yz ?_ | refine yx ?_ | (refine yy ?_ ?_ <;> intro _) | exact zD | exact zL)
theorem words1_ev (s : ByteArray) : Ev E 174 [.str s] (.d (.bool (!wordF s))) := by
 have h := word_ev s
 refine ye1 func174 ntmps174 fun _ _ _=>?_
 repeat' (first | refine yz ?_ | refine yp b91 h ?_ | refine yx ?_ | (refine yy ?_ ?_ <;> intro _) | exact zD | exact zL)
theorem words_ev (l : List ByteArray) : Ev E 92 [.sl (l.map .str)] (.d (.bool (l.all wordF))) := by
 have h := containsS_ev 174 b174 (fun s => !wordF s) l fun s _ => words1_ev s
 have e : (!(l.any fun s => !wordF s)) = l.all wordF := by rw [List.not_any_eq_all_not]; simp
 rw [← e]
 refine ye1 func92 ntmps92 fun _ _ _=>?_
 repeat' (first | refine yz ?_ | refine yp b149 h ?_ | refine yx ?_ | (refine yy ?_ ?_ <;> intro _) | exact zD | exact zL)
theorem kidsE_map (e : Ex) : kidsE e = e.ks.map encE := by
 obtain ⟨op, v, nm, ds, ks⟩ := e
 show encEL ks = ks.map encE
 induction ks with
 | nil => rfl
 | cons x r ih => simp only [encEL, List.map_cons, ih]; rfl
theorem hagF_eq (op : Int) (v : V) (nm : ByteArray) (ds : Bool) (ks : List Ex) : hagF (.mk op v nm ds ks) = (op == 24 || ks.any hagF) := by
 have : hagL ks = ks.any hagF := by
  induction ks with
  | nil => rfl
  | cons x r ih => rw [hagL, ih]; rfl
 rw [hagF, this]
theorem hasagg_ev (e : Ex) : Ev E 96 [encE e] (.d (.bool (hagF e))) := by
 refine xind (P := fun e => Ev E 96 [encE e] (.d (.bool (hagF e)))) (fun op v nm ds ks ih => ?_) e
 have h := containsE_ev 96 b96 hagF ks ih
 have hk := kidsE_map (.mk op v nm ds ks)
 simp only [Ex.ks] at hk
 rw [← hk] at h
 rw [hagF_eq]
 cases c1 : op == 24 with
 | true =>
  refine ye1 func96 ntmps96 fun _ _ _=>?_
  repeat' (first | refine yz ?_ | refine yx ?_ | (refine yy ?_ ?_ <;> intro _) | exact zD | exact zL)
 | false =>
  refine ye1 func96 ntmps96 fun _ _ _=>?_
  repeat' (first | refine yz ?_ | refine yp b178 h ?_ | refine yx ?_ | (refine yy ?_ ?_ <;> intro _) | exact zD | exact zL)
theorem hop_ev (e : EP) : Ev E 89 [encEP e] (.d (.bool (hopF e))) := by
 obtain ⟨vr, ty, dir, mode, mn, mx, ps⟩ := e
 refine ye1 func89 ntmps89 fun _ _ _=>?_
 repeat' (first | refine yz ?_ | refine yx ?_ | (refine yy ?_ ?_ <;> intro _) | (refine qV rfl ?_ ?_ <;> intro _) | exact zD | exact zL)
 all_goals (refine congrArg D.bool ?_; simp_all [hopF, Bool.cond_eq_ite])
 all_goals first | omega | (rw [Bool.eq_iff_iff]; simp; omega)
theorem creatable_ev (e : EP) : Ev E 98 [encEP e] (.d (.bool (creF e))) := by
 obtain ⟨vr, ty, dir, mode, mn, mx, ps⟩ := e
 have hl : (ty.map D.str).length = ty.length := by simp
 refine ye1 func98 ntmps98 fun _ _ _=>?_
 repeat' (first | refine yz ?_ | refine yx ?_ | (refine yy ?_ ?_ <;> intro _) | (refine qV rfl ?_ ?_ <;> intro _) | exact zD | exact zL)
 all_goals (refine congrArg D.bool ?_; simp_all [creF])
 all_goals first | omega | (rw [Bool.eq_iff_iff]; simp; omega)
theorem path1_ev (e : EP) : Ev E 88 [encEP e] (.d (.bool (!hopF e))) := by
 have h := hop_ev e
 refine ye1 func88 ntmps88 fun _ _ _=>?_
 repeat' (first | refine yz ?_ | refine yp b89 h ?_ | refine yx ?_ | (refine yy ?_ ?_ <;> intro _) | exact zD | exact zL)
theorem path2_ev (e : EP) : Ev E 97 [encEP e] (.d (.bool (!creF e))) := by
 have h := creatable_ev e
 refine ye1 func97 ntmps97 fun _ _ _=>?_
 repeat' (first | refine yz ?_ | refine yp b98 h ?_ | refine yx ?_ | (refine yy ?_ ?_ <;> intro _) | exact zD | exact zL)
structure SKy (l : List PP) where
 i : Nat
 hi : i ≤ l.length
theorem keysF_next {l : List PP} {i : Nat} {x : PP} (h : l[i]? = some x) : (keysF (l.take (i + 1))).map D.str = (keysF (l.take i)).map D.str ++ [.str x.key] := by
 rw [List.take_add_one, h]
 simp [keysF]
theorem keys_ev (l : List PP) (hl : l.length ≤ 1000000) : Ev E 93 [.sl (l.map encPP)] (.d (.sl ((keysF l).map .str))) := by
 have hle : (l.map encPP).length = l.length := by simp
 refine ye1 func93 ntmps93 fun _ _ _=>?_
 repeat' (first | refine yz ?_ | refine yx ?_ | (refine yy ?_ ?_ <;> intro _) | exact zD | exact zL)
 refine go_loop_ (α := SKy l) (fun p => ⟨[(3, rowK 0 ((keysF (l.take p.i)).map .str)), (6, .d (.sl (l.map encPP))), (7, .d (.int (l.map encPP).length)), (8, .d (.int p.i))], rowO 9 1 ((keysF (l.take p.i)).map .str)⟩) (fun p => l.length - p.i) ⟨0, by omega⟩ (zle 0) ?_
 rintro ⟨i, hi⟩
 dsimp only
 have hol : ((keysF (l.take i)).map D.str).length ≤ 1000000 := by simp [keysF]; omega
 rcases Nat.lt_or_ge i l.length with hlt | hge
 ·have g1 : decide ((i : Int) < ((l.map encPP).length : Int)) = true := by rw [hle]; simpa using hlt
  have hx0 := List.getElem?_eq_getElem hlt
  generalize l[i] = x at hx0
  have hx := map_c (f := encPP) hx0
  have hnx := keysF_next hx0
  generalize (keysF (l.take i)).map D.str = o at *
  match o, hol with
  | [], hol =>
   dsimp only [rowK, rowO]
   repeat' (first | refine yz ?_ | refine yi (encPP x) hx ?_ | (refine qS rfl ⟨by simp, fun d hd => by (obtain rfl := List.mem_singleton.1 hd; rfl), by (show (0 + 1) * 16 ≤ 140737488355328; omega), by (show 0 + 1 ≤ 9223372036854775807; omega)⟩ ?_) | refine yx ?_ | (refine yy ?_ ?_ <;> intro _) | exact zD | exact zL)
   refine go_stop ?_
   refine ⟨⟨i + 1, by omega⟩, by dsimp only; omega, ?_⟩
   dsimp only
   rw [hnx]
   exact (zren [1])
  | a :: q, hol =>
   dsimp only [rowK, rowO]
   repeat' (first | refine yz ?_ | refine yi (encPP x) hx ?_ | (refine qS rfl ⟨by simp, fun d hd => by (obtain rfl := List.mem_singleton.1 hd; rfl), by (show ((a :: q).length + 1) * 16 ≤ 140737488355328; omega), by (show (a :: q).length + 1 ≤ 9223372036854775807; omega)⟩ ?_) | refine yx ?_ | (refine yy ?_ ?_ <;> intro _) | exact zD | exact zL)
   refine go_stop ?_
   refine ⟨⟨i + 1, by omega⟩, by dsimp only; omega, ?_⟩
   dsimp only
   rw [hnx]
   exact (zren [2])
 ·have g1 : decide ((i : Int) < ((l.map encPP).length : Int)) = false := by rw [hle]; simp; omega
  rw [List.take_of_length_le hge]
  generalize (keysF l).map D.str = o at *
  match o with
  | [] =>
   dsimp only [rowK, rowO]
   repeat' (first | refine yz ?_ | refine yx ?_ | (refine yy ?_ ?_ <;> intro _) | exact zD | exact zL)
  | a :: q =>
   dsimp only [rowK, rowO]
   refine qA ?_
   refine go_frz 0 rfl ?_
   repeat' (first | refine yz ?_ | refine yx ?_ | (refine yy ?_ ?_ <;> intro _) | exact zD | exact zL)
structure SLo (l : List EP) where
 i : Nat
 n : Int
 hi : i ≤ l.length
 h0 : 0 ≤ n
 h1 : n ≤ 13 * i
 ok : hopS l = (l.drop i).foldl (fun n e => n + hopN e) n
theorem hopN_rng (e : EP) : 0 ≤ hopN e ∧ hopN e ≤ 13 := by
 unfold hopN
 cases e.mode == 0 <;> simp <;> omega
theorem long_ev (p : PA) : Ev E 86 [encPA p] (.d (.bool (longF p))) := Ev.fit fun hfit => by
 obtain ⟨vr, ns, es⟩ := p
 have hft := hfit (encPA ⟨vr, ns, es⟩) (by simp)
 have hmn := (fitc_map (hft.aggs (.sl (ns.map encNP)) (by simp))).1
 have hme := (fitc_map (hft.aggs (.sl (es.map encEP)) (by simp))).1
 have hln : (ns.map encNP).length = ns.length := by simp
 have hle : (es.map encEP).length = es.length := by simp
 unfold longF
 dsimp only
 cases c1 : ns.length == 0 with
 | true =>
  have g1 : (((ns.map encNP).length : Int) == 0) = true := by rw [hln]; simp at c1 ⊢; omega
  refine ye1 func86 ntmps86 fun _ _ _=>?_
  repeat' (first | refine yz ?_ | refine yx ?_ | (refine yy ?_ ?_ <;> intro _) | exact zD | exact zL)
 | false =>
  have g1 : (((ns.map encNP).length : Int) == 0) = false := by rw [hln]; simp at c1 ⊢; omega
  cases c2 : decide (es.length > 6) with
  | true =>
   have g2 : decide (((es.map encEP).length : Int) > 6) = true := by rw [hle]; simp at c2 ⊢; omega
   refine ye1 func86 ntmps86 fun _ _ _=>?_
   repeat' (first | refine yz ?_ | refine yx ?_ | (refine yy ?_ ?_ <;> intro _) | exact zD | exact zL)
  | false =>
   have g2 : decide (((es.map encEP).length : Int) > 6) = false := by rw [hle]; simp at c2 ⊢; omega
   have h6 : es.length ≤ 6 := by simp at c2; omega
   rw [Bool.false_or, Bool.false_or]
   refine ye1 func86 ntmps86 fun _ _ _=>?_
   repeat' (first | refine yz ?_ | refine yx ?_ | (refine yy ?_ ?_ <;> intro _) | exact zD | exact zL)
   refine go_loop_ (α := SLo es) (fun p => ⟨[(3, .d (.int p.n)), (17, .d (.sl (es.map encEP))), (18, .d (.int (es.map encEP).length)), (19, .d (.int p.i))], []⟩) (fun p => es.length - p.i) ⟨0, 0, by omega, by omega, by omega, rfl⟩ (zle 0) ?_
   rintro ⟨i, n, hi, h0, h1, ok⟩
   dsimp only at ok ⊢
   rcases Nat.lt_or_ge i es.length with hlt | hge
   ·have g3 : decide ((i : Int) < ((es.map encEP).length : Int)) = true := by rw [hle]; simpa using hlt
    have hx0 := List.getElem?_eq_getElem hlt
    generalize es[i] = e at hx0
    have hx := map_c (f := encEP) hx0
    have hr := hopN_rng e
    rw [drop_c hx0, List.foldl_cons] at ok
    cases c3 : e.mode == 0 with
    | true =>
     have hn : hopN e = 1 := by unfold hopN; rw [c3]; rfl
     rw [hn] at ok
     repeat' (first | refine yz ?_ | refine yi (encEP e) hx ?_ | refine yx ?_ | (refine yy ?_ ?_ <;> intro _) | exact zD | exact zL)
     refine go_stop ?_
     exact ⟨⟨i + 1, n + 1, by omega, by omega, by omega, ok⟩, by dsimp only; omega, (zle 0)⟩
    | false =>
     have hn : hopN e = min (max e.mx 0) 13 := by unfold hopN; rw [c3]; rfl
     rw [hn] at ok hr
     have hin : inR .i64 (n + min (max e.mx 0) 13) := by simp only [inR]; omega
     repeat' (first | refine yz ?_ | refine yi (encEP e) hx ?_ | refine yx ?_ | (refine yy ?_ ?_ <;> intro _) | exact zD | exact zL)
     refine go_stop ?_
     exact ⟨⟨i + 1, n + min (max e.mx 0) 13, by omega, by omega, by omega, ok⟩, by dsimp only; omega, (zle 0)⟩
   ·have g3 : decide ((i : Int) < ((es.map encEP).length : Int)) = false := by rw [hle]; simp; omega
    have hn : hopS es = n := by rw [ok, List.drop_eq_nil_of_le hge]; rfl
    rw [hn]
    repeat' (first | refine yz ?_ | refine yx ?_ | (refine yy ?_ ?_ <;> intro _) | exact zD | exact zL)
attribute [local irreducible] RGo
abbrev oPA (p : PA) : AObj := .var 73 (.w (.d (encPA p)))
structure SPa (ns : List NP) (es : List EP) where
 i : Nat
 o : List PT
 hi : i ≤ ns.length
 ho : o.length ≤ 2 * i
 ok : partG ns es = o ++ partG (ns.drop i) (es.drop i)
set_option maxHeartbeats 4000000 in
theorem partsC_ev (p : PA) (hn : p.ns.length ≤ 1000000) : Ev E 90 [encPA p] (.d (.sl ((partG p.ns p.es).map encPT))) := Ev.fit fun hfit => by
 obtain ⟨vr, ns, es⟩ := p
 dsimp only at hn ⊢
 have hft := hfit (encPA ⟨vr, ns, es⟩) (by simp)
 have hme := (fitc_map (hft.aggs (.sl (es.map encEP)) (by simp))).1
 have hln : (ns.map encNP).length = ns.length := by simp
 have hle : (es.map encEP).length = es.length := by simp
 refine ye1 func90 ntmps90 fun _ _ _=>?_
 repeat' (first | refine yz ?_ | refine yx ?_ | (refine yy ?_ ?_ <;> intro _) | exact zD | exact zL)
 refine go_loop_ (α := SPa ns es) (fun p => ⟨[(3, rowK 1 (p.o.map encPT)), (1, .ptr 0 0), (7, .d (.sl (ns.map encNP))), (8, .d (.int (ns.map encNP).length)), (9, .d (.int p.i))], [oPA ⟨vr, ns, es⟩] ++ rowO 164 3 (p.o.map encPT)⟩) (fun p => ns.length - p.i) ⟨0, [], by omega, by simp, by simp⟩ (zle 1) ?_
 rintro ⟨i, o, hi, ho, ok⟩
 dsimp only at ho ok ⊢
 have hol : (o.map encPT).length ≤ 2000000 := by simp; omega
 rcases Nat.lt_or_ge i ns.length with hlt | hge
 ·have g1 : decide ((i : Int) < ((ns.map encNP).length : Int)) = true := by rw [hln]; simpa using hlt
  have hx0 := List.getElem?_eq_getElem hlt
  generalize ns[i] = x at hx0
  have hx := map_c (f := encNP) hx0
  rw [drop_c hx0] at ok
  rcases Nat.lt_or_ge i es.length with hlt2 | hge2
  ·have g2 : decide ((i : Int) < ((es.map encEP).length : Int)) = true := by rw [hle]; simpa using hlt2
   have hy0 := List.getElem?_eq_getElem hlt2
   generalize es[i] = y at hy0
   have hy := map_c (f := encEP) hy0
   rw [drop_c hy0, partG] at ok
   have hnx : (o ++ [ptN x, ptE y]).map encPT = o.map encPT ++ [encPT (ptN x)] ++ [encPT (ptE y)] := by simp
   have hok : partG ns es = (o ++ [ptN x, ptE y]) ++ partG (ns.drop (i + 1)) (es.drop (i + 1)) := by rw [ok]; simp
   have hon : (o ++ [ptN x, ptE y]).length ≤ 2 * (i + 1) := by simp; omega
   generalize o.map encPT = oo at *
   match oo, hol with
   | [], hol =>
    dsimp only [rowK, rowO]
    repeat' (first | refine yq 7 [21] ?_ | refine yf 7 0 21 ?_ | refine yw ?_ | refine yf 7 22 1 ?_ | refine rgN ?_ | refine yv ?_ | refine yz ?_ | refine yi (encNP x) hx ?_ | refine yi (encEP y) hy ?_ | refine rgS (id := 7) (i := 21) rfl rfl rfl rfl (⟨by simp, fun d hd => by (obtain rfl := List.mem_singleton.1 hd; rfl), by (show (1 + 1) * 64 ≤ 140737488355328; omega), by (show 1 + 1 ≤ 9223372036854775807; omega)⟩) (by repeat (first | exact trivial | refine ⟨⟨rfl, rfl⟩, ?_⟩ | refine ⟨trivial, ?_⟩)) ?_ | (refine qS rfl ⟨by simp, fun d hd => by (obtain rfl := List.mem_singleton.1 hd; rfl), by (show (0 + 1) * 64 ≤ 140737488355328; omega), by (show 0 + 1 ≤ 9223372036854775807; omega)⟩ ?_) | refine yx ?_ | (refine yy ?_ ?_ <;> intro _) | exact zD | exact zL)
    refine go_stop ?_
    refine ⟨⟨i + 1, o ++ [ptN x, ptE y], by omega, hon, hok⟩, by dsimp only; omega, ?_⟩
    dsimp only
    rw [hnx]
    exact (zren [0, 3])
   | a :: q, hol =>
    dsimp only [rowK, rowO]
    have hq2 : (a :: q ++ [encPT (ptN x)]).length ≤ 2000001 := by rw [List.length_append]; exact Nat.add_le_add_right hol 1
    repeat' (first | refine yq 7 [21] ?_ | refine yf 7 0 21 ?_ | refine yw ?_ | refine yf 7 22 1 ?_ | refine rgN ?_ | refine yv ?_ | refine yz ?_ | refine yi (encNP x) hx ?_ | refine yi (encEP y) hy ?_ | refine rgS (id := 7) (i := 21) rfl rfl rfl rfl (⟨by simp, fun d hd => by (obtain rfl := List.mem_singleton.1 hd; rfl), by (show ((a :: q ++ [encPT (ptN x)]).length + 1) * 64 ≤ 140737488355328; omega), by (show (a :: q ++ [encPT (ptN x)]).length + 1 ≤ 9223372036854775807; omega)⟩) (by repeat (first | exact trivial | refine ⟨⟨rfl, rfl⟩, ?_⟩ | refine ⟨trivial, ?_⟩)) ?_ | (refine qS rfl ⟨by simp, fun d hd => by (obtain rfl := List.mem_singleton.1 hd; rfl), by (show ((a :: q).length + 1) * 64 ≤ 140737488355328; omega), by (show (a :: q).length + 1 ≤ 9223372036854775807; omega)⟩ ?_) | refine yx ?_ | (refine yy ?_ ?_ <;> intro _) | exact zD | exact zL)
    refine go_stop ?_
    refine ⟨⟨i + 1, o ++ [ptN x, ptE y], by omega, hon, hok⟩, by dsimp only; omega, ?_⟩
    dsimp only
    rw [hnx]
    exact (zren [0, 4])
  ·have g2 : decide ((i : Int) < ((es.map encEP).length : Int)) = false := by rw [hle]; simp; omega
   have he0 : es.drop i = [] := List.drop_eq_nil_of_le hge2
   have he1 : es.drop (i + 1) = [] := List.drop_eq_nil_of_le (by omega)
   rw [he0, partG] at ok
   have hnx : (o ++ [ptN x]).map encPT = o.map encPT ++ [encPT (ptN x)] := by simp
   have hok : partG ns es = (o ++ [ptN x]) ++ partG (ns.drop (i + 1)) (es.drop (i + 1)) := by rw [ok, he1]; simp
   have hon : (o ++ [ptN x]).length ≤ 2 * (i + 1) := by simp; omega
   generalize o.map encPT = oo at *
   match oo, hol with
   | [], hol =>
    dsimp only [rowK, rowO]
    repeat' (first | refine yz ?_ | refine yi (encNP x) hx ?_ | (refine qS rfl ⟨by simp, fun d hd => by (obtain rfl := List.mem_singleton.1 hd; rfl), by (show (0 + 1) * 64 ≤ 140737488355328; omega), by (show 0 + 1 ≤ 9223372036854775807; omega)⟩ ?_) | refine yx ?_ | (refine yy ?_ ?_ <;> intro _) | exact zD | exact zL)
    refine go_stop ?_
    refine ⟨⟨i + 1, o ++ [ptN x], by omega, hon, hok⟩, by dsimp only; omega, ?_⟩
    dsimp only
    rw [hnx]
    exact (zren [0, 2])
   | a :: q, hol =>
    dsimp only [rowK, rowO]
    repeat' (first | refine yz ?_ | refine yi (encNP x) hx ?_ | (refine qS rfl ⟨by simp, fun d hd => by (obtain rfl := List.mem_singleton.1 hd; rfl), by (show ((a :: q).length + 1) * 64 ≤ 140737488355328; omega), by (show (a :: q).length + 1 ≤ 9223372036854775807; omega)⟩ ?_) | refine yx ?_ | (refine yy ?_ ?_ <;> intro _) | exact zD | exact zL)
    refine go_stop ?_
    refine ⟨⟨i + 1, o ++ [ptN x], by omega, hon, hok⟩, by dsimp only; omega, ?_⟩
    dsimp only
    rw [hnx]
    exact (zren [0, 3])
 ·have g1 : decide ((i : Int) < ((ns.map encNP).length : Int)) = false := by rw [hln]; simp; omega
  rw [List.drop_eq_nil_of_le hge, partG, List.append_nil] at ok
  rw [ok]
  generalize o.map encPT = oo at *
  match oo with
  | [] =>
   dsimp only [rowK, rowO]
   repeat' (first | refine yz ?_ | refine yx ?_ | (refine yy ?_ ?_ <;> intro _) | exact zD | exact zL)
  | a :: q =>
   dsimp only [rowK, rowO]
   refine qA ?_
   refine go_frz 1 rfl ?_
   repeat' (first | refine yz ?_ | refine yx ?_ | (refine yy ?_ ?_ <;> intro _) | exact zD | exact zL)
def okEx (e : Ex) : Prop := dp e ≤ 1000000 ∧ nd e ≤ 1000000
structure OkPA (p : PA) : Prop where
 n : p.ns.length ≤ 1000000
 x : (exsF (partG p.ns p.es)).length ≤ 1000000
 e : ∀ e ∈ exsF (partG p.ns p.es), okEx e
theorem exs_mem {L : List PT} {x : PT} {q : PP} (hx : x ∈ L) (hq : q ∈ x.ps) : q.e ∈ exsF L := List.mem_flatMap.2 ⟨x, hx, List.mem_map.2 ⟨q, hq, rfl⟩⟩
theorem exs_len {x : PT} : ∀ {L : List PT}, x ∈ L → x.ps.length ≤ (exsF L).length
 | y :: r, h => by
  have e : exsF (y :: r) = y.ps.map (fun p => p.e) ++ exsF r := by unfold exsF; rw [List.flatMap_cons]
  rw [e, List.length_append, List.length_map]
  rcases List.mem_cons.1 h with rfl | h
  ·omega
  ·have := exs_len h; omega
theorem partG_len : ∀ (ns : List NP) (es : List EP), (partG ns es).length ≤ 2 * ns.length
 | [], es => by cases es <;> simp [partG]
 | n :: r, [] => by
  have := partG_len r []
  simp [partG]; omega
 | n :: r, e :: q => by
  have := partG_len r q
  simp [partG]; omega
structure SNc {α : Type} (l : List α) (f : α → Bool) where
 i : Nat
 hi : i ≤ l.length
 ok : l.any f = (l.drop i).any f
theorem anyc_at {α : Type} {l : List α} {f : α → Bool} {i : Nat} {x : α} (h : l[i]? = some x) : (l.drop i).any f = (f x || (l.drop (i + 1)).any f) := by rw [drop_c h, List.any_cons]
theorem exsF_cons (x : PT) (r : List PT) : exsF (x :: r) = x.ps.map (fun p => p.e) ++ exsF r := by unfold exsF; rw [List.flatMap_cons]
structure SEx (L : List PT) where
 i : Nat
 hi : i ≤ L.length
 g : Bool
 ok : firE (exsF L) = firE (exsF (L.drop i))
 hg : (exsF L).any hagF = (g || (exsF (L.drop i)).any hagF)
structure SEy (L : List PT) (x : PT) (i : Nat) where
 j : Nat
 hj : j ≤ x.ps.length
 g : Bool
 ok : firE (exsF L) = firE ((x.ps.drop j).map (fun p => p.e) ++ exsF (L.drop (i + 1)))
 hg : (exsF L).any hagF = (g || ((x.ps.drop j).map (fun p => p.e) ++ exsF (L.drop (i + 1))).any hagF)
set_option maxHeartbeats 4000000 in
theorem checkpath_ev (p : PA) (cr : Bool) (hok : OkPA p) : Ev E 31 [encPA p, .bool cr] (.d (.int (pathF p cr))) := Ev.fit fun hfit => by
 have hlg := long_ev p
 have hpt := partsC_ev p hok.n
 have hwv := word_ev p.vr
 have hcp := containsP_ev 88 b88 (fun e => !hopF e) p.es fun e _ => path1_ev e
 have hcq := containsP_ev 97 b97 (fun e => !creF e) p.es fun e _ => path2_ev e
 have hLl : (partG p.ns p.es).length ≤ 2000000 := Nat.le_trans (partG_len _ _) (by have := hok.n; omega)
 have hopn := hok.x
 have hope := hok.e
 unfold pathF
 generalize partG p.ns p.es = L at *
 obtain ⟨vr, ns, es⟩ := p
 dsimp only at hwv hcp hcq ⊢
 have hft := hfit (encPA ⟨vr, ns, es⟩) (by simp)
 have hmn := (fitc_map (hft.aggs (.sl (ns.map encNP)) (by simp))).1
 have hme := (fitc_map (hft.aggs (.sl (es.map encEP)) (by simp))).1
 have hln : (ns.map encNP).length = ns.length := by simp
 have hle : (es.map encEP).length = es.length := by simp
 have hlL : (L.map encPT).length = L.length := by simp
 cases c1 : longF ⟨vr, ns, es⟩ with
 | true =>
  rw [c1] at hlg
  refine ye2 func31 ntmps31 fun _ _ _=>?_
  repeat' (first | refine yz ?_ | refine yp b86 hlg ?_ | refine yx ?_ | (refine yy ?_ ?_ <;> intro _) | exact zD | exact zL)
 | false =>
  have h6 : es.length ≤ 6 := by
   unfold longF at c1
   dsimp only at c1
   rw [Bool.or_eq_false_iff, Bool.or_eq_false_iff] at c1
   have := c1.1.2
   simp at this
   omega
  rw [c1] at hlg
  simp only [cond_false]
  cases c2 : ns.length != es.length + 1 with
  | true =>
   have g2 : (((ns.map encNP).length : Int) != ((es.map encEP).length : Int) + 1) = true := by rw [hln, hle]; simp at c2 ⊢; omega
   refine ye2 func31 ntmps31 fun _ _ _=>?_
   repeat' (first | refine yz ?_ | refine yp b86 hlg ?_ | refine yx ?_ | (refine yy ?_ ?_ <;> intro _) | exact zD | exact zL)
  | false =>
   have g2 : (((ns.map encNP).length : Int) != ((es.map encEP).length : Int) + 1) = false := by rw [hln, hle]; simp at c2 ⊢; omega
   cases c3 : es.any fun e => !hopF e with
   | true =>
    rw [c3] at hcp
    refine ye2 func31 ntmps31 fun _ _ _=>?_
    repeat' (first | refine yz ?_ | refine yp b86 hlg ?_ | refine qP (d := 29) rfl rfl rfl rfl rfl rfl b87 (hcp) ?_ | refine yx ?_ | (refine yy ?_ ?_ <;> intro _) | exact zD | exact zL)
   | false =>
    rw [c3] at hcp
    simp only [cond_false, Bool.false_or]
    have hsv : s0B vr = (vr.toList == (⟨#[]⟩ : ByteArray).toList) := rfl
    cases c4 : freeF vr with
    | false =>
     refine ye2 func31 ntmps31 fun _ _ _=>?_
     repeat' (first | refine go_cutR 6 (fun b => ⟨[(41, .d (.bool b)), (1, .d (.bool cr)), (2, .ptr 0 0), (5, .d (.sl (L.map encPT)))], [oPA ⟨vr, ns, es⟩]⟩) (true) ?_ ?_ | refine yz ?_ | refine yp b86 hlg ?_ | refine qP (d := 29) rfl rfl rfl rfl rfl rfl b87 (hcp) ?_ | refine yp b90 hpt ?_ | refine yp b91 hwv ?_ | refine go_stop ⟨_, ?_, (zle 1)⟩ | refine yx ?_ | (refine yy ?_ ?_ <;> intro _) | (refine qV rfl ?_ ?_ <;> intro _) | exact zD | exact zL)
     all_goals (clear hlg hpt hcp hcq hwv; simp_all [freeF])
    | true =>
     rw [Bool.not_true, Bool.false_or]
     refine ye2 func31 ntmps31 fun _ _ _=>?_
     repeat' (first | refine go_cutR 6 (fun b => ⟨[(41, .d (.bool b)), (1, .d (.bool cr)), (2, .ptr 0 0), (5, .d (.sl (L.map encPT)))], [oPA ⟨vr, ns, es⟩]⟩) (false) ?_ ?_ | refine yz ?_ | refine yp b86 hlg ?_ | refine qP (d := 29) rfl rfl rfl rfl rfl rfl b87 (hcp) ?_ | refine yp b90 hpt ?_ | refine yp b91 hwv ?_ | refine go_stop ⟨_, ?_, (zle 1)⟩ | refine yx ?_ | (refine yy ?_ ?_ <;> intro _) | (refine qV rfl ?_ ?_ <;> intro _) | exact zD | exact zL)
     rotate_left
     all_goals first | (clear hlg hpt hcp hcq hwv; simp_all [freeF]; done) | skip
     have hnb : ∀ x ∈ L, x.ps.length ≤ 1000000 := fun x hx => Nat.le_trans (exs_len hx) hopn
     refine go_loop_ (α := SNc L badN) (fun p => ⟨[(1, .d (.bool cr)), (2, .ptr 0 0), (5, .d (.sl (L.map encPT))), (42, .d (.sl (L.map encPT))), (43, .d (.int (L.map encPT).length)), (44, .d (.int p.i))], [oPA ⟨vr, ns, es⟩]⟩) (fun p => L.length - p.i) ⟨0, by omega, rfl⟩ (zle 1) ?_
     rintro ⟨i, hi, ok⟩
     dsimp only at ok ⊢
     rcases Nat.lt_or_ge i L.length with hlt | hge
     ·have g5 : decide ((i : Int) < ((L.map encPT).length : Int)) = true := by rw [hlL]; simpa using hlt
      have hx0 := List.getElem?_eq_getElem hlt
      generalize L[i] = x at hx0
      have hx := map_c (f := encPT) hx0
      have hk := keys_ev x.ps (hnb x (List.mem_of_getElem? hx0))
      have hw0 := word_ev x.nm
      have hw1 := words_ev x.ns
      have hw2 := words_ev (keysF x.ps)
      obtain ⟨a0, h0⟩ : ∃ b, wordF x.nm = b := ⟨_, rfl⟩
      obtain ⟨a1, h1⟩ : ∃ b, x.ns.all wordF = b := ⟨_, rfl⟩
      obtain ⟨a2, h2⟩ : ∃ b, (keysF x.ps).all wordF = b := ⟨_, rfl⟩
      have hbad : badN x = (!((x.nm.toList == (⟨#[]⟩ : ByteArray).toList) || a0) || (!a1 || !a2)) := by rw [← h0, ← h1, ← h2]; rfl
      rw [h0] at hw0
      rw [h1] at hw1
      rw [h2] at hw2
      rw [anyc_at hx0, hbad] at ok
      cases hb : (!((x.nm.toList == (⟨#[]⟩ : ByteArray).toList) || a0) || (!a1 || !a2)) with
      | true =>
       rw [hb, Bool.true_or] at ok
       rw [ok]
       repeat' (first | refine go_cutR 11 (fun b => ⟨[(69, .d (.bool b))], [oPA ⟨vr, ns, es⟩]⟩) (true) ?_ ?_ | refine yz ?_ | refine yi (encPT x) hx ?_ | refine yp b91 hw0 ?_ | refine qP (d := 60) rfl rfl rfl rfl rfl rfl b92 (hw1) ?_ | refine yp b93 hk ?_ | refine qP (d := 67) rfl rfl rfl rfl rfl rfl b92 (hw2) ?_ | refine go_stop ⟨_, ?_, (zle 1)⟩ | refine yx ?_ | (refine yy ?_ ?_ <;> intro _) | (refine qV rfl ?_ ?_ <;> intro _) | exact zD | exact zL)
       all_goals (clear hlg hpt hcp hcq hwv hk hw0 hw1 hw2 ok hbad h0 h1 h2 hfit hft hnb hope hopn hok c1 c2 c3 c4; simp_all)
      | false =>
       rw [hb, Bool.false_or] at ok
       repeat' (first | refine go_cutR 11 (fun b => ⟨[(69, .d (.bool b)), (1, .d (.bool cr)), (2, .ptr 0 0), (5, .d (.sl (L.map encPT))), (42, .d (.sl (L.map encPT))), (43, .d (.int (L.map encPT).length)), (44, .d (.int i))], [oPA ⟨vr, ns, es⟩]⟩) (false) ?_ ?_ | refine yz ?_ | refine yi (encPT x) hx ?_ | refine yp b91 hw0 ?_ | refine qP (d := 60) rfl rfl rfl rfl rfl rfl b92 (hw1) ?_ | refine yp b93 hk ?_ | refine qP (d := 67) rfl rfl rfl rfl rfl rfl b92 (hw2) ?_ | refine go_stop ⟨_, ?_, (zle 1)⟩ | refine yx ?_ | (refine yy ?_ ?_ <;> intro _) | (refine qV rfl ?_ ?_ <;> intro _) | exact zD | exact zL)
       all_goals first | (refine go_stop ?_; exact ⟨⟨i + 1, by omega, ok⟩, by dsimp only; omega, (zle 1)⟩) | (clear hlg hpt hcp hcq hwv hk hw0 hw1 hw2 ok hbad h0 h1 h2 hfit hft hnb hope hopn hok c1 c2 c3 c4; simp_all; done)
     ·have g5 : decide ((i : Int) < ((L.map encPT).length : Int)) = false := by rw [hlL]; simp; omega
      rw [List.drop_eq_nil_of_le hge, List.any_nil] at ok
      rw [ok]
      simp only [cond_false]
      repeat' (first | refine yz ?_ | refine yx ?_ | (refine yy ?_ ?_ <;> intro _) | exact zD | exact zL)
      clear ok hge hi g5
      refine go_loop_ (α := SNc L badRs) (fun p => ⟨[(1, .d (.bool cr)), (2, .ptr 0 0), (5, .d (.sl (L.map encPT))), (71, .d (.sl (L.map encPT))), (72, .d (.int (L.map encPT).length)), (73, .d (.int p.i))], [oPA ⟨vr, ns, es⟩]⟩) (fun p => L.length - p.i) ⟨0, by omega, rfl⟩ (zle 1) ?_
      rintro ⟨i, hi, ok⟩
      dsimp only at ok ⊢
      rcases Nat.lt_or_ge i L.length with hlt | hge
      ·have g5 : decide ((i : Int) < ((L.map encPT).length : Int)) = true := by rw [hlL]; simpa using hlt
       have hx0 := List.getElem?_eq_getElem hlt
       generalize L[i] = x at hx0
       have hx := map_c (f := encPT) hx0
       have hk := keys_ev x.ps (hnb x (List.mem_of_getElem? hx0))
       have hw1 := risesC_ev x.ns
       have hw2 := risesC_ev (keysF x.ps)
       obtain ⟨a1, h1⟩ : ∃ b, risF x.ns = b := ⟨_, rfl⟩
       obtain ⟨a2, h2⟩ : ∃ b, risF (keysF x.ps) = b := ⟨_, rfl⟩
       have hbad : badRs x = (!a1 || !a2) := by rw [← h1, ← h2]; rfl
       rw [h1] at hw1
       rw [h2] at hw2
       rw [anyc_at hx0, hbad] at ok
       cases hb : (!a1 || !a2) with
       | true =>
        rw [hb, Bool.true_or] at ok
        rw [ok]
        repeat' (first | refine go_cutR 17 (fun b => ⟨[(87, .d (.bool b))], [oPA ⟨vr, ns, es⟩]⟩) (true) ?_ ?_ | refine yz ?_ | refine yi (encPT x) hx ?_ | refine qP (d := 79) rfl rfl rfl rfl rfl rfl b94 (hw1) ?_ | refine yp b93 hk ?_ | refine qP (d := 85) rfl rfl rfl rfl rfl rfl b94 (hw2) ?_ | refine go_stop ⟨_, ?_, (zle 1)⟩ | refine yx ?_ | (refine yy ?_ ?_ <;> intro _) | (refine qV rfl ?_ ?_ <;> intro _) | exact zD | exact zL)
        all_goals (clear hlg hpt hcp hcq hwv hk hw1 hw2 ok hbad h1 h2 hfit hft hnb hope hopn hok c1 c2 c3 c4; simp_all)
       | false =>
        rw [hb, Bool.false_or] at ok
        repeat' (first | refine go_cutR 17 (fun b => ⟨[(87, .d (.bool b)), (1, .d (.bool cr)), (2, .ptr 0 0), (5, .d (.sl (L.map encPT))), (71, .d (.sl (L.map encPT))), (72, .d (.int (L.map encPT).length)), (73, .d (.int i))], [oPA ⟨vr, ns, es⟩]⟩) (false) ?_ ?_ | refine yz ?_ | refine yi (encPT x) hx ?_ | refine qP (d := 79) rfl rfl rfl rfl rfl rfl b94 (hw1) ?_ | refine yp b93 hk ?_ | refine qP (d := 85) rfl rfl rfl rfl rfl rfl b94 (hw2) ?_ | refine go_stop ⟨_, ?_, (zle 1)⟩ | refine yx ?_ | (refine yy ?_ ?_ <;> intro _) | (refine qV rfl ?_ ?_ <;> intro _) | exact zD | exact zL)
        all_goals first | (refine go_stop ?_; exact ⟨⟨i + 1, by omega, ok⟩, by dsimp only; omega, (zle 1)⟩) | (clear hlg hpt hcp hcq hwv hk hw1 hw2 ok hbad h1 h2 hfit hft hnb hope hopn hok c1 c2 c3 c4; simp_all; done)
      ·have g5 : decide ((i : Int) < ((L.map encPT).length : Int)) = false := by rw [hlL]; simp; omega
       rw [List.drop_eq_nil_of_le hge, List.any_nil] at ok
       rw [ok]
       simp only [cond_false]
       repeat' (first | refine yz ?_ | refine yx ?_ | (refine yy ?_ ?_ <;> intro _) | exact zD | exact zL)
       clear ok hge hi g5
       refine go_loop_ (α := SEx L) (fun p => ⟨[(1, .d (.bool cr)), (2, .ptr 0 0), (10, .d (.bool p.g)), (89, .d (.sl (L.map encPT))), (90, .d (.int (L.map encPT).length)), (91, .d (.int p.i))], [oPA ⟨vr, ns, es⟩]⟩) (fun p => L.length - p.i) ⟨0, by omega, false, rfl, by simp⟩ (zle 1) ?_
       rintro ⟨i, hi, g, ok, hg⟩
       dsimp only at ok hg ⊢
       rcases Nat.lt_or_ge i L.length with hlt | hge
       ·have g5 : decide ((i : Int) < ((L.map encPT).length : Int)) = true := by rw [hlL]; simpa using hlt
        have hx0 := List.getElem?_eq_getElem hlt
        generalize L[i] = x at hx0
        have hx := map_c (f := encPT) hx0
        have hlp : (x.ps.map encPP).length = x.ps.length := by simp
        have hxn := hnb x (List.mem_of_getElem? hx0)
        rw [drop_c hx0, exsF_cons] at ok hg
        repeat' (first | refine yz ?_ | refine yi (encPT x) hx ?_ | refine yx ?_ | (refine yy ?_ ?_ <;> intro _) | exact zD | exact zL)
        refine go_loop_ (α := SEy L x i) (fun p => ⟨[(1, .d (.bool cr)), (2, .ptr 0 0), (10, .d (.bool p.g)), (89, .d (.sl (L.map encPT))), (90, .d (.int (L.map encPT).length)), (91, .d (.int i)), (96, .d (.sl (x.ps.map encPP))), (97, .d (.int (x.ps.map encPP).length)), (98, .d (.int p.j))], [oPA ⟨vr, ns, es⟩]⟩) (fun p => x.ps.length - p.j) ⟨0, by omega, g, ok, hg⟩ (zle 1) ?_
        clear ok hg g
        rintro ⟨j, hj, g, ok, hg⟩
        dsimp only at ok hg ⊢
        rcases Nat.lt_or_ge j x.ps.length with hlt2 | hge2
        ·have g6 : decide ((j : Int) < ((x.ps.map encPP).length : Int)) = true := by rw [hlp]; simpa using hlt2
         have hq0 := List.getElem?_eq_getElem hlt2
         generalize x.ps[j] = q at hq0
         have hq := map_c (f := encPP) hq0
         have hqe := hope q.e (exs_mem (List.mem_of_getElem? hx0) (List.mem_of_getElem? hq0))
         have hce := check_ev q.e hqe.1 hqe.2
         have hha := hasagg_ev q.e
         rw [drop_c hq0, List.map_cons, List.cons_append] at ok hg
         rw [firE] at ok
         rw [List.any_cons] at hg
         obtain ⟨key, qe⟩ := q
         dsimp only at hce hha ok hg
         cases he : chkF qe != 0 with
         | true =>
          rw [he, cond_true] at ok
          rw [ok, he, cond_true]
          repeat' (first | refine yz ?_ | refine yi (encPP ⟨key, qe⟩) hq ?_ | refine yp b95 hce ?_ | refine yx ?_ | (refine yy ?_ ?_ <;> intro _) | exact zD | exact zL)
         | false =>
          rw [he, cond_false] at ok
          cases g with
          | true =>
           repeat' (first | refine yz ?_ | refine yi (encPP ⟨key, qe⟩) hq ?_ | refine yp b95 hce ?_ | refine yp b96 hha ?_ | refine yx ?_ | (refine yy ?_ ?_ <;> intro _) | exact zD | exact zL)
           refine go_stop ?_
           exact ⟨⟨j + 1, by omega, true, ok, by rw [hg]; simp⟩, by dsimp only; omega, (zle 1)⟩
          | false =>
           repeat' (first | refine yz ?_ | refine yi (encPP ⟨key, qe⟩) hq ?_ | refine yp b95 hce ?_ | refine yp b96 hha ?_ | refine yx ?_ | (refine yy ?_ ?_ <;> intro _) | exact zD | exact zL)
           refine go_stop ?_
           exact ⟨⟨j + 1, by omega, hagF qe, ok, by rw [hg]; simp⟩, by dsimp only; omega, (zle 1)⟩
        ·have g6 : decide ((j : Int) < ((x.ps.map encPP).length : Int)) = false := by rw [hlp]; simp; omega
         rw [List.drop_eq_nil_of_le hge2, List.map_nil, List.nil_append] at ok hg
         repeat' (first | refine yz ?_ | refine yx ?_ | (refine yy ?_ ?_ <;> intro _) | exact zD | exact zL)
         refine go_stop ?_
         exact ⟨⟨i + 1, by omega, g, ok, hg⟩, by dsimp only; omega, (zle 1)⟩
       ·have g5 : decide ((i : Int) < ((L.map encPT).length : Int)) = false := by rw [hlL]; simp; omega
        rw [List.drop_eq_nil_of_le hge] at ok hg
        have h0 : firE (exsF L) = 0 := ok
        have h1 : (exsF L).any hagF = g := by rw [hg]; simp [exsF]
        rw [h0, h1]
        cases g with
        | true =>
         repeat' (first | refine yz ?_ | refine yx ?_ | (refine yy ?_ ?_ <;> intro _) | exact zD | exact zL)
        | false =>
         cases cr with
         | false =>
          repeat' (first | refine yz ?_ | refine yx ?_ | (refine yy ?_ ?_ <;> intro _) | exact zD | exact zL)
         | true =>
          cases c9 : es.any fun e => !creF e with
          | true =>
           rw [c9] at hcq
           repeat' (first | refine yz ?_ | refine qP (d := 123) rfl rfl rfl rfl rfl rfl b87 (hcq) ?_ | refine yx ?_ | (refine yy ?_ ?_ <;> intro _) | exact zD | exact zL)
          | false =>
           rw [c9] at hcq
           repeat' (first | refine yz ?_ | refine qP (d := 123) rfl rfl rfl rfl rfl rfl b87 (hcq) ?_ | refine yx ?_ | (refine yy ?_ ?_ <;> intro _) | exact zD | exact zL)
end Go.Proofs.YtenpjlghikohmaaGreatDoor
