/- Clauses and queries: how they are read in memory; what the check of a path pattern and of a clause answers; The check of a path pattern's parts, by the program; The check of a path pattern, by the program; The check of a path pattern, by the program. Conditions: each part's own, as it says. -/
import Derived.Test.YtenpjlghikohmaaGreatDoorFB
import Derived.Test.YtenpjlghikohmaaGreatDoorGC
set_option linter.unusedVariables false
set_option linter.unusedSimpArgs false
namespace Go.Proofs.YtenpjlghikohmaaGreatDoor
set_option maxRecDepth 4000
open Go Go.Abs Go.Val Go.RowKit Go.Proofs.Tryz
structure PP where
 key : ByteArray
 e : Ex
structure NP where
 vr : ByteArray
 lb : List ByteArray
 ps : List PP
structure EP where
 vr : ByteArray
 ty : List ByteArray
 dir : Int
 mode : Int
 mn : Int
 mx : Int
 ps : List PP
structure PA where
 vr : ByteArray
 ns : List NP
 es : List EP
def dc0 (p : PP) : D := .agg [.str p.key, .int p.e.op, .int p.e.v.k, .int p.e.v.n, .int p.e.v.d, .str p.e.v.s, .sl (br4 p.e.v), .str p.e.nm, .bool p.e.ds, .sl (cq1 p.e)]
def dc1 (n : NP) : D := .agg [.str n.vr, .sl (n.lb.map .str), .sl (n.ps.map dc0)]
def dc2 (e : EP) : D := .agg [.str e.vr, .sl (e.ty.map .str), .int e.dir, .int e.mode, .int e.mn, .int e.mx, .sl (e.ps.map dc0)]
def dc3 (p : PA) : D := .agg [.str p.vr, .sl (p.ns.map dc1), .sl (p.es.map dc2)]
def s0B (s : ByteArray) : Bool := isS s ⟨#[]⟩
mutual
def dc4 : Ex → Bool
 | .mk op _ _ _ ks => op == 24 || hagL ks
def hagL : List Ex → Bool
 | [] => false
 | x :: r => dc4 x || hagL r
end
def dc5 (l : List PP) : List ByteArray := l.map fun p => p.key
def dc6 : List ByteArray → Bool
 | a :: b :: r => Op.bytesLess a.toList b.toList && dc6 (b :: r)
 | _ => true
def dc7 (e : EP) : Int := bif e.mode == 0 then 1 else min (max e.mx 0) 13
def hopS (l : List EP) : Int := l.foldl (fun n e => n + dc7 e) 0
def dc8 (p : PA) : Bool := (p.ns.length == 0 || decide (p.es.length > 6)) || decide (hopS p.es > 12)
def dc9 (e : EP) : Bool :=
 bif (decide (e.dir < 1) || decide (e.dir > 3)) || (decide (e.mode < 0) || decide (e.mode > 5)) then false else
 bif e.mode == 0 then e.mn == 0 && e.mx == 0 else decide (e.mn ≥ 0) && (decide (e.mn ≤ e.mx) && (decide (e.mx ≥ 1) && (decide (e.mx ≤ 6) && e.ps.length == 0)))
def dd0 (e : EP) : Bool := e.mode == 0 && (e.ty.length == 1 && e.dir != 3)
structure PT where
 nm : ByteArray
 ns : List ByteArray
 ps : List PP
def dd1 (x : PT) : D := .agg [.str x.nm, .sl (x.ns.map .str), .sl (x.ps.map dc0)]
def ptN (n : NP) : PT := ⟨n.vr, n.lb, n.ps⟩
def ptE (e : EP) : PT := ⟨e.vr, e.ty, e.ps⟩
def dd2 : List NP → List EP → List PT
 | [], _ => []
 | n :: r, [] => ptN n :: dd2 r []
 | n :: r, e :: q => ptN n :: ptE e :: dd2 r q
def dd3 (s : ByteArray) : Bool := s0B s || cw6 s
def badN (x : PT) : Bool := !(dd3 x.nm) || (!(x.ns.all cw6) || !((dc5 x.ps).all cw6))
def dd4 (x : PT) : Bool := !(dc6 x.ns) || !(dc6 (dc5 x.ps))
def dd5 : List Ex → Int
 | [] => 0
 | e :: r => bif cx7 e != 0 then cx7 e else dd5 r
def dd6 (l : List PT) : List Ex := l.flatMap fun x => x.ps.map fun p => p.e
def dd7 (p : PA) (create : Bool) : Int :=
 bif dc8 p then 4 else
 bif p.ns.length != p.es.length + 1 || p.es.any fun e => !dc9 e then 1 else
 bif !(dd3 p.vr) || (dd2 p.ns p.es).any badN then 6 else
 bif (dd2 p.ns p.es).any dd4 then 26 else
 bif dd5 (dd6 (dd2 p.ns p.es)) != 0 then dd5 (dd6 (dd2 p.ns p.es)) else
 bif (dd6 (dd2 p.ns p.es)).any dc4 then 9 else
 bif create && p.es.any fun e => !dd0 e then 1 else 0
end Go.Proofs.YtenpjlghikohmaaGreatDoor
namespace Go.Proofs.YtenpjlghikohmaaGreatDoor
set_option maxRecDepth 4000
open Go Go.Abs Go.Val Go.RowKit Go.Proofs.Tryz
attribute [local irreducible] go SGo an2 Ev aw2 EvO EvS
theorem dd8 {α : Type} {l : List α} {i : Nat} {x : α} (h : l[i]? = some x) : l.drop i = x :: l.drop (i + 1) := by
 obtain ⟨hi, rfl⟩ := ez7.1 h;exact fk7 hi
theorem dd9 {α : Type} {f : α → D} {l : List α} {i : Nat} {x : α} (h : l[i]? = some x) : (l.map f)[((i : Nat) : Int).toNat]? = some (f x) := by
 rw [show ((i : Nat) : Int).toNat = i by omega, ez8, h]; rfl
theorem de0 {α : Type} {f : α → D} {l : List α} (h : Fit (.sl (l.map f))) : l.length ≤ 9223372036854775807 ∧ ∀ x ∈ l, Fit (f x) := by
 obtain ⟨h1, h2⟩ := h.sls;exact ⟨by simpa using h1, fun x hx => h2 _ (fc4.2 ⟨x, hx, rfl⟩)⟩
def de1 : Option Nat → Int | some i => (i : Int) | none => -1
theorem de2 {α : Type} {l : List α} {f : α → Bool} {i : Nat} {x : α} (hx : l[i]? = some x) (hc : f x = true) (h : ∀ j, j < i → ∀ y, l[j]? = some y → f y = false) : l.findIdx? f = some i := by
 have hi := (ez7.1 hx).1;rw [fj8];refine ⟨hi, ?_, fun j hj => ?_⟩
 ·rw [ez5 hi] at hx
  cases hx
  exact hc
 ·have := h j hj _ (ez5 (by omega));simpa using this
theorem de3 {α : Type} {l : List α} {f : α → Bool} (h : ∀ j, j < l.length → ∀ y, l[j]? = some y → f y = false) : l.findIdx? f = none := by
 rw [fh4];intro x hx;obtain ⟨j, hj⟩ := fb0 hx;exact h j (ez7.1 hj).1 x hj
theorem de4 {α : Type} {l : List α} {f : α → Bool} : decide (de1 (l.findIdx? f) ≥ 0) = l.any f := by
 cases h : l.findIdx? f with
 | none =>
  rw [fh4] at h;have : l.any f = false := by rw [fh3]; intro x hx; simpa using h x hx
  rw [this]; rfl
 | some i =>
  obtain ⟨hi, h1, -⟩ := fj8.1 h;have : l.any f = true := fj9.2 ⟨_, fc9 hi, h1⟩;rw [this];simp [de1]
structure SFc {α : Type} (l : List α) (f : α → Bool) where
 i : Nat
 hi : i ≤ l.length
 ok : ∀ j, j < i → ∀ y, l[j]? = some y → f y = false
theorem SFc.next {α : Type} {l : List α} {f : α → Bool} {i : Nat} {x : α} (hx : l[i]? = some x) (hc : f x = false) (h : ∀ j, j < i → ∀ y, l[j]? = some y → f y = false) : ∀ j, j < i + 1 → ∀ y, l[j]? = some y → f y = false := by
 intro j hj y hy;rcases fl7.1 hj with h1 | rfl
 ·exact h j h1 y hy
 ·rw [hx] at hy; cases hy; exact hc
theorem de5 (fn : FuncId) (hb : an2 E fn) (f : ByteArray → Bool) (l : List (ByteArray)) (hf : ∀ x ∈ l, Ev E fn [D.str x] (.d (.bool (f x)))) : Ev E 236 [.sl (l.map D.str), .imm (.func (.func fn) #[] #[])] (.d (.int (de1 (l.findIdx? f)))) := Ev.fit fun hfit => by
 have hmax := (de0 (hfit (.sl (l.map D.str)) (by simp))).1;have hle : (l.map D.str).length = l.length := by simp
 refine ye2 func236 ntmps236 fun _ _ _=>?_
 repeat' (refine yz ?_)
 refine ac7 (α := SFc l f) (fun p => ⟨[(0, .d (.sl (l.map D.str))), (1, .d (.imm (.func (.func fn) #[] #[]))), (7, .d (.int (l.map D.str).length)), (8, .d (.int p.i))], []⟩) (fun p => l.length - p.i) ⟨0, by omega, fun j hj => absurd hj (by omega)⟩ (zle 0) ?_;rintro ⟨i, hi, ok⟩;dsimp only;rcases ez6 i l.length with hlt | hge
 ·have g1 : decide ((i : Int) < ((l.map D.str).length : Int)) = true := by rw [hle]; simpa using hlt
  have hx0 := ez5 hlt;generalize l[i] = y at hx0;have hx := dd9 (f := D.str) hx0;have h := hf y (ez9 hx0)
  cases hc : f y with
  | true =>
   rw [hc] at h;rw [de2 hx0 hc ok]
   repeat' (first | refine yz ?_ | refine yi (D.str y) hx ?_ | refine yp hb h ?_ | exact zD)
  | false =>
   rw [hc] at h
   repeat' (first | refine yz ?_ | refine yi (D.str y) hx ?_ | refine yp hb h ?_)
   refine ac1 ?_;exact ⟨⟨i + 1, by omega, SFc.next hx0 hc ok⟩, by dsimp only; omega, (zle 0)⟩
 ·have g1 : decide ((i : Int) < ((l.map D.str).length : Int)) = false := by rw [hle]; simp; omega
  rw [de3 fun j hj => ok j (by omega)]
  repeat' (first | refine yz ?_ | exact zD)
theorem de6 (fn : FuncId) (hb : an2 E fn) (f : ByteArray → Bool) (l : List (ByteArray)) (hf : ∀ x ∈ l, Ev E fn [D.str x] (.d (.bool (f x)))) : Ev E 149 [.sl (l.map D.str), .imm (.func (.func fn) #[] #[])] (.d (.bool (l.any f))) := by
 have h := de5 fn hb f l hf;rw [← de4];refine ye2 func149 ntmps149 fun _ _ _=>?_
 repeat' (first | refine yz ?_ | refine yp b236 h ?_ | exact zD)
theorem de7 (fn : FuncId) (hb : an2 E fn) (f : Ex → Bool) (l : List (Ex)) (hf : ∀ x ∈ l, Ev E fn [cq3 x] (.d (.bool (f x)))) : Ev E 261 [.sl (l.map cq3), .imm (.func (.func fn) #[] #[])] (.d (.int (de1 (l.findIdx? f)))) := Ev.fit fun hfit => by
 have hmax := (de0 (hfit (.sl (l.map cq3)) (by simp))).1;have hle : (l.map cq3).length = l.length := by simp
 refine ye2 func261 ntmps261 fun _ _ _=>?_
 repeat' (refine yz ?_)
 refine ac7 (α := SFc l f) (fun p => ⟨[(0, .d (.sl (l.map cq3))), (1, .d (.imm (.func (.func fn) #[] #[]))), (7, .d (.int (l.map cq3).length)), (8, .d (.int p.i))], []⟩) (fun p => l.length - p.i) ⟨0, by omega, fun j hj => absurd hj (by omega)⟩ (zle 0) ?_;rintro ⟨i, hi, ok⟩;dsimp only;rcases ez6 i l.length with hlt | hge
 ·have g1 : decide ((i : Int) < ((l.map cq3).length : Int)) = true := by rw [hle]; simpa using hlt
  have hx0 := ez5 hlt;generalize l[i] = y at hx0;have hx := dd9 (f := cq3) hx0;have h := hf y (ez9 hx0)
  cases hc : f y with
  | true =>
   rw [hc] at h;rw [de2 hx0 hc ok]
   repeat' (first | refine yz ?_ | refine yi (cq3 y) hx ?_ | refine yp hb h ?_ | exact zD)
  | false =>
   rw [hc] at h
   repeat' (first | refine yz ?_ | refine yi (cq3 y) hx ?_ | refine yp hb h ?_)
   refine ac1 ?_;exact ⟨⟨i + 1, by omega, SFc.next hx0 hc ok⟩, by dsimp only; omega, (zle 0)⟩
 ·have g1 : decide ((i : Int) < ((l.map cq3).length : Int)) = false := by rw [hle]; simp; omega
  rw [de3 fun j hj => ok j (by omega)]
  repeat' (first | refine yz ?_ | exact zD)
theorem de8 (fn : FuncId) (hb : an2 E fn) (f : Ex → Bool) (l : List (Ex)) (hf : ∀ x ∈ l, Ev E fn [cq3 x] (.d (.bool (f x)))) : Ev E 178 [.sl (l.map cq3), .imm (.func (.func fn) #[] #[])] (.d (.bool (l.any f))) := by
 have h := de7 fn hb f l hf;rw [← de4];refine ye2 func178 ntmps178 fun _ _ _=>?_
 repeat' (first | refine yz ?_ | refine yp b261 h ?_ | exact zD)
theorem de9 (fn : FuncId) (hb : an2 E fn) (f : EP → Bool) (l : List (EP)) (hf : ∀ x ∈ l, Ev E fn [dc2 x] (.d (.bool (f x)))) : Ev E 172 [.sl (l.map dc2), .imm (.func (.func fn) #[] #[])] (.d (.int (de1 (l.findIdx? f)))) := Ev.fit fun hfit => by
 have hmax := (de0 (hfit (.sl (l.map dc2)) (by simp))).1;have hle : (l.map dc2).length = l.length := by simp
 refine ye2 func172 ntmps172 fun _ _ _=>?_
 repeat' (refine yz ?_)
 refine ac7 (α := SFc l f) (fun p => ⟨[(0, .d (.sl (l.map dc2))), (1, .d (.imm (.func (.func fn) #[] #[]))), (7, .d (.int (l.map dc2).length)), (8, .d (.int p.i))], []⟩) (fun p => l.length - p.i) ⟨0, by omega, fun j hj => absurd hj (by omega)⟩ (zle 0) ?_;rintro ⟨i, hi, ok⟩;dsimp only;rcases ez6 i l.length with hlt | hge
 ·have g1 : decide ((i : Int) < ((l.map dc2).length : Int)) = true := by rw [hle]; simpa using hlt
  have hx0 := ez5 hlt;generalize l[i] = y at hx0;have hx := dd9 (f := dc2) hx0;have h := hf y (ez9 hx0)
  cases hc : f y with
  | true =>
   rw [hc] at h;rw [de2 hx0 hc ok]
   repeat' (first | refine yz ?_ | refine yi (dc2 y) hx ?_ | refine yp hb h ?_ | exact zD)
  | false =>
   rw [hc] at h
   repeat' (first | refine yz ?_ | refine yi (dc2 y) hx ?_ | refine yp hb h ?_)
   refine ac1 ?_;exact ⟨⟨i + 1, by omega, SFc.next hx0 hc ok⟩, by dsimp only; omega, (zle 0)⟩
 ·have g1 : decide ((i : Int) < ((l.map dc2).length : Int)) = false := by rw [hle]; simp; omega
  rw [de3 fun j hj => ok j (by omega)]
  repeat' (first | refine yz ?_ | exact zD)
theorem df0 (fn : FuncId) (hb : an2 E fn) (f : EP → Bool) (l : List (EP)) (hf : ∀ x ∈ l, Ev E fn [dc2 x] (.d (.bool (f x)))) : Ev E 87 [.sl (l.map dc2), .imm (.func (.func fn) #[] #[])] (.d (.bool (l.any f))) := by
 have h := de9 fn hb f l hf;rw [← de4];refine ye2 func87 ntmps87 fun _ _ _=>?_
 repeat' (first | refine yz ?_ | refine yp b172 h ?_ | exact zD)
theorem df1 : ∀ a b : List UInt8, (Op.bytesLess a b = true ∧ Op.bytesLess b a = false ∧ a ≠ b) ∨ (Op.bytesLess a b = false ∧ Op.bytesLess b a = true ∧ a ≠ b) ∨ (Op.bytesLess a b = false ∧ Op.bytesLess b a = false ∧ a = b)
 | [], [] => .inr (.inr ⟨rfl, rfl, rfl⟩)
 | [], _ :: _ => .inl ⟨rfl, rfl, by simp⟩
 | _ :: _, [] => .inr (.inl ⟨rfl, rfl, by simp⟩)
 | x :: a, y :: b => by
  have ih := df1 a b;simp only [Op.bytesLess];rcases Nat.lt_trichotomy x.toNat y.toNat with h | h | h
  ·have h1 : x < y := h;have h2 : ¬ y < x := fun h' => Nat.lt_asymm h h'
   have h3 : x ≠ y := fun e => by subst e; omega
   have h4 : (y == x) = false := by rw [beq_eq_false_iff_ne]; exact fun e => h3 e.symm
   left;refine ⟨by simp [h1], by simp [h2, h4], fun e => h3 (List.cons.inj e).1⟩
  ·have e : x = y := UInt8.toNat_inj.1 h;subst e;have h2 : ¬ x < x := fun h' => fi1 _ h'
   simp only [h2, decide_false, beq_self_eq_true, fc3, fe2];rcases ih with ⟨i1, i2, i3⟩ | ⟨i1, i2, i3⟩ | ⟨i1, i2, i3⟩
   ·exact .inl ⟨i1, i2, fun e => i3 (List.cons.inj e).2⟩
   ·exact .inr (.inl ⟨i1, i2, fun e => i3 (List.cons.inj e).2⟩)
   ·exact .inr (.inr ⟨i1, i2, by rw [i3]⟩)
  ·have h1 : y < x := h;have h2 : ¬ x < y := fun h' => Nat.lt_asymm h h'
   have h3 : x ≠ y := fun e => by subst e; omega
   have h4 : (x == y) = false := by rw [beq_eq_false_iff_ne]; exact h3
   right; left;refine ⟨by simp [h2, h4], by simp [h1], fun e => h3 (List.cons.inj e).1⟩
theorem df2 (a b : ByteArray) : (Op.bytesLess b.toList a.toList || b.toList == a.toList) = !Op.bytesLess a.toList b.toList := by
 rcases df1 a.toList b.toList with ⟨h1, h2, h3⟩ | ⟨h1, h2, h3⟩ | ⟨h1, h2, h3⟩
 ·rw [h1, h2, show (b.toList == a.toList) = false by rw [beq_eq_false_iff_ne]; exact fun e => h3 e.symm]; rfl
 ·rw [h1, h2]; rfl
 ·rw [h1, h2, h3]; simp
structure SRc (l : List ByteArray) where
 i : Nat
 hi : i + 1 ≤ l.length
 ok : dc6 l = dc6 (l.drop i)
theorem df3 {l : List ByteArray} {i : Nat} {a b : ByteArray} (ha : l[i]? = some a) (hb : l[i + 1]? = some b) : dc6 (l.drop i) = (Op.bytesLess a.toList b.toList && dc6 (l.drop (i + 1))) := by
 rw [dd8 ha, dd8 hb];rfl
theorem df4 {l : List ByteArray} {i : Nat} (h : i + 1 = l.length) : dc6 (l.drop i) = true := by
 obtain ⟨a, ha⟩ : ∃ a, l[i]? = some a := ⟨_, ez5 (by omega)⟩;rw [dd8 ha, fa1 (by omega)];rfl
theorem df5 (l : List ByteArray) : Ev E 94 [.sl (l.map .str)] (.d (.bool (dc6 l))) := Ev.fit fun hfit => by
 have hmax := (de0 (hfit (.sl (l.map .str)) (by simp))).1;have hle : (l.map D.str).length = l.length := by simp
 by_cases h0 : l = []
 ·subst h0;refine ye1 func94 ntmps94 fun _ _ _=>?_
  repeat' (refine yz ?_)
  refine ac7 (α := Unit) (fun p => ⟨[(0, .d (.sl [])), (3, .d (.int 1))], []⟩) (fun p => 0) () (zle 0) ?_;rintro -;have g1 : decide ((1 : Int) < (([] : List D).length : Int)) = false := rfl
  repeat' (first | refine yz ?_ | exact zD)
 have hp := fj2.2 h0;refine ye1 func94 ntmps94 fun _ _ _=>?_
 repeat' (refine yz ?_)
 refine ac7 (α := SRc l) (fun p => ⟨[(0, .d (.sl (l.map .str))), (3, .d (.int ((p.i + 1 : Nat) : Int)))], []⟩) (fun p => l.length - p.i) ⟨0, by omega, rfl⟩ (zle 0) ?_;rintro ⟨i, hi, ok⟩;dsimp only;rcases ez6 (i + 1) l.length with hlt | hge
 ·have g1 : decide (((i + 1 : Nat) : Int) < ((l.map D.str).length : Int)) = true := by rw [hle]; simp; omega
  have ha0 := ez5 (show i < l.length by omega);have hb0 := ez5 hlt;generalize l[i] = a at ha0;generalize l[i + 1] = b at hb0;have hb := dd9 (f := D.str) hb0
  have ha : (l.map D.str)[(((i + 1 : Nat) : Int) - 1).toNat]? = some (.str a) := by
   rw [show (((i + 1 : Nat) : Int) - 1) = (i : Int) by omega]; exact dd9 (f := D.str) ha0
  have g2 := df2 a b;rw [ok, df3 ha0 hb0]
  cases hc : Op.bytesLess a.toList b.toList with
  | true =>
   have hcn : (!Op.bytesLess a.toList b.toList) = false := by rw [hc]; rfl
   rw [hc] at g2
   repeat' (first | refine yz ?_ | refine yi (.str b) hb ?_ | refine yi (.str a) ha ?_)
   refine ac1 ?_;exact ⟨⟨i + 1, hlt, by rw [ok, df3 ha0 hb0, hc]; rfl⟩, by dsimp only; omega, (zle 0)⟩
  | false =>
   have hcn : (!Op.bytesLess a.toList b.toList) = true := by rw [hc]; rfl
   rw [hc] at g2
   repeat' (first | refine yz ?_ | refine yi (.str b) hb ?_ | refine yi (.str a) ha ?_ | exact zD)
 ·have g1 : decide (((i + 1 : Nat) : Int) < ((l.map D.str).length : Int)) = false := by rw [hle]; simp; omega
  rw [ok, df4 (by omega)]
  repeat' (first | refine yz ?_ | exact zD)
theorem df6 (s : ByteArray) : Ev E 174 [.str s] (.d (.bool (!cw6 s))) := by
 have h := cw8 s;refine ye1 func174 ntmps174 fun _ _ _=>?_
 repeat' (first | refine yz ?_ | refine yp b91 h ?_ | exact zD)
theorem df7 (l : List ByteArray) : Ev E 92 [.sl (l.map .str)] (.d (.bool (l.all cw6))) := by
 have h := de6 174 b174 (fun s => !cw6 s) l fun s _ => df6 s
 have e : (!(l.any fun s => !cw6 s)) = l.all cw6 := by rw [List.not_any_eq_all_not]; simp
 rw [← e];refine ye1 func92 ntmps92 fun _ _ _=>?_
 repeat' (first | refine yz ?_ | refine yp bv0 h ?_ | exact zD)
theorem df8 (e : Ex) : cq1 e = e.ks.map cq3 := by
 obtain ⟨op, v, nm, ds, ks⟩ := e;show cq2 ks = ks.map cq3
 induction ks with
 | nil => rfl
 | cons x r ih => simp only [cq2, fg7, ih]; rfl
theorem df9 (op : Int) (v : V) (nm : ByteArray) (ds : Bool) (ks : List Ex) : dc4 (.mk op v nm ds ks) = (op == 24 || ks.any dc4) := by
 have : hagL ks = ks.any dc4 := by
  induction ks with
  | nil => rfl
  | cons x r ih => rw [hagL, ih]; rfl
 rw [dc4, this]
theorem dg0 (e : Ex) : Ev E 96 [cq3 e] (.d (.bool (dc4 e))) := by
 refine xind (P := fun e => Ev E 96 [cq3 e] (.d (.bool (dc4 e)))) (fun op v nm ds ks ih => ?_) e;have h := de8 96 b96 dc4 ks ih;have hk := df8 (.mk op v nm ds ks);simp only [Ex.ks] at hk;rw [← hk] at h;rw [df9]
 cases c1 : op == 24 with
 | true =>
  refine ye1 func96 ntmps96 fun _ _ _=>?_
  repeat' (first | refine yz ?_ | refine yx ?_ | exact zD)
 | false =>
  refine ye1 func96 ntmps96 fun _ _ _=>?_
  repeat' (first | refine yz ?_ | refine yp b178 h ?_ | refine yx ?_ | exact zD)
theorem dg1 (e : EP) : Ev E 89 [dc2 e] (.d (.bool (dc9 e))) := by
 obtain ⟨vr, ty, dir, mode, mn, mx, ps⟩ := e;refine ye1 func89 ntmps89 fun _ _ _=>?_
 repeat' (first | refine yz ?_ | (refine yy ?_ ?_ <;> intro _) | (refine qV rfl ?_ ?_ <;> intro _))
 all_goals (refine congrArg D.bool ?_; simp_all [dc9, fk8])
 all_goals first | omega | (rw [ff6]; simp; omega)
theorem dg2 (e : EP) : Ev E 98 [dc2 e] (.d (.bool (dd0 e))) := by
 obtain ⟨vr, ty, dir, mode, mn, mx, ps⟩ := e;have hl : (ty.map D.str).length = ty.length := by simp
 refine ye1 func98 ntmps98 fun _ _ _=>?_
 repeat' (first | refine yz ?_ | (refine yy ?_ ?_ <;> intro _))
 all_goals (refine congrArg D.bool ?_; simp_all [dd0])
 all_goals first | omega | (rw [ff6]; simp; omega)
theorem dg3 (e : EP) : Ev E 88 [dc2 e] (.d (.bool (!dc9 e))) := by
 have h := dg1 e;refine ye1 func88 ntmps88 fun _ _ _=>?_
 repeat' (first | refine yz ?_ | refine yp b89 h ?_ | exact zD)
theorem dg4 (e : EP) : Ev E 97 [dc2 e] (.d (.bool (!dd0 e))) := by
 have h := dg2 e;refine ye1 func97 ntmps97 fun _ _ _=>?_
 repeat' (first | refine yz ?_ | refine yp b98 h ?_ | exact zD)
structure SKy (l : List PP) where
 i : Nat
 hi : i ≤ l.length
theorem dg5 {l : List PP} {i : Nat} {x : PP} (h : l[i]? = some x) : (dc5 (l.take (i + 1))).map D.str = (dc5 (l.take i)).map D.str ++ [.str x.key] := by
 rw [fg0, h];simp [dc5]
theorem dg6 (l : List PP) (hl : l.length ≤ 1000000) : Ev E 93 [.sl (l.map dc0)] (.d (.sl ((dc5 l).map .str))) := by
 have hle : (l.map dc0).length = l.length := by simp
 refine ye1 func93 ntmps93 fun _ _ _=>?_
 repeat' (refine yz ?_)
 refine ac7 (α := SKy l) (fun p => ⟨[(3, bi1 0 ((dc5 (l.take p.i)).map .str)), (6, .d (.sl (l.map dc0))), (7, .d (.int (l.map dc0).length)), (8, .d (.int p.i))], ay6 9 1 ((dc5 (l.take p.i)).map .str)⟩) (fun p => l.length - p.i) ⟨0, by omega⟩ (zle 0) ?_;rintro ⟨i, hi⟩;dsimp only;have hol : ((dc5 (l.take i)).map D.str).length ≤ 1000000 := by simp [dc5]; omega
 rcases ez6 i l.length with hlt | hge
 ·have g1 : decide ((i : Int) < ((l.map dc0).length : Int)) = true := by rw [hle]; simpa using hlt
  have hx0 := ez5 hlt;generalize l[i] = x at hx0;have hx := dd9 (f := dc0) hx0;have hnx := dg5 hx0;generalize (dc5 (l.take i)).map D.str = o at *
  match o, hol with
  | [], hol =>
   dsimp only [bi1, ay6]
   repeat' (first | refine yz ?_ | refine yi (dc0 x) hx ?_ | (refine qS rfl ⟨by simp, fun d hd => by (obtain rfl := fa0.1 hd; rfl), by (show (0 + 1) * 16 ≤ 140737488355328; omega), by (show 0 + 1 ≤ 9223372036854775807; omega)⟩ ?_))
   refine ac1 ?_;refine ⟨⟨i + 1, by omega⟩, by dsimp only; omega, ?_⟩;dsimp only;rw [hnx];exact (bi5 [1])
  | a :: q, hol =>
   dsimp only [bi1, ay6]
   repeat' (first | refine yz ?_ | refine yi (dc0 x) hx ?_ | (refine qS rfl ⟨by simp, fun d hd => by (obtain rfl := fa0.1 hd; rfl), by (show ((a :: q).length + 1) * 16 ≤ 140737488355328; omega), by (show (a :: q).length + 1 ≤ 9223372036854775807; omega)⟩ ?_))
   refine ac1 ?_;refine ⟨⟨i + 1, by omega⟩, by dsimp only; omega, ?_⟩;dsimp only;rw [hnx];exact (bi5 [2])
 ·have g1 : decide ((i : Int) < ((l.map dc0).length : Int)) = false := by rw [hle]; simp; omega
  rw [fe9 hge];generalize (dc5 l).map D.str = o at *
  match o with
  | [] =>
   dsimp only [bi1, ay6]
   repeat' (first | refine yz ?_ | exact zD)
  | a :: q =>
   dsimp only [bi1, ay6];refine qA ?_;refine au8 0 rfl ?_
   repeat' (first | refine yz ?_ | exact zD)
structure SLo (l : List EP) where
 i : Nat
 n : Int
 hi : i ≤ l.length
 h0 : 0 ≤ n
 h1 : n ≤ 13 * i
 ok : hopS l = (l.drop i).foldl (fun n e => n + dc7 e) n
theorem dg7 (e : EP) : 0 ≤ dc7 e ∧ dc7 e ≤ 13 := by
 unfold dc7
 cases e.mode == 0 <;> simp <;> omega
theorem dg8 (p : PA) : Ev E 86 [dc3 p] (.d (.bool (dc8 p))) := Ev.fit fun hfit => by
 obtain ⟨vr, ns, es⟩ := p;have hft := hfit (dc3 ⟨vr, ns, es⟩) (by simp);have hmn := (de0 (hft.aggs (.sl (ns.map dc1)) (by simp))).1;have hme := (de0 (hft.aggs (.sl (es.map dc2)) (by simp))).1;have hln : (ns.map dc1).length = ns.length := by simp
 have hle : (es.map dc2).length = es.length := by simp
 unfold dc8;dsimp only
 cases c1 : ns.length == 0 with
 | true =>
  have g1 : (((ns.map dc1).length : Int) == 0) = true := by rw [hln]; simp at c1 ⊢; omega
  refine ye1 func86 ntmps86 fun _ _ _=>?_
  repeat' (first | refine yz ?_ | refine yx ?_ | exact zD)
 | false =>
  have g1 : (((ns.map dc1).length : Int) == 0) = false := by rw [hln]; simp at c1 ⊢; omega
  cases c2 : decide (es.length > 6) with
  | true =>
   have g2 : decide (((es.map dc2).length : Int) > 6) = true := by rw [hle]; simp at c2 ⊢; omega
   refine ye1 func86 ntmps86 fun _ _ _=>?_
   repeat' (first | refine yz ?_ | refine yx ?_ | exact zD)
  | false =>
   have g2 : decide (((es.map dc2).length : Int) > 6) = false := by rw [hle]; simp at c2 ⊢; omega
   have h6 : es.length ≤ 6 := by simp at c2; omega
   rw [fe2, fe2];refine ye1 func86 ntmps86 fun _ _ _=>?_
   repeat' (first | refine yz ?_ | refine yx ?_)
   refine ac7 (α := SLo es) (fun p => ⟨[(3, .d (.int p.n)), (17, .d (.sl (es.map dc2))), (18, .d (.int (es.map dc2).length)), (19, .d (.int p.i))], []⟩) (fun p => es.length - p.i) ⟨0, 0, by omega, by omega, by omega, rfl⟩ (zle 0) ?_;rintro ⟨i, n, hi, h0, h1, ok⟩;dsimp only at ok ⊢;rcases ez6 i es.length with hlt | hge
   ·have g3 : decide ((i : Int) < ((es.map dc2).length : Int)) = true := by rw [hle]; simpa using hlt
    have hx0 := ez5 hlt;generalize es[i] = e at hx0;have hx := dd9 (f := dc2) hx0;have hr := dg7 e;rw [dd8 hx0, ff3] at ok
    cases c3 : e.mode == 0 with
    | true =>
     have hn : dc7 e = 1 := by unfold dc7; rw [c3]; rfl
     rw [hn] at ok
     repeat' (first | refine yz ?_ | refine yi (dc2 e) hx ?_)
     refine ac1 ?_;exact ⟨⟨i + 1, n + 1, by omega, by omega, by omega, ok⟩, by dsimp only; omega, (zle 0)⟩
    | false =>
     have hn : dc7 e = min (max e.mx 0) 13 := by unfold dc7; rw [c3]; rfl
     rw [hn] at ok hr;have hin : inR .i64 (n + min (max e.mx 0) 13) := by simp only [inR]; omega
     repeat' (first | refine yz ?_ | refine yi (dc2 e) hx ?_)
     refine ac1 ?_;exact ⟨⟨i + 1, n + min (max e.mx 0) 13, by omega, by omega, by omega, ok⟩, by dsimp only; omega, (zle 0)⟩
   ·have g3 : decide ((i : Int) < ((es.map dc2).length : Int)) = false := by rw [hle]; simp; omega
    have hn : hopS es = n := by rw [ok, fa1 hge]; rfl
    rw [hn]
    repeat' (first | refine yz ?_ | exact zD)
attribute [local irreducible] RGo
abbrev oPA (p : PA) : aa5 := .var 73 (.w (.d (dc3 p)))
structure SPa (ns : List NP) (es : List EP) where
 i : Nat
 o : List PT
 hi : i ≤ ns.length
 ho : o.length ≤ 2 * i
 ok : dd2 ns es = o ++ dd2 (ns.drop i) (es.drop i)
set_option maxHeartbeats 4000000 in
theorem dg9 (p : PA) (hn : p.ns.length ≤ 1000000) : Ev E 90 [dc3 p] (.d (.sl ((dd2 p.ns p.es).map dd1))) := Ev.fit fun hfit => by
 obtain ⟨vr, ns, es⟩ := p;dsimp only at hn ⊢;have hft := hfit (dc3 ⟨vr, ns, es⟩) (by simp);have hme := (de0 (hft.aggs (.sl (es.map dc2)) (by simp))).1;have hln : (ns.map dc1).length = ns.length := by simp
 have hle : (es.map dc2).length = es.length := by simp
 refine ye1 func90 ntmps90 fun _ _ _=>?_
 repeat' (first | refine yz ?_ | refine yx ?_ | (refine yy ?_ ?_ <;> intro _) | exact zD | exact zL)
 refine ac7 (α := SPa ns es) (fun p => ⟨[(3, bi1 1 (p.o.map dd1)), (1, .ptr 0 0), (7, .d (.sl (ns.map dc1))), (8, .d (.int (ns.map dc1).length)), (9, .d (.int p.i))], [oPA ⟨vr, ns, es⟩] ++ ay6 164 3 (p.o.map dd1)⟩) (fun p => ns.length - p.i) ⟨0, [], by omega, by simp, by simp⟩ (zle 1) ?_;rintro ⟨i, o, hi, ho, ok⟩;dsimp only at ho ok ⊢;have hol : (o.map dd1).length ≤ 2000000 := by simp; omega
 rcases ez6 i ns.length with hlt | hge
 ·have g1 : decide ((i : Int) < ((ns.map dc1).length : Int)) = true := by rw [hln]; simpa using hlt
  have hx0 := ez5 hlt;generalize ns[i] = x at hx0;have hx := dd9 (f := dc1) hx0;rw [dd8 hx0] at ok;rcases ez6 i es.length with hlt2 | hge2
  ·have g2 : decide ((i : Int) < ((es.map dc2).length : Int)) = true := by rw [hle]; simpa using hlt2
   have hy0 := ez5 hlt2;generalize es[i] = y at hy0;have hy := dd9 (f := dc2) hy0;rw [dd8 hy0, dd2] at ok;have hnx : (o ++ [ptN x, ptE y]).map dd1 = o.map dd1 ++ [dd1 (ptN x)] ++ [dd1 (ptE y)] := by simp
   have hok : dd2 ns es = (o ++ [ptN x, ptE y]) ++ dd2 (ns.drop (i + 1)) (es.drop (i + 1)) := by rw [ok]; simp
   have hon : (o ++ [ptN x, ptE y]).length ≤ 2 * (i + 1) := by simp; omega
   generalize o.map dd1 = oo at *
   match oo, hol with
   | [], hol =>
    dsimp only [bi1, ay6]
    repeat' (first | refine yq 7 [21] ?_ | refine yf 7 0 21 ?_ | refine yw ?_ | refine yf 7 22 1 ?_ | refine rgN ?_ | refine yv ?_ | refine yz ?_ | refine yi (dc1 x) hx ?_ | refine yi (dc2 y) hy ?_ | refine rgS (id := 7) (i := 21) rfl rfl rfl rfl (⟨by simp, fun d hd => by (obtain rfl := fa0.1 hd; rfl), by (show (1 + 1) * 64 ≤ 140737488355328; omega), by (show 1 + 1 ≤ 9223372036854775807; omega)⟩) (by repeat (first | exact trivial | refine ⟨⟨rfl, rfl⟩, ?_⟩ | refine ⟨trivial, ?_⟩)) ?_ | (refine qS rfl ⟨by simp, fun d hd => by (obtain rfl := fa0.1 hd; rfl), by (show (0 + 1) * 64 ≤ 140737488355328; omega), by (show 0 + 1 ≤ 9223372036854775807; omega)⟩ ?_) | refine yx ?_ | (refine yy ?_ ?_ <;> intro _) | exact zD | exact zL)
    refine ac1 ?_;refine ⟨⟨i + 1, o ++ [ptN x, ptE y], by omega, hon, hok⟩, by dsimp only; omega, ?_⟩;dsimp only;rw [hnx];exact (bi5 [0, 3])
   | a :: q, hol =>
    dsimp only [bi1, ay6];have hq2 : (a :: q ++ [dd1 (ptN x)]).length ≤ 2000001 := by rw [fb5]; exact Nat.add_le_add_right hol 1
    repeat' (first | refine yq 7 [21] ?_ | refine yf 7 0 21 ?_ | refine yw ?_ | refine yf 7 22 1 ?_ | refine rgN ?_ | refine yv ?_ | refine yz ?_ | refine yi (dc1 x) hx ?_ | refine yi (dc2 y) hy ?_ | refine rgS (id := 7) (i := 21) rfl rfl rfl rfl (⟨by simp, fun d hd => by (obtain rfl := fa0.1 hd; rfl), by (show ((a :: q ++ [dd1 (ptN x)]).length + 1) * 64 ≤ 140737488355328; omega), by (show (a :: q ++ [dd1 (ptN x)]).length + 1 ≤ 9223372036854775807; omega)⟩) (by repeat (first | exact trivial | refine ⟨⟨rfl, rfl⟩, ?_⟩ | refine ⟨trivial, ?_⟩)) ?_ | (refine qS rfl ⟨by simp, fun d hd => by (obtain rfl := fa0.1 hd; rfl), by (show ((a :: q).length + 1) * 64 ≤ 140737488355328; omega), by (show (a :: q).length + 1 ≤ 9223372036854775807; omega)⟩ ?_) | refine yx ?_ | (refine yy ?_ ?_ <;> intro _) | exact zD | exact zL)
    refine ac1 ?_;refine ⟨⟨i + 1, o ++ [ptN x, ptE y], by omega, hon, hok⟩, by dsimp only; omega, ?_⟩;dsimp only;rw [hnx];exact (bi5 [0, 4])
  ·have g2 : decide ((i : Int) < ((es.map dc2).length : Int)) = false := by rw [hle]; simp; omega
   have he0 : es.drop i = [] := fa1 hge2;have he1 : es.drop (i + 1) = [] := fa1 (by omega);rw [he0, dd2] at ok;have hnx : (o ++ [ptN x]).map dd1 = o.map dd1 ++ [dd1 (ptN x)] := by simp
   have hok : dd2 ns es = (o ++ [ptN x]) ++ dd2 (ns.drop (i + 1)) (es.drop (i + 1)) := by rw [ok, he1]; simp
   have hon : (o ++ [ptN x]).length ≤ 2 * (i + 1) := by simp; omega
   generalize o.map dd1 = oo at *
   match oo, hol with
   | [], hol =>
    dsimp only [bi1, ay6]
    repeat' (first | refine yz ?_ | refine yi (dc1 x) hx ?_ | (refine qS rfl ⟨by simp, fun d hd => by (obtain rfl := fa0.1 hd; rfl), by (show (0 + 1) * 64 ≤ 140737488355328; omega), by (show 0 + 1 ≤ 9223372036854775807; omega)⟩ ?_) | refine yx ?_ | (refine yy ?_ ?_ <;> intro _) | exact zD | exact zL)
    refine ac1 ?_;refine ⟨⟨i + 1, o ++ [ptN x], by omega, hon, hok⟩, by dsimp only; omega, ?_⟩;dsimp only;rw [hnx];exact (bi5 [0, 2])
   | a :: q, hol =>
    dsimp only [bi1, ay6]
    repeat' (first | refine yz ?_ | refine yi (dc1 x) hx ?_ | (refine qS rfl ⟨by simp, fun d hd => by (obtain rfl := fa0.1 hd; rfl), by (show ((a :: q).length + 1) * 64 ≤ 140737488355328; omega), by (show (a :: q).length + 1 ≤ 9223372036854775807; omega)⟩ ?_) | refine yx ?_ | (refine yy ?_ ?_ <;> intro _) | exact zD | exact zL)
    refine ac1 ?_;refine ⟨⟨i + 1, o ++ [ptN x], by omega, hon, hok⟩, by dsimp only; omega, ?_⟩;dsimp only;rw [hnx];exact (bi5 [0, 3])
 ·have g1 : decide ((i : Int) < ((ns.map dc1).length : Int)) = false := by rw [hln]; simp; omega
  rw [fa1 hge, dd2, fg4] at ok;rw [ok];generalize o.map dd1 = oo at *
  match oo with
  | [] =>
   dsimp only [bi1, ay6]
   repeat' (first | refine yz ?_ | refine yx ?_ | (refine yy ?_ ?_ <;> intro _) | exact zD | exact zL)
  | a :: q =>
   dsimp only [bi1, ay6];refine qA ?_;refine au8 1 rfl ?_
   repeat' (first | refine yz ?_ | refine yx ?_ | (refine yy ?_ ?_ <;> intro _) | exact zD | exact zL)
def okEx (e : Ex) : Prop := dp e ≤ 1000000 ∧ nd e ≤ 1000000
structure OkPA (p : PA) : Prop where
 n : p.ns.length ≤ 1000000
 x : (dd6 (dd2 p.ns p.es)).length ≤ 1000000
 e : ∀ e ∈ dd6 (dd2 p.ns p.es), okEx e
theorem dh0 {L : List PT} {x : PT} {q : PP} (hx : x ∈ L) (hq : q ∈ x.ps) : q.e ∈ dd6 L := fi4.2 ⟨x, hx, fc4.2 ⟨q, hq, rfl⟩⟩
theorem dh1 {x : PT} : ∀ {L : List PT}, x ∈ L → x.ps.length ≤ (dd6 L).length
 | y :: r, h => by
  have e : dd6 (y :: r) = y.ps.map (fun p => p.e) ++ dd6 r := by unfold dd6; rw [List.flatMap_cons]
  rw [e, fb5, fb8];rcases fa6.1 h with rfl | h
  ·omega
  ·have := dh1 h; omega
theorem dh2 : ∀ (ns : List NP) (es : List EP), (dd2 ns es).length ≤ 2 * ns.length
 | [], es => by cases es <;> simp [dd2]
 | n :: r, [] => by
  have := dh2 r [];simp [dd2]; omega
 | n :: r, e :: q => by
  have := dh2 r q;simp [dd2]; omega
structure SNc {α : Type} (l : List α) (f : α → Bool) where
 i : Nat
 hi : i ≤ l.length
 ok : l.any f = (l.drop i).any f
theorem dh3 {α : Type} {l : List α} {f : α → Bool} {i : Nat} {x : α} (h : l[i]? = some x) : (l.drop i).any f = (f x || (l.drop (i + 1)).any f) := by rw [dd8 h, fe6]
theorem dh4 (x : PT) (r : List PT) : dd6 (x :: r) = x.ps.map (fun p => p.e) ++ dd6 r := by unfold dd6; rw [List.flatMap_cons]
structure SEx (L : List PT) where
 i : Nat
 hi : i ≤ L.length
 g : Bool
 ok : dd5 (dd6 L) = dd5 (dd6 (L.drop i))
 hg : (dd6 L).any dc4 = (g || (dd6 (L.drop i)).any dc4)
structure SEy (L : List PT) (x : PT) (i : Nat) where
 j : Nat
 hj : j ≤ x.ps.length
 g : Bool
 ok : dd5 (dd6 L) = dd5 ((x.ps.drop j).map (fun p => p.e) ++ dd6 (L.drop (i + 1)))
 hg : (dd6 L).any dc4 = (g || ((x.ps.drop j).map (fun p => p.e) ++ dd6 (L.drop (i + 1))).any dc4)
set_option maxHeartbeats 4000000 in
theorem dh5 (p : PA) (cr : Bool) (hok : OkPA p) : Ev E 31 [dc3 p, .bool cr] (.d (.int (dd7 p cr))) := Ev.fit fun hfit => by
 have hlg := dg8 p;have hpt := dg9 p hok.n;have hwv := cw8 p.vr;have hcp := df0 88 b88 (fun e => !dc9 e) p.es fun e _ => dg3 e
 have hcq := df0 97 b97 (fun e => !dd0 e) p.es fun e _ => dg4 e
 have hLl : (dd2 p.ns p.es).length ≤ 2000000 := fd3 (dh2 _ _) (by have := hok.n; omega);have hopn := hok.x;have hope := hok.e;unfold dd7;generalize dd2 p.ns p.es = L at *;obtain ⟨vr, ns, es⟩ := p;dsimp only at hwv hcp hcq ⊢;have hft := hfit (dc3 ⟨vr, ns, es⟩) (by simp);have hmn := (de0 (hft.aggs (.sl (ns.map dc1)) (by simp))).1;have hme := (de0 (hft.aggs (.sl (es.map dc2)) (by simp))).1;have hln : (ns.map dc1).length = ns.length := by simp
 have hle : (es.map dc2).length = es.length := by simp
 have hlL : (L.map dd1).length = L.length := by simp
 cases c1 : dc8 ⟨vr, ns, es⟩ with
 | true =>
  rw [c1] at hlg;refine ye2 func31 ntmps31 fun _ _ _=>?_
  repeat' (first | refine yz ?_ | refine yp b86 hlg ?_ | exact zD)
 | false =>
  have h6 : es.length ≤ 6 := by
   unfold dc8 at c1;dsimp only at c1;rw [fh2, fh2] at c1;have := c1.1.2;simp at this;omega
  rw [c1] at hlg;simp only [cond_false]
  cases c2 : ns.length != es.length + 1 with
  | true =>
   have g2 : (((ns.map dc1).length : Int) != ((es.map dc2).length : Int) + 1) = true := by rw [hln, hle]; simp at c2 ⊢; omega
   refine ye2 func31 ntmps31 fun _ _ _=>?_
   repeat' (first | refine yz ?_ | refine yp b86 hlg ?_ | refine yx ?_ | exact zD)
  | false =>
   have g2 : (((ns.map dc1).length : Int) != ((es.map dc2).length : Int) + 1) = false := by rw [hln, hle]; simp at c2 ⊢; omega
   cases c3 : es.any fun e => !dc9 e with
   | true =>
    rw [c3] at hcp;refine ye2 func31 ntmps31 fun _ _ _=>?_
    repeat' (first | refine yz ?_ | refine yp b86 hlg ?_ | refine qP (d := 29) rfl rfl rfl rfl rfl rfl b87 (hcp) ?_ | refine yx ?_ | exact zD)
   | false =>
    rw [c3] at hcp;simp only [cond_false, fe2];have hsv : s0B vr = (vr.toList == (⟨#[]⟩ : ByteArray).toList) := rfl
    cases c4 : dd3 vr with
    | false =>
     refine ye2 func31 ntmps31 fun _ _ _=>?_
     repeat' (first | refine bf3 6 (fun b => ⟨[(41, .d (.bool b)), (1, .d (.bool cr)), (2, .ptr 0 0), (5, .d (.sl (L.map dd1)))], [oPA ⟨vr, ns, es⟩]⟩) (true) ?_ ?_ | refine yz ?_ | refine yp b86 hlg ?_ | refine qP (d := 29) rfl rfl rfl rfl rfl rfl b87 (hcp) ?_ | refine yp b90 hpt ?_ | refine yp b91 hwv ?_ | refine ac1 ⟨_, ?_, (zle 1)⟩ | refine yx ?_ | (refine yy ?_ ?_ <;> intro _) | exact zD)
     all_goals (clear hlg hpt hcp hcq hwv; simp_all [dd3])
    | true =>
     rw [ff7, fe2];refine ye2 func31 ntmps31 fun _ _ _=>?_
     repeat' (first | refine bf3 6 (fun b => ⟨[(41, .d (.bool b)), (1, .d (.bool cr)), (2, .ptr 0 0), (5, .d (.sl (L.map dd1)))], [oPA ⟨vr, ns, es⟩]⟩) (false) ?_ ?_ | refine yz ?_ | refine yp b86 hlg ?_ | refine qP (d := 29) rfl rfl rfl rfl rfl rfl b87 (hcp) ?_ | refine yp b90 hpt ?_ | refine yp b91 hwv ?_ | refine ac1 ⟨_, ?_, (zle 1)⟩ | refine yx ?_ | (refine yy ?_ ?_ <;> intro _))
     rotate_left
     all_goals first | (clear hlg hpt hcp hcq hwv; simp_all [dd3]; done) | skip
     have hnb : ∀ x ∈ L, x.ps.length ≤ 1000000 := fun x hx => fd3 (dh1 hx) hopn
     refine ac7 (α := SNc L badN) (fun p => ⟨[(1, .d (.bool cr)), (2, .ptr 0 0), (5, .d (.sl (L.map dd1))), (42, .d (.sl (L.map dd1))), (43, .d (.int (L.map dd1).length)), (44, .d (.int p.i))], [oPA ⟨vr, ns, es⟩]⟩) (fun p => L.length - p.i) ⟨0, by omega, rfl⟩ (zle 1) ?_;rintro ⟨i, hi, ok⟩;dsimp only at ok ⊢;rcases ez6 i L.length with hlt | hge
     ·have g5 : decide ((i : Int) < ((L.map dd1).length : Int)) = true := by rw [hlL]; simpa using hlt
      have hx0 := ez5 hlt;generalize L[i] = x at hx0;have hx := dd9 (f := dd1) hx0;have hk := dg6 x.ps (hnb x (ez9 hx0));have hw0 := cw8 x.nm;have hw1 := df7 x.ns;have hw2 := df7 (dc5 x.ps);obtain ⟨a0, h0⟩ : ∃ b, cw6 x.nm = b := ⟨_, rfl⟩;obtain ⟨a1, h1⟩ : ∃ b, x.ns.all cw6 = b := ⟨_, rfl⟩;obtain ⟨a2, h2⟩ : ∃ b, (dc5 x.ps).all cw6 = b := ⟨_, rfl⟩;have hbad : badN x = (!((x.nm.toList == (⟨#[]⟩ : ByteArray).toList) || a0) || (!a1 || !a2)) := by rw [← h0, ← h1, ← h2]; rfl
      rw [h0] at hw0;rw [h1] at hw1;rw [h2] at hw2;rw [dh3 hx0, hbad] at ok
      cases hb : (!((x.nm.toList == (⟨#[]⟩ : ByteArray).toList) || a0) || (!a1 || !a2)) with
      | true =>
       rw [hb, Bool.true_or] at ok;rw [ok]
       repeat' (first | refine bf3 11 (fun b => ⟨[(69, .d (.bool b))], [oPA ⟨vr, ns, es⟩]⟩) (true) ?_ ?_ | refine yz ?_ | refine yi (dd1 x) hx ?_ | refine yp b91 hw0 ?_ | refine qP (d := 60) rfl rfl rfl rfl rfl rfl b92 (hw1) ?_ | refine yp b93 hk ?_ | refine qP (d := 67) rfl rfl rfl rfl rfl rfl b92 (hw2) ?_ | refine ac1 ⟨_, ?_, (zle 1)⟩ | (refine yy ?_ ?_ <;> intro _) | exact zD)
       all_goals (clear hlg hpt hcp hcq hwv hk hw0 hw1 hw2 ok hbad h0 h1 h2 hfit hft hnb hope hopn hok c1 c2 c3 c4; simp_all)
      | false =>
       rw [hb, fe2] at ok
       repeat' (first | refine bf3 11 (fun b => ⟨[(69, .d (.bool b)), (1, .d (.bool cr)), (2, .ptr 0 0), (5, .d (.sl (L.map dd1))), (42, .d (.sl (L.map dd1))), (43, .d (.int (L.map dd1).length)), (44, .d (.int i))], [oPA ⟨vr, ns, es⟩]⟩) (false) ?_ ?_ | refine yz ?_ | refine yi (dd1 x) hx ?_ | refine yp b91 hw0 ?_ | refine qP (d := 60) rfl rfl rfl rfl rfl rfl b92 (hw1) ?_ | refine yp b93 hk ?_ | refine qP (d := 67) rfl rfl rfl rfl rfl rfl b92 (hw2) ?_ | refine ac1 ⟨_, ?_, (zle 1)⟩ | (refine yy ?_ ?_ <;> intro _))
       all_goals first | (refine ac1 ?_; exact ⟨⟨i + 1, by omega, ok⟩, by dsimp only; omega, (zle 1)⟩) | (clear hlg hpt hcp hcq hwv hk hw0 hw1 hw2 ok hbad h0 h1 h2 hfit hft hnb hope hopn hok c1 c2 c3 c4; simp_all; done)
     ·have g5 : decide ((i : Int) < ((L.map dd1).length : Int)) = false := by rw [hlL]; simp; omega
      rw [fa1 hge, fh5] at ok;rw [ok];simp only [cond_false]
      repeat' (refine yz ?_)
      clear ok hge hi g5;refine ac7 (α := SNc L dd4) (fun p => ⟨[(1, .d (.bool cr)), (2, .ptr 0 0), (5, .d (.sl (L.map dd1))), (71, .d (.sl (L.map dd1))), (72, .d (.int (L.map dd1).length)), (73, .d (.int p.i))], [oPA ⟨vr, ns, es⟩]⟩) (fun p => L.length - p.i) ⟨0, by omega, rfl⟩ (zle 1) ?_;rintro ⟨i, hi, ok⟩;dsimp only at ok ⊢;rcases ez6 i L.length with hlt | hge
      ·have g5 : decide ((i : Int) < ((L.map dd1).length : Int)) = true := by rw [hlL]; simpa using hlt
       have hx0 := ez5 hlt;generalize L[i] = x at hx0;have hx := dd9 (f := dd1) hx0;have hk := dg6 x.ps (hnb x (ez9 hx0));have hw1 := df5 x.ns;have hw2 := df5 (dc5 x.ps);obtain ⟨a1, h1⟩ : ∃ b, dc6 x.ns = b := ⟨_, rfl⟩;obtain ⟨a2, h2⟩ : ∃ b, dc6 (dc5 x.ps) = b := ⟨_, rfl⟩;have hbad : dd4 x = (!a1 || !a2) := by rw [← h1, ← h2]; rfl
       rw [h1] at hw1;rw [h2] at hw2;rw [dh3 hx0, hbad] at ok
       cases hb : (!a1 || !a2) with
       | true =>
        rw [hb, Bool.true_or] at ok;rw [ok]
        repeat' (first | refine bf3 17 (fun b => ⟨[(87, .d (.bool b))], [oPA ⟨vr, ns, es⟩]⟩) (true) ?_ ?_ | refine yz ?_ | refine yi (dd1 x) hx ?_ | refine qP (d := 79) rfl rfl rfl rfl rfl rfl b94 (hw1) ?_ | refine yp b93 hk ?_ | refine qP (d := 85) rfl rfl rfl rfl rfl rfl b94 (hw2) ?_ | refine ac1 ⟨_, ?_, (zle 1)⟩ | (refine yy ?_ ?_ <;> intro _) | exact zD)
        all_goals (clear hlg hpt hcp hcq hwv hk hw1 hw2 ok hbad h1 h2 hfit hft hnb hope hopn hok c1 c2 c3 c4; simp_all)
       | false =>
        rw [hb, fe2] at ok
        repeat' (first | refine bf3 17 (fun b => ⟨[(87, .d (.bool b)), (1, .d (.bool cr)), (2, .ptr 0 0), (5, .d (.sl (L.map dd1))), (71, .d (.sl (L.map dd1))), (72, .d (.int (L.map dd1).length)), (73, .d (.int i))], [oPA ⟨vr, ns, es⟩]⟩) (false) ?_ ?_ | refine yz ?_ | refine yi (dd1 x) hx ?_ | refine qP (d := 79) rfl rfl rfl rfl rfl rfl b94 (hw1) ?_ | refine yp b93 hk ?_ | refine qP (d := 85) rfl rfl rfl rfl rfl rfl b94 (hw2) ?_ | refine ac1 ⟨_, ?_, (zle 1)⟩ | (refine yy ?_ ?_ <;> intro _))
        all_goals first | (refine ac1 ?_; exact ⟨⟨i + 1, by omega, ok⟩, by dsimp only; omega, (zle 1)⟩) | (clear hlg hpt hcp hcq hwv hk hw1 hw2 ok hbad h1 h2 hfit hft hnb hope hopn hok c1 c2 c3 c4; simp_all; done)
      ·have g5 : decide ((i : Int) < ((L.map dd1).length : Int)) = false := by rw [hlL]; simp; omega
       rw [fa1 hge, fh5] at ok;rw [ok];simp only [cond_false]
       repeat' (refine yz ?_)
       clear ok hge hi g5;refine ac7 (α := SEx L) (fun p => ⟨[(1, .d (.bool cr)), (2, .ptr 0 0), (10, .d (.bool p.g)), (89, .d (.sl (L.map dd1))), (90, .d (.int (L.map dd1).length)), (91, .d (.int p.i))], [oPA ⟨vr, ns, es⟩]⟩) (fun p => L.length - p.i) ⟨0, by omega, false, rfl, by simp⟩ (zle 1) ?_;rintro ⟨i, hi, g, ok, hg⟩;dsimp only at ok hg ⊢;rcases ez6 i L.length with hlt | hge
       ·have g5 : decide ((i : Int) < ((L.map dd1).length : Int)) = true := by rw [hlL]; simpa using hlt
        have hx0 := ez5 hlt;generalize L[i] = x at hx0;have hx := dd9 (f := dd1) hx0;have hlp : (x.ps.map dc0).length = x.ps.length := by simp
        have hxn := hnb x (ez9 hx0);rw [dd8 hx0, dh4] at ok hg
        repeat' (first | refine yz ?_ | refine yi (dd1 x) hx ?_)
        refine ac7 (α := SEy L x i) (fun p => ⟨[(1, .d (.bool cr)), (2, .ptr 0 0), (10, .d (.bool p.g)), (89, .d (.sl (L.map dd1))), (90, .d (.int (L.map dd1).length)), (91, .d (.int i)), (96, .d (.sl (x.ps.map dc0))), (97, .d (.int (x.ps.map dc0).length)), (98, .d (.int p.j))], [oPA ⟨vr, ns, es⟩]⟩) (fun p => x.ps.length - p.j) ⟨0, by omega, g, ok, hg⟩ (zle 1) ?_;clear ok hg g;rintro ⟨j, hj, g, ok, hg⟩;dsimp only at ok hg ⊢;rcases ez6 j x.ps.length with hlt2 | hge2
        ·have g6 : decide ((j : Int) < ((x.ps.map dc0).length : Int)) = true := by rw [hlp]; simpa using hlt2
         have hq0 := ez5 hlt2;generalize x.ps[j] = q at hq0;have hq := dd9 (f := dc0) hq0;have hqe := hope q.e (dh0 (ez9 hx0) (ez9 hq0));have hce := cx8 q.e hqe.1 hqe.2;have hha := dg0 q.e;rw [dd8 hq0, fg7, fe3] at ok hg;rw [dd5] at ok;rw [fe6] at hg;obtain ⟨key, qe⟩ := q;dsimp only at hce hha ok hg
         cases he : cx7 qe != 0 with
         | true =>
          rw [he, cond_true] at ok;rw [ok, he, cond_true]
          repeat' (first | refine yz ?_ | refine yi (dc0 ⟨key, qe⟩) hq ?_ | refine yp b95 hce ?_ | exact zD)
         | false =>
          rw [he, cond_false] at ok
          cases g with
          | true =>
           repeat' (first | refine yz ?_ | refine yi (dc0 ⟨key, qe⟩) hq ?_ | refine yp b95 hce ?_)
           refine ac1 ?_;exact ⟨⟨j + 1, by omega, true, ok, by rw [hg]; simp⟩, by dsimp only; omega, (zle 1)⟩
          | false =>
           repeat' (first | refine yz ?_ | refine yi (dc0 ⟨key, qe⟩) hq ?_ | refine yp b95 hce ?_ | refine yp b96 hha ?_)
           refine ac1 ?_;exact ⟨⟨j + 1, by omega, dc4 qe, ok, by rw [hg]; simp⟩, by dsimp only; omega, (zle 1)⟩
        ·have g6 : decide ((j : Int) < ((x.ps.map dc0).length : Int)) = false := by rw [hlp]; simp; omega
         rw [fa1 hge2, List.map_nil, fd9] at ok hg
         repeat' (refine yz ?_)
         refine ac1 ?_;exact ⟨⟨i + 1, by omega, g, ok, hg⟩, by dsimp only; omega, (zle 1)⟩
       ·have g5 : decide ((i : Int) < ((L.map dd1).length : Int)) = false := by rw [hlL]; simp; omega
        rw [fa1 hge] at ok hg;have h0 : dd5 (dd6 L) = 0 := ok;have h1 : (dd6 L).any dc4 = g := by rw [hg]; simp [dd6]
        rw [h0, h1]
        cases g with
        | true =>
         repeat' (first | refine yz ?_ | exact zD)
        | false =>
         cases cr with
         | false =>
          repeat' (first | refine yz ?_ | exact zD)
         | true =>
          cases c9 : es.any fun e => !dd0 e with
          | true =>
           rw [c9] at hcq
           repeat' (first | refine yz ?_ | refine qP (d := 123) rfl rfl rfl rfl rfl rfl b87 (hcq) ?_ | exact zD)
          | false =>
           rw [c9] at hcq
           repeat' (first | refine yz ?_ | refine qP (d := 123) rfl rfl rfl rfl rfl rfl b87 (hcq) ?_ | exact zD)
end Go.Proofs.YtenpjlghikohmaaGreatDoor
