/- Expressions as canonical text: what both texts write; constants and signs; Expressions as canonical text, by both texts; Lists of expressions and operands as text, given the expressions' own texts, by both texts; Expressions as canonical text, by both texts; Clauses and queries: how they are read in memory; what the check of a path pattern and of a clause answers; The check of a path pattern's parts, by the program. Conditions: each part's own, as it says. -/
import Derived.Test.YtibfalecohlngaaGreatDoorMD
import Derived.Test.YtibfalecohlngaaGreatDoorMB
import Derived.Test.YtibfalecohlngaaGreatDoorGC
set_option linter.unusedVariables false
set_option linter.unusedSimpArgs false
namespace Go.Proofs.YtibfalecohlngaaGreatDoor
set_option maxRecDepth 4000
open Go Go.Abs Go.Val Go.RowKit Go.Proofs.Tryz
attribute [local irreducible] go SGo an2 Ev aw0 EvO EvS
def okN (e : Ex) : Prop := 1 ≤ e.op ∧ e.op ≤ 24 ∧ dj6 e = true ∧ (e.op = 1 → dk4 e.v = true)
end Go.Proofs.YtibfalecohlngaaGreatDoor
namespace Go.Proofs.YtibfalecohlngaaGreatDoor
set_option maxRecDepth 4000
open Go Go.Abs Go.Val Go.RowKit Go.Proofs.Tryz
mutual
def dq3 : Ex → Bool
 | .mk op _ _ _ ks => op == 24 || hagL ks
def hagL : List Ex → Bool
 | [] => false
 | x :: r => dq3 x || hagL r
end
end Go.Proofs.YtibfalecohlngaaGreatDoor
namespace Go.Proofs.YtibfalecohlngaaGreatDoor
set_option maxRecDepth 4000
open Go Go.Abs Go.Val Go.RowKit Go.Proofs.Tryz
attribute [local irreducible] go SGo an2 Ev aw0 EvO EvS
theorem dq4 {α : Type} {f : α → D} {l : List α} {i : Nat} {x : α} (h : l[i]? = some x) : (l.map f)[((i : Nat) : Int).toNat]? = some (f x) := by
 rw [show ((i : Nat) : Int).toNat = i by omega, fh1, h]; rfl
theorem dq5 {α : Type} {f : α → D} {l : List α} (h : Fit (.sl (l.map f))) : l.length ≤ 9223372036854775807 ∧ ∀ x ∈ l, Fit (f x) := by
 obtain ⟨h1, h2⟩ := h.sls;exact ⟨by simpa using h1, fun x hx => h2 _ (fk8.2 ⟨x, hx, rfl⟩)⟩
def optC : Option Nat → Int | some i => (i : Int) | none => -1
theorem dq6 {α : Type} {l : List α} {f : α → Bool} {i : Nat} {x : α} (hx : l[i]? = some x) (hc : f x = true) (h : ∀ j, j < i → ∀ y, l[j]? = some y → f y = false) : l.findIdx? f = some i := by
 have hi := (fg8.1 hx).1;rw [List.findIdx?_eq_some_iff_getElem];refine ⟨hi, ?_, fun j hj => ?_⟩
 ·rw [fg5 hi] at hx
  cases hx
  exact hc
 ·have := h j hj _ (fg5 (by omega));simpa using this
theorem dq7 {α : Type} {l : List α} {f : α → Bool} (h : ∀ j, j < l.length → ∀ y, l[j]? = some y → f y = false) : l.findIdx? f = none := by
 rw [List.findIdx?_eq_none_iff];intro x hx;obtain ⟨j, hj⟩ := fi4 hx;exact h j (fg8.1 hj).1 x hj
theorem dq8 {α : Type} {l : List α} {f : α → Bool} : decide (optC (l.findIdx? f) ≥ 0) = l.any f := by
 cases h : l.findIdx? f with
 | none =>
  rw [List.findIdx?_eq_none_iff] at h;have : l.any f = false := by rw [List.any_eq_false]; intro x hx; simpa using h x hx
  rw [this]; rfl
 | some i =>
  obtain ⟨hi, h1, -⟩ := List.findIdx?_eq_some_iff_getElem.1 h;have : l.any f = true := List.any_eq_true.2 ⟨_, fm8 hi, h1⟩;rw [this];simp [optC]
structure SFc {α : Type} (l : List α) (f : α → Bool) where
 i : Nat
 hi : i ≤ l.length
 ok : ∀ j, j < i → ∀ y, l[j]? = some y → f y = false
theorem SFc.next {α : Type} {l : List α} {f : α → Bool} {i : Nat} {x : α} (hx : l[i]? = some x) (hc : f x = false) (h : ∀ j, j < i → ∀ y, l[j]? = some y → f y = false) : ∀ j, j < i + 1 → ∀ y, l[j]? = some y → f y = false := by
 intro j hj y hy;rcases Nat.lt_succ_iff_lt_or_eq.1 hj with h1 | rfl
 ·exact h j h1 y hy
 ·rw [hx] at hy; cases hy; exact hc
theorem dq9 (fn : FuncId) (hb : an2 E fn) (f : Ex → Bool) (l : List (Ex)) (hf : ∀ x ∈ l, Ev E fn [dg0 x] (.d (.bool (f x)))) : Ev E 147 [.sl (l.map dg0), .imm (.func (.func fn) #[] #[])] (.d (.int (optC (l.findIdx? f)))) := Ev.fit fun hfit => by
 have hmax := (dq5 (hfit (.sl (l.map dg0)) (by simp))).1;have hle : (l.map dg0).length = l.length := by simp
 refine ye2 func147 ntmps147 fun _ _ _=>?_
 repeat' (refine yz ?_)
 refine ac7 (α := SFc l f) (fun p => ⟨[(0, .d (.sl (l.map dg0))), (1, .d (.imm (.func (.func fn) #[] #[]))), (7, .d (.int (l.map dg0).length)), (8, .d (.int p.i))], []⟩) (fun p => l.length - p.i) ⟨0, by omega, fun j hj => absurd hj (by omega)⟩ (zle 0) ?_;rintro ⟨i, hi, ok⟩;dsimp only;rcases fg7 i l.length with hlt | hge
 ·have g1 : decide ((i : Int) < ((l.map dg0).length : Int)) = true := by rw [hle]; simpa using hlt
  have hx0 := fg5 hlt;generalize l[i] = y at hx0;have hx := dq4 (f := dg0) hx0;have h := hf y (fg9 hx0)
  cases hc : f y with
  | true =>
   rw [hc] at h;rw [dq6 hx0 hc ok]
   repeat' (first | refine yz ?_ | refine yi (dg0 y) hx ?_ | refine yp hb h ?_ | exact zD)
  | false =>
   rw [hc] at h
   repeat' (first | refine yz ?_ | refine yi (dg0 y) hx ?_ | refine yp hb h ?_)
   refine ac1 ?_;exact ⟨⟨i + 1, by omega, SFc.next hx0 hc ok⟩, by dsimp only; omega, (zle 0)⟩
 ·have g1 : decide ((i : Int) < ((l.map dg0).length : Int)) = false := by rw [hle]; simp; omega
  rw [dq7 fun j hj => ok j (by omega)]
  repeat' (first | refine yz ?_ | exact zD)
theorem dr0 (fn : FuncId) (hb : an2 E fn) (f : Ex → Bool) (l : List (Ex)) (hf : ∀ x ∈ l, Ev E fn [dg0 x] (.d (.bool (f x)))) : Ev E 84 [.sl (l.map dg0), .imm (.func (.func fn) #[] #[])] (.d (.bool (l.any f))) := by
 have h := dq9 fn hb f l hf;rw [← dq8];refine ye2 func84 ntmps84 fun _ _ _=>?_
 repeat' (first | refine yz ?_ | refine yp b147 h ?_ | exact zD)
theorem dr1 : ∀ a b : List UInt8, (Op.bytesLess a b = true ∧ Op.bytesLess b a = false ∧ a ≠ b) ∨ (Op.bytesLess a b = false ∧ Op.bytesLess b a = true ∧ a ≠ b) ∨ (Op.bytesLess a b = false ∧ Op.bytesLess b a = false ∧ a = b)
 | [], [] => .inr (.inr ⟨rfl, rfl, rfl⟩)
 | [], _ :: _ => .inl ⟨rfl, rfl, by simp⟩
 | _ :: _, [] => .inr (.inl ⟨rfl, rfl, by simp⟩)
 | x :: a, y :: b => by
  have ih := dr1 a b;simp only [Op.bytesLess];rcases Nat.lt_trichotomy x.toNat y.toNat with h | h | h
  ·have h1 : x < y := h;have h2 : ¬ y < x := fun h' => Nat.lt_asymm h h'
   have h3 : x ≠ y := fun e => by subst e; omega
   have h4 : (y == x) = false := by rw [beq_eq_false_iff_ne]; exact fun e => h3 e.symm
   left;refine ⟨by simp [h1], by simp [h2, h4], fun e => h3 (List.cons.inj e).1⟩
  ·have e : x = y := UInt8.toNat_inj.1 h;subst e;have h2 : ¬ x < x := fun h' => fn9 _ h'
   simp only [h2, decide_false, beq_self_eq_true, fh3, fj6];rcases ih with ⟨i1, i2, i3⟩ | ⟨i1, i2, i3⟩ | ⟨i1, i2, i3⟩
   ·exact .inl ⟨i1, i2, fun e => i3 (List.cons.inj e).2⟩
   ·exact .inr (.inl ⟨i1, i2, fun e => i3 (List.cons.inj e).2⟩)
   ·exact .inr (.inr ⟨i1, i2, by rw [i3]⟩)
  ·have h1 : y < x := h;have h2 : ¬ x < y := fun h' => Nat.lt_asymm h h'
   have h3 : x ≠ y := fun e => by subst e; omega
   have h4 : (x == y) = false := by rw [beq_eq_false_iff_ne]; exact h3
   right; left;refine ⟨by simp [h2, h4], by simp [h1], fun e => h3 (List.cons.inj e).1⟩
theorem dr2 (e : Ex) : df8 e = e.ks.map dg0 := by
 obtain ⟨op, v, nm, ds, ks⟩ := e;show df9 ks = ks.map dg0
 induction ks with
 | nil => rfl
 | cons x r ih => simp only [df9, fj0, ih]; rfl
theorem dr3 (op : Int) (v : V) (nm : ByteArray) (ds : Bool) (ks : List Ex) : dq3 (.mk op v nm ds ks) = (op == 24 || ks.any dq3) := by
 have : hagL ks = ks.any dq3 := by
  induction ks with
  | nil => rfl
  | cons x r ih => rw [hagL, ih]; rfl
 rw [dq3, this]
theorem dr4 (e : Ex) : Ev E 183 [dg0 e] (.d (.bool (dq3 e))) := by
 refine dg9 (P := fun e => Ev E 183 [dg0 e] (.d (.bool (dq3 e)))) (fun op v nm ds ks ih => ?_) e;have h := dr0 183 b183 dq3 ks ih;have hk := dr2 (.mk op v nm ds ks);simp only [Ex.ks] at hk;rw [← hk] at h;rw [dr3]
 cases c1 : op == 24 with
 | true =>
  refine ye1 func183 ntmps183 fun _ _ _=>?_
  repeat' (first | refine yz ?_ | refine yx ?_ | exact zD)
 | false =>
  refine ye1 func183 ntmps183 fun _ _ _=>?_
  repeat' (first | refine yz ?_ | refine yp b84 h ?_ | refine yx ?_ | exact zD)
end Go.Proofs.YtibfalecohlngaaGreatDoor
