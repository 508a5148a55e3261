/- Expressions as canonical text: what both texts write; constants and signs; Expressions as canonical text, by both texts; Lists of expressions and operands as text, given the expressions' own texts, by both texts; Expressions as canonical text, by both texts; Clauses and queries: how they are read in memory; what the check of a path pattern and of a clause answers; The check of a path pattern's parts, by the program. Conditions: each part's own, as it says. -/
import Derived.Test.YtaiiailapeffgaaGreatDoorMD
import Derived.Test.YtaiiailapeffgaaGreatDoorMB
import Derived.Test.YtaiiailapeffgaaGreatDoorGC
set_option linter.unusedVariables false
set_option linter.unusedSimpArgs false
namespace Go.Proofs.YtaiiailapeffgaaGreatDoor
set_option maxRecDepth 4000
open Go Go.Abs Go.Val Go.RowKit Go.Proofs.Tryz
attribute [local irreducible] go SGo an2 Ev aw0 EvO EvS
def cstT (v : V) : List UInt8 :=
 bif v.k == 1 then (bif v.n == 1 then [84, 82, 85, 69] else [70, 65, 76, 83, 69]) else
 bif v.k == 2 then (bif decide (v.n < 0) then [40] ++ Lib.itoa v.n ++ [41] else Lib.itoa v.n) else
 bif v.k == 4 then txt v else [78, 85, 76, 76]
def sgT (op : Int) : List UInt8 :=
 bif op == 7 then [43] else bif op == 8 then [45] else bif op == 9 then [42] else bif op == 10 then [47] else bif op == 11 then [37] else bif op == 12 then [61] else
 bif op == 13 then [60, 62] else bif op == 14 then [60] else bif op == 15 then [60, 61] else bif op == 16 then [62] else bif op == 17 then [62, 61] else
 bif op == 18 then [65, 78, 68] else bif op == 19 then [79, 82] else [73, 78]
def oprF (op : Int) : Bool := decide (op ≥ 5) && decide (op ≤ 21)
def txN (op : Int) (v : V) (nm : List UInt8) (ds : Bool) (ts os : List (List UInt8)) : List UInt8 :=
 bif op == 1 then cstT v else
 bif op == 2 then nm else
 bif op == 3 then os.getD 0 [] ++ [46] ++ nm else
 bif op == 4 then os.getD 0 [] ++ [58] ++ nm else
 bif op == 5 then [78, 79, 84, 32] ++ os.getD 0 [] else
 bif op == 6 then [45] ++ os.getD 0 [] else
 bif op == 21 then os.getD 0 [] ++ [32, 73, 83, 32, 78, 85, 76, 76] else
 bif op == 22 then [91] ++ Lib.join ts [44, 32] ++ [93] else
 bif op == 23 then nm ++ [40] ++ Lib.join ts [44, 32] ++ [41] else
 bif op == 24 then (bif ts.isEmpty then nm ++ [40, 42, 41] else bif ds then nm ++ [40, 68, 73, 83, 84, 73, 78, 67, 84, 32] ++ ts.getD 0 [] ++ [41] else nm ++ [40] ++ ts.getD 0 [] ++ [41]) else
 os.getD 0 [] ++ [32] ++ sgT op ++ [32] ++ os.getD 1 []
mutual
def txE : Ex → List UInt8
 | .mk op v nm ds ks => txN op v nm.data.toList ds (txL ks) (opL ks)
def txL : List Ex → List (List UInt8)
 | [] => []
 | x :: r => txE x :: txL r
def opL : List Ex → List (List UInt8)
 | [] => []
 | x :: r => (bif oprF x.op then [40] ++ txE x ++ [41] else txE x) :: opL r
end
def okN (e : Ex) : Prop := 1 ≤ e.op ∧ e.op ≤ 24 ∧ db9 e = true ∧ (e.op = 1 → dc7 e.v = true)
end Go.Proofs.YtaiiailapeffgaaGreatDoor
namespace Go.Proofs.YtaiiailapeffgaaGreatDoor
set_option maxRecDepth 4000
open Go Go.Abs Go.Val Go.RowKit Go.Proofs.Tryz
attribute [local irreducible] go SGo an2 Ev aw0 EvO EvS
end Go.Proofs.YtaiiailapeffgaaGreatDoor
namespace Go.Proofs.YtaiiailapeffgaaGreatDoor
set_option maxRecDepth 4000
open Go Go.Abs Go.Val Go.RowKit Go.Proofs.Tryz
structure PP where
 key : ByteArray
 e : Ex
structure NP where
 vr : ByteArray
 lb : List ByteArray
 ps : List PP
structure EP where
 vr : ByteArray
 ty : List ByteArray
 dir : Int
 mode : Int
 mn : Int
 mx : Int
 ps : List PP
structure PA where
 vr : ByteArray
 ns : List NP
 es : List EP
structure IT where
 e : Ex
 asn : ByteArray
structure SK where
 e : Ex
 dc : Bool
structure SIt where
 vr : ByteArray
 key : ByteArray
 lb : ByteArray
 off : Bool
 e : Ex
structure CL where
 k : Int
 opt : Bool
 ds : Bool
 ps : List PA
 wh : List Ex
 e : Ex
 nm : ByteArray
 it : List IT
 od : List SK
 sk : Int
 lm : Int
 st : List SIt
 ns : List ByteArray
def di6 (p : PP) : D := .agg [.str p.key, .int p.e.op, .int p.e.v.k, .int p.e.v.n, .int p.e.v.d, .str p.e.v.s, .sl (kids p.e.v), .str p.e.nm, .bool p.e.ds, .sl (cy1 p.e)]
def encNP (n : NP) : D := .agg [.str n.vr, .sl (n.lb.map .str), .sl (n.ps.map di6)]
def encEP (e : EP) : D := .agg [.str e.vr, .sl (e.ty.map .str), .int e.dir, .int e.mode, .int e.mn, .int e.mx, .sl (e.ps.map di6)]
def di7 (p : PA) : D := .agg [.str p.vr, .sl (p.ns.map encNP), .sl (p.es.map encEP)]
def di8 (x : IT) : D := .agg [.int x.e.op, .int x.e.v.k, .int x.e.v.n, .int x.e.v.d, .str x.e.v.s, .sl (kids x.e.v), .str x.e.nm, .bool x.e.ds, .sl (cy1 x.e), .str x.asn]
def di9 (x : SK) : D := .agg [.int x.e.op, .int x.e.v.k, .int x.e.v.n, .int x.e.v.d, .str x.e.v.s, .sl (kids x.e.v), .str x.e.nm, .bool x.e.ds, .sl (cy1 x.e), .bool x.dc]
def dj0 (x : SIt) : D := .agg [.str x.vr, .str x.key, .str x.lb, .bool x.off, .int x.e.op, .int x.e.v.k, .int x.e.v.n, .int x.e.v.d, .str x.e.v.s, .sl (kids x.e.v), .str x.e.nm, .bool x.e.ds, .sl (cy1 x.e)]
def dj1 (c : CL) : D := .agg [.int c.k, .bool c.opt, .bool c.ds, .sl (c.ps.map di7), .sl (cy2 c.wh), .int c.e.op, .int c.e.v.k, .int c.e.v.n, .int c.e.v.d, .str c.e.v.s, .sl (kids c.e.v), .str c.e.nm, .bool c.e.ds, .sl (cy1 c.e),
 .str c.nm, .sl (c.it.map di8), .sl (c.od.map di9), .int c.sk, .int c.lm, .sl (c.st.map dj0), .sl (c.ns.map .str)]
def s0B (s : ByteArray) : Bool := isS s ⟨#[]⟩
mutual
def dj2 : Ex → Bool
 | .mk op _ _ _ ks => op == 24 || dj3 ks
def dj3 : List Ex → Bool
 | [] => false
 | x :: r => dj2 x || dj3 r
end
def dj4 (l : List PP) : List ByteArray := l.map fun p => p.key
def risF : List ByteArray → Bool
 | a :: b :: r => Op.bytesLess a.toList b.toList && risF (b :: r)
 | _ => true
def hopN (e : EP) : Int := bif e.mode == 0 then 1 else min (max e.mx 0) 13
def hopS (l : List EP) : Int := l.foldl (fun n e => n + hopN e) 0
def longF (p : PA) : Bool := (p.ns.length == 0 || decide (p.es.length > 6)) || decide (hopS p.es > 12)
def hopF (e : EP) : Bool :=
 bif (decide (e.dir < 1) || decide (e.dir > 3)) || (decide (e.mode < 0) || decide (e.mode > 5)) then false else
 bif e.mode == 0 then e.mn == 0 && e.mx == 0 else decide (e.mn ≥ 0) && (decide (e.mn ≤ e.mx) && (decide (e.mx ≥ 1) && (decide (e.mx ≤ 6) && e.ps.length == 0)))
def creF (e : EP) : Bool := e.mode == 0 && (e.ty.length == 1 && e.dir != 3)
structure PT where
 nm : ByteArray
 ns : List ByteArray
 ps : List PP
def ptN (n : NP) : PT := ⟨n.vr, n.lb, n.ps⟩
def ptE (e : EP) : PT := ⟨e.vr, e.ty, e.ps⟩
def dj5 : List NP → List EP → List PT
 | [], _ => []
 | n :: r, [] => ptN n :: dj5 r []
 | n :: r, e :: q => ptN n :: ptE e :: dj5 r q
def dj6 (s : ByteArray) : Bool := s0B s || dg9 s
def badN (x : PT) : Bool := !(dj6 x.nm) || (!(x.ns.all dg9) || !((dj4 x.ps).all dg9))
def badRs (x : PT) : Bool := !(risF x.ns) || !(risF (dj4 x.ps))
def firE : List Ex → Int
 | [] => 0
 | e :: r => bif di3 e != 0 then di3 e else firE r
def exsF (l : List PT) : List Ex := l.flatMap fun x => x.ps.map fun p => p.e
def pathF (p : PA) (create : Bool) : Int :=
 bif longF p then 4 else
 bif p.ns.length != p.es.length + 1 || p.es.any fun e => !hopF e then 1 else
 bif !(dj6 p.vr) || (dj5 p.ns p.es).any badN then 6 else
 bif (dj5 p.ns p.es).any badRs then 26 else
 bif firE (exsF (dj5 p.ns p.es)) != 0 then firE (exsF (dj5 p.ns p.es)) else
 bif (exsF (dj5 p.ns p.es)).any dj2 then 9 else
 bif create && p.es.any fun e => !creF e then 1 else 0
def dj7 (e : Ex) : Bool := e.op == 0 && (db6 e.v && (s0B e.nm && (!e.ds && e.ks.length == 0)))
def absF (n : Int) : Bool := n == 0 || n == -1
def dj8 (c : CL) : Bool :=
 let w := c.k == 3 || c.k == 4
 bif c.opt && !(c.k == 1 || c.k == 8) || c.ds && !w then true else
 bif decide (c.ps.length > 0) && !(c.k == 1 || (c.k == 5 || c.k == 6)) || decide (c.wh.length > 0) && !(c.k == 1 || c.k == 3) then true else
 bif !(c.k == 2) && (!(dj7 c.e) || !(s0B c.nm)) || !w && (decide (c.it.length > 0) || decide (c.od.length > 0)) then true else
 bif !w && (!(absF c.sk) || !(absF c.lm)) || (decide (c.sk < -1) || (decide (c.sk > 1000000000000000) || (decide (c.lm < -1) || decide (c.lm > 1000000000000000)))) then true else
 decide (c.st.length > 0) && !(c.k == 7) || decide (c.ns.length > 0) && !(c.k == 8)
def inN (n lo hi : Nat) : Bool := decide (lo ≤ n) && decide (n ≤ hi)
def dj9 (c : CL) : Bool :=
 bif c.k == 1 || c.k == 5 then !(inN c.ps.length 1 6) || decide (c.wh.length > 1) else
 bif c.k == 6 then c.ps.length != 1 else
 bif c.k == 3 || c.k == 4 then !(inN c.it.length 1 16) || (decide (c.od.length > 16) || decide (c.wh.length > 1)) else
 bif c.k == 7 then !(inN c.st.length 1 16) else
 bif c.k == 8 then !(inN c.ns.length 1 16) else false
def setF (x : SIt) : Int :=
 bif !(s0B x.lb) && (!(s0B x.key) || !(dj7 x.e)) || s0B x.lb && x.off then 1 else
 bif !(dg9 x.vr) || (!(s0B x.lb) && !(dg9 x.lb) || s0B x.lb && !(dg9 x.key)) then 6 else
 bif s0B x.lb then di3 x.e else 0
def firI : List Int → Int
 | [] => 0
 | x :: r => bif x != 0 then x else firI r
def wrdI (s : ByteArray) : Int := bif dg9 s then 0 else 6
def dk0 (c : CL) : Int :=
 bif (decide (c.k < 1) || decide (c.k > 8)) || dj8 c then 1 else
 bif dj9 c then 4 else
 firI (c.ps.map (fun p => pathF p (c.k == 5)) ++ c.wh.map di3 ++ (bif c.k == 2 then [di3 c.e, wrdI c.nm] else []) ++ c.it.flatMap (fun x => [di3 x.e, wrdI x.asn]) ++ c.od.map (fun x => di3 x.e) ++ c.st.map setF ++ c.ns.map wrdI)
end Go.Proofs.YtaiiailapeffgaaGreatDoor
namespace Go.Proofs.YtaiiailapeffgaaGreatDoor
set_option maxRecDepth 4000
open Go Go.Abs Go.Val Go.RowKit Go.Proofs.Tryz
attribute [local irreducible] go SGo an2 Ev aw0 EvO EvS
theorem dk1 {α : Type} {l : List α} {i : Nat} {x : α} (h : l[i]? = some x) : l.drop i = x :: l.drop (i + 1) := by
 obtain ⟨hi, rfl⟩ := fk2.1 h;exact List.drop_eq_getElem_cons hi
theorem dk2 {α : Type} {f : α → D} {l : List α} {i : Nat} {x : α} (h : l[i]? = some x) : (l.map f)[((i : Nat) : Int).toNat]? = some (f x) := by
 rw [show ((i : Nat) : Int).toNat = i by omega, fk7, h]; rfl
theorem dk3 {α : Type} {f : α → D} {l : List α} (h : Fit (.sl (l.map f))) : l.length ≤ 9223372036854775807 ∧ ∀ x ∈ l, Fit (f x) := by
 obtain ⟨h1, h2⟩ := h.sls;exact ⟨by simpa using h1, fun x hx => h2 _ (fo8.2 ⟨x, hx, rfl⟩)⟩
def dk4 : Option Nat → Int | some i => (i : Int) | none => -1
theorem dk5 {α : Type} {l : List α} {f : α → Bool} {i : Nat} {x : α} (hx : l[i]? = some x) (hc : f x = true) (h : ∀ j, j < i → ∀ y, l[j]? = some y → f y = false) : l.findIdx? f = some i := by
 have hi := (fk2.1 hx).1;rw [List.findIdx?_eq_some_iff_getElem];refine ⟨hi, ?_, fun j hj => ?_⟩
 ·rw [fk0 hi] at hx
  cases hx
  exact hc
 ·have := h j hj _ (fk0 (by omega));simpa using this
theorem dk6 {α : Type} {l : List α} {f : α → Bool} (h : ∀ j, j < l.length → ∀ y, l[j]? = some y → f y = false) : l.findIdx? f = none := by
 rw [List.findIdx?_eq_none_iff];intro x hx;obtain ⟨j, hj⟩ := fm0 hx;exact h j (fk2.1 hj).1 x hj
theorem dk7 {α : Type} {l : List α} {f : α → Bool} : decide (dk4 (l.findIdx? f) ≥ 0) = l.any f := by
 cases h : l.findIdx? f with
 | none =>
  rw [List.findIdx?_eq_none_iff] at h;have : l.any f = false := by rw [List.any_eq_false]; intro x hx; simpa using h x hx
  rw [this]; rfl
 | some i =>
  obtain ⟨hi, h1, -⟩ := List.findIdx?_eq_some_iff_getElem.1 h;have : l.any f = true := List.any_eq_true.2 ⟨_, fq3 hi, h1⟩;rw [this];simp [dk4]
structure SFc {α : Type} (l : List α) (f : α → Bool) where
 i : Nat
 hi : i ≤ l.length
 ok : ∀ j, j < i → ∀ y, l[j]? = some y → f y = false
theorem SFc.next {α : Type} {l : List α} {f : α → Bool} {i : Nat} {x : α} (hx : l[i]? = some x) (hc : f x = false) (h : ∀ j, j < i → ∀ y, l[j]? = some y → f y = false) : ∀ j, j < i + 1 → ∀ y, l[j]? = some y → f y = false := by
 intro j hj y hy;rcases Nat.lt_succ_iff_lt_or_eq.1 hj with h1 | rfl
 ·exact h j h1 y hy
 ·rw [hx] at hy; cases hy; exact hc
theorem dk8 (fn : FuncId) (hb : an2 E fn) (f : Ex → Bool) (l : List (Ex)) (hf : ∀ x ∈ l, Ev E fn [cy3 x] (.d (.bool (f x)))) : Ev E 143 [.sl (l.map cy3), .imm (.func (.func fn) #[] #[])] (.d (.int (dk4 (l.findIdx? f)))) := Ev.fit fun hfit => by
 have hmax := (dk3 (hfit (.sl (l.map cy3)) (by simp))).1;have hle : (l.map cy3).length = l.length := by simp
 refine ye2 func143 ntmps143 fun _ _ _=>?_
 repeat' (refine yz ?_)
 refine ac7 (α := SFc l f) (fun p => ⟨[(0, .d (.sl (l.map cy3))), (1, .d (.imm (.func (.func fn) #[] #[]))), (7, .d (.int (l.map cy3).length)), (8, .d (.int p.i))], []⟩) (fun p => l.length - p.i) ⟨0, by omega, fun j hj => absurd hj (by omega)⟩ (zle 0) ?_;rintro ⟨i, hi, ok⟩;dsimp only;rcases fk1 i l.length with hlt | hge
 ·have g1 : decide ((i : Int) < ((l.map cy3).length : Int)) = true := by rw [hle]; simpa using hlt
  have hx0 := fk0 hlt;generalize l[i] = y at hx0;have hx := dk2 (f := cy3) hx0;have h := hf y (fk4 hx0)
  cases hc : f y with
  | true =>
   rw [hc] at h;rw [dk5 hx0 hc ok]
   repeat' (first | refine yz ?_ | refine yi (cy3 y) hx ?_ | refine yp hb h ?_ | exact zD)
  | false =>
   rw [hc] at h
   repeat' (first | refine yz ?_ | refine yi (cy3 y) hx ?_ | refine yp hb h ?_)
   refine ac1 ?_;exact ⟨⟨i + 1, by omega, SFc.next hx0 hc ok⟩, by dsimp only; omega, (zle 0)⟩
 ·have g1 : decide ((i : Int) < ((l.map cy3).length : Int)) = false := by rw [hle]; simp; omega
  rw [dk6 fun j hj => ok j (by omega)]
  repeat' (first | refine yz ?_ | exact zD)
theorem dk9 (fn : FuncId) (hb : an2 E fn) (f : Ex → Bool) (l : List (Ex)) (hf : ∀ x ∈ l, Ev E fn [cy3 x] (.d (.bool (f x)))) : Ev E 90 [.sl (l.map cy3), .imm (.func (.func fn) #[] #[])] (.d (.bool (l.any f))) := by
 have h := dk8 fn hb f l hf;rw [← dk7];refine ye2 func90 ntmps90 fun _ _ _=>?_
 repeat' (first | refine yz ?_ | refine yp b143 h ?_ | exact zD)
theorem dl0 : ∀ a b : List UInt8, (Op.bytesLess a b = true ∧ Op.bytesLess b a = false ∧ a ≠ b) ∨ (Op.bytesLess a b = false ∧ Op.bytesLess b a = true ∧ a ≠ b) ∨ (Op.bytesLess a b = false ∧ Op.bytesLess b a = false ∧ a = b)
 | [], [] => .inr (.inr ⟨rfl, rfl, rfl⟩)
 | [], _ :: _ => .inl ⟨rfl, rfl, by simp⟩
 | _ :: _, [] => .inr (.inl ⟨rfl, rfl, by simp⟩)
 | x :: a, y :: b => by
  have ih := dl0 a b;simp only [Op.bytesLess];rcases Nat.lt_trichotomy x.toNat y.toNat with h | h | h
  ·have h1 : x < y := h;have h2 : ¬ y < x := fun h' => Nat.lt_asymm h h'
   have h3 : x ≠ y := fun e => by subst e; omega
   have h4 : (y == x) = false := by rw [beq_eq_false_iff_ne]; exact fun e => h3 e.symm
   left;refine ⟨by simp [h1], by simp [h2, h4], fun e => h3 (List.cons.inj e).1⟩
  ·have e : x = y := UInt8.toNat_inj.1 h;subst e;have h2 : ¬ x < x := fun h' => fr5 _ h'
   simp only [h2, decide_false, beq_self_eq_true, fm3, fn1];rcases ih with ⟨i1, i2, i3⟩ | ⟨i1, i2, i3⟩ | ⟨i1, i2, i3⟩
   ·exact .inl ⟨i1, i2, fun e => i3 (List.cons.inj e).2⟩
   ·exact .inr (.inl ⟨i1, i2, fun e => i3 (List.cons.inj e).2⟩)
   ·exact .inr (.inr ⟨i1, i2, by rw [i3]⟩)
  ·have h1 : y < x := h;have h2 : ¬ x < y := fun h' => Nat.lt_asymm h h'
   have h3 : x ≠ y := fun e => by subst e; omega
   have h4 : (x == y) = false := by rw [beq_eq_false_iff_ne]; exact h3
   right; left;refine ⟨by simp [h2, h4], by simp [h1], fun e => h3 (List.cons.inj e).1⟩
theorem dl1 (e : Ex) : cy1 e = e.ks.map cy3 := by
 obtain ⟨op, v, nm, ds, ks⟩ := e;show cy2 ks = ks.map cy3
 induction ks with
 | nil => rfl
 | cons x r ih => simp only [cy2, fl5, ih]; rfl
theorem dl2 (op : Int) (v : V) (nm : ByteArray) (ds : Bool) (ks : List Ex) : dj2 (.mk op v nm ds ks) = (op == 24 || ks.any dj2) := by
 have : dj3 ks = ks.any dj2 := by
  induction ks with
  | nil => rfl
  | cons x r ih => rw [dj3, ih]; rfl
 rw [dj2, this]
theorem dl3 (e : Ex) : Ev E 120 [cy3 e] (.d (.bool (dj2 e))) := by
 refine cz2 (P := fun e => Ev E 120 [cy3 e] (.d (.bool (dj2 e)))) (fun op v nm ds ks ih => ?_) e;have h := dk9 120 bt4 dj2 ks ih;have hk := dl1 (.mk op v nm ds ks);simp only [Ex.ks] at hk;rw [← hk] at h;rw [dl2]
 cases c1 : op == 24 with
 | true =>
  refine ye1 func120 ntmps120 fun _ _ _=>?_
  repeat' (first | refine yz ?_ | refine yx ?_ | exact zD)
 | false =>
  refine ye1 func120 ntmps120 fun _ _ _=>?_
  repeat' (first | refine yz ?_ | refine yp b90 h ?_ | refine yx ?_ | exact zD)
end Go.Proofs.YtaiiailapeffgaaGreatDoor
