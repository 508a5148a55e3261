/- The check of a path pattern, by the program; The check of a path pattern, by the program; The check of a path pattern's parts, by the specification; The specification's size of a path pattern, and its expressions; The specification's check of a path pattern; The specification's check of a path pattern, whole; Words on clauses' parts, by both texts: the zero expression, absent numbers, assignments; Clauses as canonical text: what both texts write, and how long it is; What an atom must look like, and what names and variables a query must have: the parts of Check, by both texts; The parts of Chec. Conditions: each part's own, as it says. -/
import Derived.Test.YtaiiailapeffgaaGreatDoorGC
import Derived.Test.YtaiiailapeffgaaGreatDoorMF
import Derived.Test.YtaiiailapeffgaaGreatDoorLA
import Derived.Test.YtaiiailapeffgaaGreatDoorMB
import Derived.Test.YtaiiailapeffgaaGreatDoorMD
import Derived.Test.YtaiiailapeffgaaGreatDoorPA
import Derived.Test.YtaiiailapeffgaaGreatDoorUA
set_option linter.unusedVariables false
set_option linter.unusedSimpArgs false
namespace Go.Proofs.YtaiiailapeffgaaGreatDoor
set_option maxRecDepth 4000
open Go Go.Abs Go.Val Go.RowKit Go.Proofs.Tryz
attribute [local irreducible] go SGo an2 Ev aw0 EvO EvS RGo
structure SNc {α : Type} (l : List α) (f : α → Bool) where
 i : Nat
 hi : i ≤ l.length
 ok : l.any f = (l.drop i).any f
theorem es6 {α : Type} {l : List α} {f : α → Bool} {i : Nat} {x : α} (h : l[i]? = some x) : (l.drop i).any f = (f x || (l.drop (i + 1)).any f) := by rw [dk1 h, List.any_cons]
theorem es7 (e : Ex) : Ev E 105 [cy3 e] (.d (.bool (dj2 e))) := by
 refine cz2 (P := fun e => Ev E 105 [cy3 e] (.d (.bool (dj2 e)))) (fun op v nm ds ks ih => Ev.fit fun hfit => ?_) e;have hk := dl1 (.mk op v nm ds ks);simp only [Ex.ks] at hk;have hle : (cy1 (.mk op v nm ds ks)).length = ks.length := by rw [hk]; simp
 obtain ⟨-, -, -, hmax, -⟩ := cz0 (hfit (cy3 (.mk op v nm ds ks)) (by simp));simp only [Ex.ks] at hmax;rw [dl2]
 cases c1 : op == 24 with
 | true =>
  refine ye1 func105 ntmps105 fun _ _ _=>?_
  repeat' (first | refine yz ?_ | refine yx ?_ | (refine yy ?_ ?_ <;> intro _) | exact zD | exact zL)
 | false =>
  rw [fn1];refine ye1 func105 ntmps105 fun _ _ _=>?_
  repeat' (first | refine yz ?_ | refine yx ?_ | (refine yy ?_ ?_ <;> intro _) | exact zD | exact zL)
  refine ac7 (α := SNc ks dj2) (fun p => ⟨[(1, .ptr 0 0), (3, .d (.int p.i))], [.var 27 (.w (.d (cy3 (.mk op v nm ds ks))))]⟩) (fun p => ks.length - p.i) ⟨0, by omega, rfl⟩ (zle 1) ?_;rintro ⟨i, hi, ok⟩;dsimp only at ok ⊢;rcases fk1 i ks.length with hlt | hge
  ·have g1 : decide ((i : Int) < ((cy1 (.mk op v nm ds ks)).length : Int)) = true := by rw [hle]; simpa using hlt
   have hx0 := fk0 hlt;generalize ks[i] = x at hx0;have hx : (cy1 (.mk op v nm ds ks))[((i : Nat) : Int).toNat]? = some (cy3 x) := by rw [hk]; exact dk2 (f := cy3) hx0
   have h := ih x (fk4 hx0);rw [es6 hx0] at ok
   cases hc : dj2 x with
   | true =>
    rw [hc] at h ok;rw [ok]
    repeat' (first | refine yz ?_ | refine yi (cy3 x) hx ?_ | refine yp b105 h ?_ | refine yx ?_ | (refine yy ?_ ?_ <;> intro _) | exact zD | exact zL)
   | false =>
    rw [hc] at h ok
    repeat' (first | refine yz ?_ | refine yi (cy3 x) hx ?_ | refine yp b105 h ?_ | refine yx ?_ | (refine yy ?_ ?_ <;> intro _) | exact zD | exact zL)
    refine ac1 ?_;exact ⟨⟨i + 1, by omega, by rw [ok]; rfl⟩, by dsimp only; omega, (zle 1)⟩
  ·have g1 : decide ((i : Int) < ((cy1 (.mk op v nm ds ks)).length : Int)) = false := by rw [hle]; simp; omega
   rw [ok, fl9 hge]
   repeat' (first | refine yz ?_ | refine yx ?_ | (refine yy ?_ ?_ <;> intro _) | exact zD | exact zL)
theorem Le.same {C : Cx} {tm tm' : List (Nat × X)} {ob : List aa5} (h : ∀ p ∈ tm', lk tm p.1 = p.2) : Le C ⟨tm, ob⟩ ⟨tm', ob⟩ := by
 rintro a w ⟨F, σ, h1, h2, h3, hi, h4, h5, hs⟩;refine ⟨F, σ, h1, h2, h3, hi, h4, h5, fun t => ?_⟩
 have key : ∀ l : List (Nat × X), (∀ p ∈ l, lk tm p.1 = p.2) → lk l t = lk tm t ∨ lk l t = .top := by
  intro l
  induction l with
  | nil => exact fun _ => .inr rfl
  | cons p r ih =>
   intro hp;obtain ⟨k, x⟩ := p;simp only [lk]
   cases hb : Nat.beq k t with
   | true =>
    obtain rfl := fk6 hb;exact .inl (hp (k, x) (by simp)).symm
   | false => exact ih fun q hq => hp q (by simp [hq])
 rcases key tm' h with e | e
 ·show RdX w F σ (lk tm' t) _;rw [e]; exact hs t
 ·show RdX w F σ (lk tm' t) _;rw [e]; trivial
theorem es8 (e : Ex) : Ev E 98 [cy3 e] (.d (.bool (dj7 e))) := by
 obtain ⟨op, v, nm, ds, ks⟩ := e;have hb := db8 v;have hk := cy8 (.mk op v nm ds ks);simp only [Ex.ks] at hk;obtain ⟨bv, hbv⟩ : ∃ b, db6 v = b := ⟨_, rfl⟩;have hz : dj7 (.mk op v nm ds ks) = (op == 0 && (bv && (nm.toList == (⟨#[]⟩ : ByteArray).toList && (!ds && ks.length == 0)))) := by rw [← hbv]; rfl
 rw [hbv] at hb;refine ye1 func98 ntmps98 fun _ _ _=>?_
 repeat' (first | refine yz ?_ | refine yp b156 hb ?_ | refine yx ?_ | (refine yy ?_ ?_ <;> intro _) | (refine qV rfl ?_ ?_ <;> intro _) | exact zD | exact zL)
 all_goals (refine congrArg D.bool ?_; rw [hz]; clear hz hb hbv; simp_all [Ex.op, Ex.nm, Ex.ds])
 all_goals (rw [fm5]; simp)
 all_goals omega
end Go.Proofs.YtaiiailapeffgaaGreatDoor
namespace Go.Proofs.YtaiiailapeffgaaGreatDoor
set_option maxRecDepth 4000
open Go Go.Abs Go.Val Go.RowKit Go.Proofs.Tryz
def bl (s : ByteArray) : List UInt8 := s.data.toList
def odT (x : SK) : List UInt8 := bif x.dc then txE x.e ++ [32, 68, 69, 83, 67] else txE x.e
def obT (l : List SK) : List UInt8 := bif l.length == 0 then [] else [32, 79, 82, 68, 69, 82, 32, 66, 89, 32] ++ Lib.join (l.map odT) [44, 32]
end Go.Proofs.YtaiiailapeffgaaGreatDoor
namespace Go.Proofs.YtaiiailapeffgaaGreatDoor
set_option maxRecDepth 4000
open Go Go.Abs Go.Val Go.Proofs.Tryz
attribute [local irreducible] go SGo an2 Ev aw0 EvO EvS PGo RGo cm0
def ariN (k : Int) : Nat := bif k == 1 then 1 else bif k == 2 then 1 else bif k == 4 then 1 else bif k == 3 then 3 else 0
def es9 : List ByteArray → Bool
 | [] => true
 | [_] => true
 | a :: b :: r => Op.bytesLess a.toList b.toList && es9 (b :: r)
def nmE (s : ByteArray) : Bool := s.toList == (⟨#[]⟩ : ByteArray).toList
def et0 (a : AT) : Bool :=
 bif ariN a.k == 0 || a.vs.length != ariN a.k then false else
 bif a.vs.any fun v => decide (v < 0) then false else
 bif (a.k != 3 && decide (a.ty.length > 0)) || ((a.k != 1 && a.k != 2) && !nmE a.nm) then false else
 bif a.k == 2 then bs1 a.v else es9 a.ty && cm0 a.v br5 == 0
structure SFi {α : Type} (l : List α) (f : α → Bool) where
 i : Nat
 hi : i ≤ l.length
 ok : ∀ j, j < i → ∀ y, l[j]? = some y → f y = false
theorem SFi.next {α : Type} {l : List α} {f : α → Bool} {i : Nat} {x : α} (hx : l[i]? = some x) (hc : f x = false) (h : ∀ j, j < i → ∀ y, l[j]? = some y → f y = false) : ∀ j, j < i + 1 → ∀ y, l[j]? = some y → f y = false := by
 intro j hj y hy;rcases Nat.lt_succ_iff_lt_or_eq.1 hj with h1 | rfl
 ·exact h j h1 y hy
 ·rw [hx] at hy; cases hy; exact hc
def et1 (a : AT) : Bool := !((a.k == 1 || a.k == 2) && !cz4 a.nm) && !(a.ty.any fun t => !cz4 t)
def twF (l : List ByteArray) : Bool := (List.range l.length).any fun i => (List.range i).any fun k => match l[i]?, l[k]? with | some a, some b => a.toList == b.toList | _, _ => false
def usdF (l : List AT) (v : Int) : Bool := l.any fun a => a.vs.any fun y => y == v
end Go.Proofs.YtaiiailapeffgaaGreatDoor
namespace Go.Proofs.YtaiiailapeffgaaGreatDoor
set_option maxRecDepth 4000
open Go Go.Abs Go.Val Go.RowKit Go.Sort Go.Proofs Go.Proofs.Tryz
def badF (n : Int) (a : AT) : Bool := !et0 a || a.vs.any fun v => decide (v ≥ n)
def chkC (c : CJ) : Int :=
 bif decide (c.vs.length > 24) || decide (c.as.length > 12) then 4 else
 bif c.as.any (badF c.vs.length) then 1 else
 bif twF c.vs then 7 else
 bif c.as.any (fun a => !et1 a) then 6 else
 bif (List.range c.vs.length).any (fun j => !usdF c.as j) then 25 else 0
end Go.Proofs.YtaiiailapeffgaaGreatDoor
namespace Go.Proofs.YtaiiailapeffgaaGreatDoor
set_option maxRecDepth 4000
open Go Go.Abs Go.Val Go.RowKit Go.Proofs.Tryz
structure PB where
 op : Int
 cj : CJ
 cl : CL
 e : Ex
 nm : ByteArray
 it : List IT
 od : List SK
 sk : Int
 lm : Int
inductive Pl where
 | mk (b : PB) (ks : List Pl)
def Pl.b : Pl → PB | .mk b _ => b
def Pl.ks : Pl → List Pl | .mk _ ks => ks
theorem et2 {P : Pl → Prop} (h : ∀ b ks, (∀ x ∈ ks, P x) → P (.mk b ks)) (p : Pl) : P p :=
 Pl.rec (motive_1 := P) (motive_2 := fun l => ∀ x ∈ l, P x) (fun b ks ih => h b ks ih) (fun x hx => by cases hx)
  (fun a r ha hr x hx => by rcases fl1.1 hx with rfl | hx; exact ha; exact hr x hx) p
def et3 (b : PB) (K : List D) : D := .agg [.int b.op, .sl K, .sl (b.cj.vs.map .str), .sl (b.cj.as.map eg7),
 .int b.cl.k, .bool b.cl.opt, .bool b.cl.ds, .sl (b.cl.ps.map di7), .sl (cy2 b.cl.wh), .int b.cl.e.op, .int b.cl.e.v.k, .int b.cl.e.v.n, .int b.cl.e.v.d, .str b.cl.e.v.s, .sl (kids b.cl.e.v), .str b.cl.e.nm, .bool b.cl.e.ds, .sl (cy1 b.cl.e),
 .str b.cl.nm, .sl (b.cl.it.map di8), .sl (b.cl.od.map di9), .int b.cl.sk, .int b.cl.lm, .sl (b.cl.st.map dj0), .sl (b.cl.ns.map .str),
 .int b.e.op, .int b.e.v.k, .int b.e.v.n, .int b.e.v.d, .str b.e.v.s, .sl (kids b.e.v), .str b.e.nm, .bool b.e.ds, .sl (cy1 b.e),
 .str b.nm, .sl (b.it.map di8), .sl (b.od.map di9), .int b.sk, .int b.lm]
mutual
def et4 : Pl → D
 | .mk b ks => et3 b (et5 ks)
def et5 : List Pl → List D
 | [] => []
 | p :: r => et4 p :: et5 r
end
theorem et6 : ∀ l : List Pl, et5 l = l.map et4
 | [] => rfl
 | p :: r => by rw [et5, fl5, et6 r]
theorem et7 (b : PB) (ks : List Pl) : et4 (.mk b ks) = et3 b (ks.map et4) := by rw [et4, et6]
def et8 (op : Int) : Int := bif op == 1 || op == 2 then 0 else bif op == 3 || op == 4 then 2 else bif decide (op ≥ 5) && decide (op ≤ 11) then 1 else -1
def et9 (c : CL) : Bool := c.k == 0 && (!c.opt && (!c.ds && (c.ps.length == 0 && (c.wh.length == 0 && (dj7 c.e && (s0B c.nm && (c.it.length == 0 && (c.od.length == 0 && (c.sk == 0 && (c.lm == 0 && (c.st.length == 0 && c.ns.length == 0)))))))))))
def fldF (b : PB) : Bool :=
 (b.op == 2 || b.cj.vs.length == 0 && b.cj.as.length == 0) && ((bif b.op == 5 then b.cl.k == 1 else et9 b.cl) && ((b.op == 6 || (b.op == 11 || dj7 b.e)) && ((b.op == 11 || s0B b.nm) && (b.op == 7 || (b.op == 8 || b.it.length == 0)))))
def endF (b : PB) : Bool := bif b.op == 10 then decide (b.sk ≥ -1) && decide (b.lm ≥ -1) else b.od.length == 0 && (b.sk == 0 && b.lm == 0)
def eu0 (b : PB) (n : Nat) : Bool := et8 b.op == n && (fldF b && endF b)
def unnF (s : ByteArray) : Bool := match s.data.toList with
 | a :: b :: r => a == 95 && (b != 48 && (b :: r).all fun c => decide (48 ≤ c) && decide (c ≤ 57))
 | _ => false
def eu1 (a b : List ByteArray) : List ByteArray := a ++ b.filter fun s => !(cv9 a s)
def eu2 (l : List ByteArray) (s : ByteArray) : List ByteArray := bif s0B s || cv9 l s then l else l ++ [s]
def ilvP : List NP → List EP → List ByteArray
 | [], es => es.map EP.vr
 | n :: r, [] => n.vr :: r.map NP.vr
 | n :: r, e :: q => n.vr :: e.vr :: ilvP r q
def eu3 (l : List PA) : List ByteArray := l.flatMap fun p => ilvP p.ns p.es ++ [p.vr]
def eu4 (l : List PA) : List ByteArray := (eu3 l).foldl eu2 []
abbrev CR := List ByteArray × Int
def erR (e : Int) : CR := ([], e)
def mltF (c : CJ) : CR := bif chkC c != 0 then erR (chkC c) else bif c.vs.all (fun s => dg9 s || unnF s) then (c.vs, 0) else erR 6
def prxF (l : List PA) : List Ex := l.flatMap fun p => (p.ns.flatMap fun n => n.ps.map fun q => q.e) ++ p.es.flatMap fun n => n.ps.map fun q => q.e
def aplF (c : CL) (cols : List ByteArray) : CR :=
 bif dk0 c != 0 then erR (dk0 c) else
 bif !((prxF c.ps).all fun e => em6 e cols) then erR 6 else
 bif !(c.wh.all fun e => em6 e (eu1 cols (eu4 c.ps))) then erR 6 else
 bif c.wh.any dj2 then erR 9 else (eu1 cols (eu4 c.ps), 0)
def eu5 (grp : Bool) (x : IT) (cols out : List ByteArray) : Int :=
 bif di3 x.e != 0 then di3 x.e else
 bif !(dg9 x.asn) || !(em6 x.e cols) then 6 else
 bif dj2 x.e && !(grp && x.e.op == 24) then 9 else
 bif cv9 out x.asn then 7 else 0
def eu6 (grp : Bool) (cols : List ByteArray) : List IT → List ByteArray → CR
 | [], out => (out, 0)
 | x :: r, out => bif eu5 grp x cols out != 0 then erR (eu5 grp x cols out) else eu6 grp cols r (out ++ [x.asn])
def sotF (cols : List ByteArray) : List SK → Int
 | [] => 0
 | x :: r => bif em7 x.e cols != 0 then em7 x.e cols else sotF cols r
def eu7 (b : PB) (cols : List ByteArray) : Int :=
 bif di3 b.e != 0 then di3 b.e else
 bif !(dg9 b.nm) || !(em6 b.e cols) then 6 else
 bif dj2 b.e then 9 else
 bif cv9 cols b.nm then 7 else 0
def eu8 (e : Int) (cols : List ByteArray) : CR := bif e != 0 then erR e else (cols, 0)
def eu9 (b : PB) (cols : List (List ByteArray)) : CR :=
 bif !(eu0 b cols.length) then erR 25 else
 bif b.op == 1 then ([], 0) else
 bif b.op == 2 then mltF b.cj else
 bif b.op == 3 || b.op == 4 then (eu1 (cols.getD 0 []) (cols.getD 1 []), 0) else
 bif b.op == 5 then aplF b.cl (cols.getD 0 []) else
 bif b.op == 6 then eu8 (em7 b.e (cols.getD 0 [])) (cols.getD 0 []) else
 bif b.op == 7 || b.op == 8 then (bif decide (b.it.length > 24) then erR 4 else eu6 (b.op == 8) (cols.getD 0 []) b.it []) else
 bif b.op == 9 then (cols.getD 0 [], 0) else
 bif b.op == 10 then eu8 (sotF (cols.getD 0 []) b.od) (cols.getD 0 []) else eu8 (eu7 b (cols.getD 0 [])) (cols.getD 0 [] ++ [b.nm])
mutual
def ev0 : Pl → CR
 | .mk b ks => bif (ev1 ks).2 != 0 then erR (ev1 ks).2 else eu9 b (ev1 ks).1
def ev1 : List Pl → List (List ByteArray) × Int
 | [] => ([], 0)
 | p :: r => bif (ev0 p).2 != 0 then ([], (ev0 p).2) else bif (ev1 r).2 != 0 then ([], (ev1 r).2) else ((ev0 p).1 :: (ev1 r).1, 0)
end
mutual
def dpP : Pl → Nat
 | .mk _ ks => ev2 ks + 1
def ev2 : List Pl → Nat
 | [] => 0
 | p :: r => max (dpP p) (ev2 r)
end
mutual
def szP : Pl → Nat
 | .mk _ ks => ev3 ks + 1
def ev3 : List Pl → Nat
 | [] => 0
 | p :: r => szP p + ev3 r
end
def ev4 (p : Pl) : CR := bif decide (dpP p > 200) then erR 5 else bif decide (szP p > 2000) then erR 4 else ev0 p
theorem ev5 : ∀ {l : List Pl} {x : Pl}, x ∈ l → szP x ≤ ev3 l
 | [], _, h => by cases h
 | a :: r, x, h => by
  rw [ev3];rcases fl1.1 h with rfl | h
  ·omega
  ·have := ev5 h; omega
theorem ev6 : ∀ l : List Pl, l.length ≤ ev3 l
 | [] => fk9 _
 | .mk b ks :: r => by
  have := ev6 r;rw [ev3, szP, fk5]; omega
theorem ev7 (p : Pl) : dpP p ≤ szP p := by
 refine et2 (P := fun p => dpP p ≤ szP p) (fun b ks ih => ?_) p;rw [dpP, szP]
 have key : ∀ l : List Pl, (∀ x ∈ l, dpP x ≤ szP x) → ev2 l ≤ ev3 l := by
  intro l
  induction l with
  | nil => intro _; exact fk9 _
  | cons a r ihr =>
   intro h;have h1 := h a (by simp);have h2 := ihr fun x hx => h x (by simp [hx])
   rw [ev2, ev3]; omega
 have := key ks ih;omega
end Go.Proofs.YtaiiailapeffgaaGreatDoor
namespace Go.Proofs.YtaiiailapeffgaaGreatDoor
set_option maxRecDepth 4000
open Go Go.Abs Go.Val Go.RowKit Go.Proofs.Tryz
def plnF (its : List IT) : List ByteArray := (its.filter fun x => x.e.op == 2).map IT.asn
def nmQ : List IT → ByteArray → ByteArray
 | [], _ => ⟨#[]⟩
 | x :: r, s => bif x.e.op == 2 && x.asn.toList == s.toList then x.e.nm else nmQ r s
mutual
def renQ (its : List IT) : Ex → Ex
 | .mk op v nm ds ks => .mk op v (bif op == 2 then nmQ its nm else nm) ds (ev8 its ks)
def ev8 (its : List IT) : List Ex → List Ex
 | [] => []
 | x :: r => renQ its x :: ev8 its r
end
def zeX : Ex := .mk 0 br5 ⟨#[]⟩ false []
def zCL : CL := ⟨0, false, false, [], [], zeX, ⟨#[]⟩, [], [], 0, 0, [], []⟩
def filB (cs : List Ex) : PB := ⟨6, ⟨[], []⟩, zCL, ec6 cs, ⟨#[]⟩, [], [], 0, 0⟩
def ev9 (p : Pl) : List Ex → Pl
 | [] => p
 | c :: r => .mk (filB (c :: r)) [p]
def ew0 : List Pl → List ByteArray
 | p :: _ => (ev0 p).1
 | [] => []
def ew1 : List Pl → List ByteArray
 | _ :: p :: _ => (ev0 p).1
 | _ => []
def ew2 (b : PB) (c0 c1 : List ByteArray) (cs : List Ex) : List (List Ex) :=
 bif b.op == 9 then [cs] else
 bif b.op == 3 then [cs.filter fun e => em6 e c0, cs.filter fun e => em6 e c1] else
 bif b.op == 4 then [cs.filter fun e => em6 e c0] else
 bif b.op == 7 then [(cs.filter fun e => em6 e (plnF b.it)).map (renQ b.it)] else []
def ew3 (b : PB) (c0 c1 : List ByteArray) (cs : List Ex) : List Ex :=
 bif b.op == 9 then [] else
 bif b.op == 3 then cs.filter fun e => !(em6 e c0 || em6 e c1) else
 bif b.op == 4 then cs.filter fun e => !(em6 e c0) else
 bif b.op == 7 then cs.filter fun e => !(em6 e (plnF b.it)) else cs
def hdQ (p : Pl) : List Pl → Pl
 | x :: _ => x
 | [] => p
mutual
def ew4 : Pl → List Ex → Pl
 | .mk b ks, cs => bif b.op == 6 then hdQ (.mk b []) (ew5 ks [ec3 b.e ++ cs]) else
  ev9 (.mk b (ew5 ks (ew2 b (ew0 ks) (ew1 ks) cs))) (ew3 b (ew0 ks) (ew1 ks) cs)
def ew5 : List Pl → List (List Ex) → List Pl
 | [], _ => []
 | p :: r, ls => ew4 p (ls.headD []) :: ew5 r ls.tail
end
def pshQ (p : Pl) : Pl := bif (ev4 p).2 != 0 then p else bif (ev4 (ew4 p [])).2 != 0 then p else ew4 p []
theorem ew6 : ∀ {ks : List Pl}, (ev1 ks).2 = 0 → (∀ p ∈ ks, (ev0 p).2 = 0) ∧ (ev1 ks).1 = ks.map fun p => (ev0 p).1
 | [], _ => ⟨fun _ h => (by cases h), rfl⟩
 | p :: r, h => by
  rw [ev1] at h ⊢
  cases c1 : (ev0 p).2 != 0 with
  | true => rw [c1, cond_true] at h; rw [show (ev0 p).2 = 0 from h] at c1; cases c1
  | false =>
   rw [c1, cond_false] at h;rw [cond_false]
   cases c2 : (ev1 r).2 != 0 with
   | true => rw [c2, cond_true] at h; rw [show (ev1 r).2 = 0 from h] at c2; cases c2
   | false =>
    have ih := ew6 (ks := r) (by simpa using c2);rw [cond_false];refine ⟨fun q hq => ?_, ?_⟩
    ·rcases fl1.1 hq with rfl | hq
     ·simpa using c1
     ·exact ih.1 q hq
    ·rw [fl5, ← ih.2]
theorem ew7 {b : PB} {ks : List Pl} (h : (ev0 (.mk b ks)).2 = 0) : (∀ p ∈ ks, (ev0 p).2 = 0) ∧ ev0 (.mk b ks) = eu9 b (ks.map fun p => (ev0 p).1) ∧ eu0 b ks.length = true := by
 rw [ev0] at h ⊢
 cases c1 : (ev1 ks).2 != 0 with
 | true => rw [c1, cond_true] at h; rw [show (ev1 ks).2 = 0 from h] at c1; cases c1
 | false =>
  have ih := ew6 (ks := ks) (by simpa using c1);rw [c1, cond_false, ih.2] at h;rw [cond_false, ih.2];refine ⟨ih.1, rfl, ?_⟩;unfold eu9 at h;rw [fl4] at h
  cases c2 : eu0 b ks.length with
  | true => rfl
  | false => rw [c2] at h; exact absurd (show (25 : Int) = 0 from h) (by decide)
theorem ew8 {b : PB} {n : Nat} (h : eu0 b n = true) : et8 b.op = n := by
 unfold eu0 at h;simp only [fk3, beq_iff_eq] at h;exact h.1
theorem ew9 {b : PB} {c : List ByteArray} (ho : b.op = 6) (h : (eu9 b [c]).2 = 0) : (eu9 b [c]).1 = c ∧ di3 b.e = 0 := by
 unfold eu9 at h ⊢
 cases c2 : eu0 b [c].length with
 | false => rw [c2] at h; exact absurd (show (25 : Int) = 0 from h) (by decide)
 | true =>
  rw [c2, ho] at h;have h : (eu8 (em7 b.e c) c).2 = 0 := h;rw [ho];show (eu8 (em7 b.e c) c).1 = c ∧ _;unfold eu8 at h ⊢
  cases c3 : em7 b.e c != 0 with
  | true => rw [c3] at h; rw [show em7 b.e c = 0 from h] at c3; cases c3
  | false =>
   refine ⟨rfl, ?_⟩;have h4 : em7 b.e c = 0 := by simpa using c3
   unfold em7 at h4
   cases c4 : di3 b.e != 0 with
   | true => rw [c4, cond_true] at h4; exact h4
   | false => simpa using c4
theorem one_of {b : PB} {ks : List Pl} (ho : b.op = 6) (h : (ev0 (.mk b ks)).2 = 0) : ∃ k, ks = [k] ∧ (ev0 k).2 = 0 ∧ (ev0 (.mk b ks)).1 = (ev0 k).1 ∧ di3 b.e = 0 := by
 obtain ⟨h1, h2, h3⟩ := ew7 h;have h4 := ew8 h3;rw [ho] at h4;have h4 : (1 : Int) = ks.length := h4
 match ks, h4 with
 | [k], _ =>
  rw [h2] at h;have h5 := ew9 ho h;exact ⟨k, rfl, h1 k (by simp), by rw [h2]; exact h5.1, h5.2⟩
theorem ex0 {p : Pl} (h : (ev4 p).2 = 0) : dpP p ≤ 200 ∧ szP p ≤ 2000 ∧ (ev0 p).2 = 0 ∧ ev4 p = ev0 p := by
 unfold ev4 at h ⊢
 cases c1 : decide (dpP p > 200) with
 | true => rw [c1] at h; exact absurd (show (5 : Int) = 0 from h) (by decide)
 | false =>
  cases c2 : decide (szP p > 2000) with
  | true => rw [c1, c2] at h; exact absurd (show (4 : Int) = 0 from h) (by decide)
  | false =>
   rw [c1, c2] at h;exact ⟨by simpa using c1, by simpa using c2, h, rfl⟩
end Go.Proofs.YtaiiailapeffgaaGreatDoor
namespace Go.Proofs.YtaiiailapeffgaaGreatDoor
set_option maxRecDepth 4000
open Go Go.Abs Go.Val Go.RowKit Go.Proofs.Tryz
def naQ : ByteArray := ⟨#[97]⟩
def nbQ : ByteArray := ⟨#[98]⟩
def opB (op : Int) (e : Ex) (nm : ByteArray) : PB := ⟨op, ⟨[], []⟩, zCL, e, nm, [], [], 0, 0⟩
def lfQ (s : ByteArray) : Pl := .mk (opB 11 (.mk 22 br5 ⟨#[]⟩ false []) s) [.mk (opB 1 zeX ⟨#[]⟩) []]
def vrX (s : ByteArray) : Ex := .mk 2 br5 s false []
def ex1 : Ex := .mk 12 br5 ⟨#[]⟩ false [vrX naQ, vrX nbQ]
def jnQ (l : List Pl) : Pl := .mk (opB 3 zeX ⟨#[]⟩) l
def jpQ (a b : Ex) : Pl := .mk (opB 6 (ec5 (ec5 a ex1) b) ⟨#[]⟩) [jnQ [lfQ naQ, lfQ nbQ]]
def jqQ (a b : Ex) : Pl := .mk (opB 6 ex1 ⟨#[]⟩) [jnQ [.mk (opB 6 a ⟨#[]⟩) [lfQ naQ], .mk (opB 6 b ⟨#[]⟩) [lfQ nbQ]]]
theorem ex2 : ev0 (lfQ naQ) = ([naQ], 0) := by decide +kernel
theorem ex3 : ev0 (lfQ nbQ) = ([nbQ], 0) := by decide +kernel
theorem ex4 : et9 zCL = true ∧ s0B ⟨#[]⟩ = true ∧ dj7 zeX = true := by decide +kernel
theorem fom_6 (e : Ex) : eu0 (opB 6 e ⟨#[]⟩) 1 = true := by
 have h := ex4;simp [eu0, fldF, endF, et8, opB, h.1, h.2.1]
theorem fom_3 : eu0 (opB 3 zeX ⟨#[]⟩) 2 = true := by
 have h := ex4;simp [eu0, fldF, endF, et8, opB, h.1, h.2.1, h.2.2]
theorem sel_6 (e : Ex) (c : List ByteArray) : eu9 (opB 6 e ⟨#[]⟩) [c] = eu8 (em7 e c) c := by
 unfold eu9;rw [show [c].length = 1 from rfl, fom_6];rfl
theorem sel_3 (c d : List ByteArray) : eu9 (opB 3 zeX ⟨#[]⟩) [c, d] = (eu1 c d, 0) := by
 unfold eu9;rw [show [c, d].length = 2 from rfl, fom_3];rfl
theorem ex5 {e : Ex} {k : Pl} {c : List ByteArray} (hk : ev0 k = (c, 0)) : ev0 (.mk (opB 6 e ⟨#[]⟩) [k]) = eu8 (em7 e c) c := by
 rw [ev0, ev1, ev1, hk];exact sel_6 e c
theorem ex6 {k l : Pl} {c d : List ByteArray} (hk : ev0 k = (c, 0)) (hl : ev0 l = (d, 0)) : ev0 (jnQ [k, l]) = (eu1 c d, 0) := by
 rw [jnQ, ev0, ev1, ev1, ev1, hk, hl];exact sel_3 c d
theorem ex7 : em6 ex1 [naQ, nbQ] = true ∧ em6 ex1 [naQ] = false ∧ em6 ex1 [nbQ] = false ∧ dj2 ex1 = false ∧ eu1 [naQ] [nbQ] = [naQ, nbQ] := by decide +kernel
theorem ex8 {e : Ex} {s : ByteArray} (h : ej3 e = [s]) (cols : List ByteArray) : em6 e cols = cv9 cols s := by
 unfold em6;rw [h, fn7, List.all_nil, fq7]
theorem ex9 : cv9 [naQ] naQ = true ∧ cv9 [nbQ] naQ = false ∧ cv9 [naQ] nbQ = false ∧ cv9 [nbQ] nbQ = true := by decide +kernel
theorem ey0 {e : Ex} {c : List ByteArray} (h : em7 e c = 0) : di3 e = 0 ∧ em6 e c = true ∧ dj2 e = false := by
 unfold em7 at h
 cases c1 : di3 e != 0 with
 | true => rw [c1, cond_true] at h; rw [h] at c1; cases c1
 | false =>
  rw [c1, cond_false] at h
  cases c2 : em6 e c with
  | false => rw [c2] at h; exact absurd (show (6 : Int) = 0 from h) (by decide)
  | true =>
   rw [c2] at h
   cases c3 : dj2 e with
   | true => rw [c3] at h; exact absurd (show (9 : Int) = 0 from h) (by decide)
   | false => exact ⟨by simpa using c1, rfl, rfl⟩
theorem ey1 {e : Ex} {c : List ByteArray} (h1 : di3 e = 0) (h2 : em6 e c = true) (h3 : dj2 e = false) : em7 e c = 0 := by
 unfold em7;rw [h1, h2, h3];rfl
theorem ey2 {a b : Ex} (h : dj2 (ec5 a b) = false) : dj2 a = false ∧ dj2 b = false := by
 unfold ec5 at h;rw [dj2, dj3, dj3, dj3] at h
 cases ha : dj2 a <;> cases hb : dj2 b <;> rw [ha, hb] at h <;> simp_all
theorem ey3 {a b : Ex} (sa : ej3 a = [naQ]) (oa : a.op ≠ 18) (sb : ej3 b = [nbQ]) (ob : b.op ≠ 18) : ew4 (jpQ a b) [] = jqQ a b := by
 have e1 : ec3 (ec5 (ec5 a ex1) b) ++ [] = [a, ex1, b] := by
  rw [fq1, ec9, ec9, ec8 oa, ec8 ob, ec8 (show ex1.op ≠ 18 by decide)];rfl
 have ka := ex8 sa;have kb := ex8 sb;obtain ⟨-, k1, k2, -, -⟩ := ex7;obtain ⟨h1, h2, h3, h4⟩ := ex9
 have leaf : ∀ (s : ByteArray) (e : Ex), ew4 (lfQ s) [e] = .mk (opB 6 e ⟨#[]⟩) [lfQ s] := by
  intro s e;rw [lfQ, ew4, ew5, ew4, ew5];rfl
 rw [jpQ, ew4];show hdQ (.mk (opB 6 (ec5 (ec5 a ex1) b) ⟨#[]⟩) []) (ew5 [jnQ [lfQ naQ, lfQ nbQ]] [ec3 (ec5 (ec5 a ex1) b) ++ []]) = _;rw [e1, ew5];show ew4 (jnQ [lfQ naQ, lfQ nbQ]) [a, ex1, b] = _;rw [jnQ, ew4]
 show ev9 (.mk (opB 3 zeX ⟨#[]⟩) (ew5 [lfQ naQ, lfQ nbQ] [[a, ex1, b].filter fun e => em6 e (ev0 (lfQ naQ)).1, [a, ex1, b].filter fun e => em6 e (ev0 (lfQ nbQ)).1]))
  ([a, ex1, b].filter fun e => !(em6 e (ev0 (lfQ naQ)).1 || em6 e (ev0 (lfQ nbQ)).1)) = _
 have f1 : ([a, ex1, b].filter fun e => em6 e (ev0 (lfQ naQ)).1) = [a] := by
  rw [ex2];simp [List.filter_cons, ka, kb, k1, h1, h3]
 have f2 : ([a, ex1, b].filter fun e => em6 e (ev0 (lfQ nbQ)).1) = [b] := by
  rw [ex3];simp [List.filter_cons, ka, kb, k2, h2, h4]
 have f3 : ([a, ex1, b].filter fun e => !(em6 e (ev0 (lfQ naQ)).1 || em6 e (ev0 (lfQ nbQ)).1)) = [ex1] := by
  rw [ex2, ex3];simp [List.filter_cons, ka, kb, k1, k2, h1, h2, h3, h4]
 rw [f1, f2, f3, ew5, ew5, ew5];show ev9 (.mk (opB 3 zeX ⟨#[]⟩) [ew4 (lfQ naQ) [a], ew4 (lfQ nbQ) [b]]) [ex1] = _;rw [leaf, leaf];rfl
theorem join_law {a b : Ex} (sa : ej3 a = [naQ]) (oa : a.op ≠ 18) (sb : ej3 b = [nbQ]) (ob : b.op ≠ 18) (h : (ev4 (jpQ a b)).2 = 0) : pshQ (jpQ a b) = jqQ a b := by
 obtain ⟨-, -, h1, -⟩ := ex0 h;have hj := ex6 ex2 ex3;rw [ex7.2.2.2.2] at hj;rw [jpQ, ex5 hj] at h1
 have h2 : em7 (ec5 (ec5 a ex1) b) [naQ, nbQ] = 0 := by
  unfold eu8 at h1
  cases c : em7 (ec5 (ec5 a ex1) b) [naQ, nbQ] != 0 with
  | true => rw [c] at h1; exact h1
  | false => simpa using c
 obtain ⟨c1, -, c3⟩ := ey0 h2;have d1 := ey2 c3;have d2 := ey2 d1.1;have g1 : di3 (ec5 a ex1) = 0 := ec1 (show di3 (.mk 18 br5 ⟨#[]⟩ false [ec5 a ex1, b]) = 0 from c1) _ (by simp);have gb : di3 b = 0 := ec1 (show di3 (.mk 18 br5 ⟨#[]⟩ false [ec5 a ex1, b]) = 0 from c1) _ (by simp);have ga : di3 a = 0 := ec1 (show di3 (.mk 18 br5 ⟨#[]⟩ false [a, ex1]) = 0 from g1) _ (by simp);have gm : di3 ex1 = 0 := ec1 (show di3 (.mk 18 br5 ⟨#[]⟩ false [a, ex1]) = 0 from g1) _ (by simp);have xa : em7 a [naQ] = 0 := ey1 ga (by rw [ex8 sa]; exact ex9.1) d2.1;have xb : em7 b [nbQ] = 0 := ey1 gb (by rw [ex8 sb]; exact ex9.2.2.2) d1.2;have xm : em7 ex1 [naQ, nbQ] = 0 := ey1 gm ex7.1 ex7.2.2.2.1;have qa : ev0 (.mk (opB 6 a ⟨#[]⟩) [lfQ naQ]) = ([naQ], 0) := by rw [ex5 ex2, xa]; rfl
 have qb : ev0 (.mk (opB 6 b ⟨#[]⟩) [lfQ nbQ]) = ([nbQ], 0) := by rw [ex5 ex3, xb]; rfl
 have qj := ex6 qa qb;rw [ex7.2.2.2.2] at qj;have qq : ev0 (jqQ a b) = ([naQ, nbQ], 0) := by rw [jqQ, ex5 qj, xm]; rfl
 have hq : ev4 (jqQ a b) = ([naQ, nbQ], 0) := by
  have hd : dpP (jqQ a b) = 5 := by simp [jqQ, jnQ, lfQ, dpP, ev2]
  have hs : szP (jqQ a b) = 8 := by simp [jqQ, jnQ, lfQ, szP, ev3]
  unfold ev4;rw [hd, hs, qq];rfl
 unfold pshQ;rw [ey3 sa oa sb ob, h, hq];rfl
theorem ey4 (g : Bool) (cols : List ByteArray) : ∀ (l : List IT) (out : List ByteArray), (eu6 g cols l out).2 ≠ 0 → (eu6 g cols l out).1 = []
 | [], _, h => absurd rfl h
 | x :: r, out, h => by
  rw [eu6] at h ⊢
  cases c : eu5 g x cols out != 0 with
  | true => rfl
  | false => rw [c, cond_false] at h; rw [cond_false]; exact ey4 g cols r _ h
theorem join_nil (c : List ByteArray) : eu1 c [] = c := by unfold eu1; rw [List.filter_nil, fq1]
theorem ey5 (a b : Ex) : nd (ec5 a b) = nd a + nd b + 1 := by
 have h : nd (ec5 a b) = ndL [a, b] + 1 := dc9 _;rw [h, ndL, ndL, ndL];omega
mutual
def alB (Q : PB → Prop) : Pl → Prop
 | .mk b ks => Q b ∧ ey6 Q ks
def ey6 (Q : PB → Prop) : List Pl → Prop
 | [] => True
 | p :: r => alB Q p ∧ ey6 Q r
end
theorem ey7 {Q : PB → Prop} : ∀ {l : List Pl}, ey6 Q l → ∀ p ∈ l, alB Q p
 | [], _, _, h => by cases h
 | a :: r, h, p, hp => by
  rw [ey6] at h;rcases fl1.1 hp with rfl | hp
  ·exact h.1
  ·exact ey7 h.2 p hp
theorem put_size (p : Pl) : ∀ cs, szP (ew4 p cs) ≤ 2 * szP p := by
 refine et2 (P := fun p => ∀ cs, szP (ew4 p cs) ≤ 2 * szP p) (fun b ks ih cs => ?_) p
 have key : ∀ (l : List Pl) (ls : List (List Ex)), (∀ x ∈ l, ∀ cs, szP (ew4 x cs) ≤ 2 * szP x) → ev3 (ew5 l ls) ≤ 2 * ev3 l := by
  intro l
  induction l with
  | nil => intro ls _; exact fk9 _
  | cons a r ihr =>
   intro ls h;have h1 := h a (by simp) (ls.headD []);have h2 := ihr ls.tail fun x hx => h x (by simp [hx])
   rw [ew5, ev3, ev3];omega
 rw [ew4, szP]
 cases ho : b.op == 6 with
 | true =>
  rw [cond_true]
  cases ks with
  | nil => show szP (.mk b []) ≤ _; rw [szP]; omega
  | cons k r =>
   have := ih k (by simp) (ec3 b.e ++ cs);rw [ev3];show szP (ew4 k (ec3 b.e ++ cs)) ≤ _;omega
 | false =>
  rw [cond_false];have hk := key ks (ew2 b (ew0 ks) (ew1 ks) cs) ih
  cases hc : ew3 b (ew0 ks) (ew1 ks) cs with
  | nil => show szP (.mk b _) ≤ _; rw [szP]; omega
  | cons c r =>
   show szP (.mk (filB (c :: r)) [.mk b (ew5 ks (ew2 b (ew0 ks) (ew1 ks) cs))]) ≤ _;rw [szP, ev3, ev3, szP];omega
end Go.Proofs.YtaiiailapeffgaaGreatDoor
namespace Go.Proofs.YtaiiailapeffgaaGreatDoor
set_option maxRecDepth 4000
open Go Go.Abs Go.Val Go.RowKit Go.Proofs.Tryz
theorem ey8 (g : Bool) (cols : List ByteArray) : ∀ (l : List IT) (out : List ByteArray), (eu6 g cols l out).2 = 0 → (eu6 g cols l out).1 = out ++ l.map IT.asn
 | [], out, _ => (fq1 out).symm
 | x :: r, out, h0 => by
  rw [eu6] at h0 ⊢
  cases c : eu5 g x cols out != 0 with
  | true => rw [c, cond_true] at h0; rw [show eu5 g x cols out = 0 from h0] at c; cases c
  | false =>
   rw [c, cond_false] at h0;rw [cond_false, ey8 g cols r _ h0, fl5, fn9];rfl
end Go.Proofs.YtaiiailapeffgaaGreatDoor
