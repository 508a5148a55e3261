/- Values of closed expressions: neither graph nor bindings matter, for no node, edge or path can come up; EvalLogic: De Morgan's laws and double negation, within the row's bound; and the chapter's examples hold; Folding of expressions in plain Lean: it keeps checks, size, value and closedness, and folding again changes nothing; Expressions compared with themselves, by the specification; Which expressions are closed, constants of a truth value, of a truth value; which values can be written: by both texts; The law's own small functions: size, light, op, number, name; Copies, folding, conjuncts and. Conditions: each part's own, as it says. -/
import Derived.Test.YtaiiailapeffgaaGreatDoorEC
import Derived.Test.YtaiiailapeffgaaGreatDoorMC
import Derived.Test.YtaiiailapeffgaaGreatDoorMF
import Derived.Test.YtaiiailapeffgaaGreatDoorGC
set_option linter.unusedVariables false
set_option linter.unusedSimpArgs false
namespace Go.Proofs.YtaiiailapeffgaaGreatDoor
set_option maxRecDepth 4000
open Go Go.Abs Go.Val Go.RowKit Go.Proofs.Tryz
mutual
def ea2 : Ex → Bool
 | .mk op _ _ _ ks => !(op == 2 || op == 24) && ea3 ks
def ea3 : List Ex → Bool
 | [] => true
 | x :: r => ea2 x && ea3 r
end
theorem ea4 : ∀ l : List Ex, ea3 l = l.all ea2
 | [] => rfl
 | a :: r => by rw [ea3, fn7, ea4 r]
theorem ea5 {op : Int} {v : V} {nm : ByteArray} {ds : Bool} {ks : List Ex} {w : Bool} (h : dh5 (.mk op v nm ds ks) w = 0) : ∀ x ∈ ks, dh5 x (w || op == 24) = 0 := by
 have h0 := dy1 h;have h1 := dh8 (e := .mk op v nm ds ks) (w := w) h0;rw [h] at h1;exact dy0 h1.symm
end Go.Proofs.YtaiiailapeffgaaGreatDoor
namespace Go.Proofs.YtaiiailapeffgaaGreatDoor
set_option maxRecDepth 4000
open Go Go.Abs Go.Val Go.RowKit Go.ChangeShapes Go.WideShapes Go.Proofs.Tryz
attribute [local irreducible] go SGo an2 Ev aw0 EvO EvS
theorem ea6 {e : Ex} (h : di3 e = 0) : dp e ≤ 24 ∧ nd e ≤ 300 ∧ dh5 e false = 0 := by
 have hv := dz7 h;unfold di3 at h
 cases h1 : decide (dp e > 24) with
 | true => rw [h1] at h; simp at h
 | false =>
  rw [h1, cond_false] at h
  cases h2 : decide (nd e > 300) with
  | true => rw [h2] at h; simp at h
  | false =>
   have := of_decide_eq_false h1;have := of_decide_eq_false h2;exact ⟨by omega, by omega, hv⟩
theorem ea7 {e : Ex} (h1 : dp e ≤ 24) (h2 : nd e ≤ 300) (h3 : dh5 e false = 0) : di3 e = 0 := by
 unfold di3;rw [show decide (dp e > 24) = false by simp; omega, show decide (nd e > 300) = false by simp; omega, h3];rfl
end Go.Proofs.YtaiiailapeffgaaGreatDoor
namespace Go.Proofs.YtaiiailapeffgaaGreatDoor
set_option maxRecDepth 4000
open Go Go.Abs Go.Val Go.RowKit Go.Proofs.Tryz
def gZ : Gr := ⟨[], [], 0, 0⟩
def ea8 (v : V) : Bool := v.k == 0 || (v.k == 1 || (v.k == 4 || (v.k == 2 && decide (v.n ≥ 0))))
def ea9 (op : Int) : Bool := op == 4 || (op == 5 || ((decide (op ≥ 12) && decide (op ≤ 19)) || (op == 20 || op == 21)))
def isX (e : Ex) (n : Int) : Bool := e.op == 1 && (e.v.k == 1 && e.v.n == n)
def eb0 (v : V) : Ex := .mk 1 v ⟨#[]⟩ false []
def eb1 (op : Int) : Int := bif op == 18 then 1 else 0
def eb2 (op : Int) (v : V) (nm : ByteArray) (ds : Bool) (ks : List Ex) : Ex :=
 match ks with
 | [a, b] => bif op == 18 || op == 19 then (bif isX a (eb1 op) && ea9 b.op then b else bif isX b (eb1 op) && ea9 a.op then a else .mk op v nm ds [a, b]) else .mk op v nm ds [a, b]
 | l => .mk op v nm ds l
mutual
def eb3 : Ex → Ex
 | .mk op v nm ds ks => bif ea2 (.mk op v nm ds ks) && ea8 (du2 gZ [] (.mk op v nm ds ks)) then eb0 (du2 gZ [] (.mk op v nm ds ks)) else eb2 op v nm ds (eb4 ks)
def eb4 : List Ex → List Ex
 | [] => []
 | x :: r => eb3 x :: eb4 r
end
theorem eb5 : ∀ l : List Ex, eb4 l = l.map eb3
 | [] => rfl
 | x :: r => by rw [eb4, fl5, eb5 r]
theorem eb6 (op : Int) (v : V) (nm : ByteArray) (ds : Bool) (ks : List Ex) : eb2 op v nm ds ks = .mk op v nm ds ks ∨
  ∃ a b, ks = [a, b] ∧ (op = 18 ∨ op = 19) ∧ ((isX a (eb1 op) = true ∧ ea9 b.op = true ∧ eb2 op v nm ds ks = b) ∨ (isX b (eb1 op) = true ∧ ea9 a.op = true ∧ eb2 op v nm ds ks = a)) := by
 match ks with
 | [] => exact .inl rfl
 | [_] => exact .inl rfl
 | _ :: _ :: _ :: _ => exact .inl rfl
 | [a, b] =>
  unfold eb2;dsimp only
  cases c1 : op == 18 || op == 19 with
  | false => exact .inl rfl
  | true =>
   have ho : op = 18 ∨ op = 19 := by simpa using c1
   rw [cond_true]
   cases c2 : isX a (eb1 op) && ea9 b.op with
   | true =>
    rw [fk3] at c2;exact .inr ⟨a, b, rfl, ho, .inl ⟨c2.1, c2.2, rfl⟩⟩
   | false =>
    rw [cond_false]
    cases c3 : isX b (eb1 op) && ea9 a.op with
    | true =>
     rw [fk3] at c3;exact .inr ⟨a, b, rfl, ho, .inr ⟨c3.1, c3.2, rfl⟩⟩
    | false => exact .inl rfl
theorem eb7 {e : Ex} (h : dh4 e true = 0) : dh4 e false = 0 ∧ e.op ≠ 24 := by
 unfold dh4 at h ⊢
 cases c1 : (decide (e.op < 1) || decide (e.op > 24)) || (!db9 e || !dc5 e) with
 | true => rw [c1] at h; simp at h
 | false =>
 cases c2 : (e.op == 1 && !dc7 e.v) with
 | true => rw [c1, c2] at h; simp at h
 | false =>
 cases c3 : nlF e with
 | true => rw [c1, c2, c3] at h; simp at h
 | false =>
 cases c4 : e.op == 24 with
 | true => rw [c1, c2, c3, c4] at h; simp at h
 | false => exact ⟨rfl, by simpa using c4⟩
theorem eb8 {w : Bool} : ∀ {l : List Ex}, (∀ x ∈ l, dh5 x w = 0) → dh6 l w = 0
 | [], _ => rfl
 | x :: r, h => by
  rw [dh6, h x (by simp)];exact eb8 fun y hy => h y (by simp [hy])
theorem eb9 (e : Ex) : dh5 e true = 0 → dh5 e false = 0 := by
 refine cz2 (P := fun e => dh5 e true = 0 → dh5 e false = 0) (fun op v nm ds ks ih h => ?_) e;obtain ⟨h1, h2⟩ := eb7 (dy1 h);have h3 := ea5 h;rw [dh8 h1, show (false || (Ex.mk op v nm ds ks).op == 24) = false by simpa using h2];exact eb8 fun x hx => ih x hx (by simpa using h3 x hx)
theorem ec0 {e : Ex} {w : Bool} (h : dh5 e w = 0) : dh5 e false = 0 := by
 cases w with
 | true => exact eb9 e h
 | false => exact h
theorem ec1 {op : Int} {v : V} {nm : ByteArray} {ds : Bool} {ks : List Ex} (h : di3 (.mk op v nm ds ks) = 0) : ∀ x ∈ ks, di3 x = 0 := by
 obtain ⟨h1, h2, h3⟩ := ea6 h;intro x hx;have d1 := dd5 hx;have d2 := dd0 hx;rw [dd4] at h1;rw [dc9] at h2;have h1 : dpL ks + 1 ≤ 24 := h1;have h2 : ndL ks + 1 ≤ 300 := h2;exact ea7 (by omega) (by omega) (ec0 (ea5 h3 x hx))
theorem min2 {v : V} : min (2 : Int) (bs5 v) = bs5 v := by rcases ea1 v with h | h | h <;> rw [h] <;> rfl
theorem ec2 (op : Int) (v : V) (nm : ByteArray) (ds : Bool) (ks : List Ex) : eb3 (.mk op v nm ds ks) = bif ea2 (.mk op v nm ds ks) && ea8 (du2 gZ [] (.mk op v nm ds ks)) then eb0 (du2 gZ [] (.mk op v nm ds ks)) else eb2 op v nm ds (ks.map eb3) := by
 rw [eb3, eb5]
mutual
def ec3 : Ex → List Ex
 | .mk op v nm ds ks => bif op == 18 && ks.length == 2 then ec4 ks else [.mk op v nm ds ks]
def ec4 : List Ex → List Ex
 | [] => []
 | x :: r => ec3 x ++ ec4 r
end
def ec5 (a b : Ex) : Ex := .mk 18 br5 ⟨#[]⟩ false [a, b]
def ec6 : List Ex → Ex
 | [] => eb0 (br0 true)
 | x :: r => r.foldl ec5 x
theorem ec7 (e : Ex) : ec3 e ≠ [] := by
 refine cz2 (P := fun e => ec3 e ≠ []) (fun op v nm ds ks ih => ?_) e;rw [ec3]
 cases hc : op == 18 && ks.length == 2 with
 | false => simp
 | true =>
  rw [fk3, beq_iff_eq, beq_iff_eq] at hc
  match ks, hc.2, ih with
  | [a, b], _, ih =>
   rw [cond_true, ec4];intro h;exact ih a (by simp) (List.append_eq_nil_iff.1 h).1
theorem ec8 {e : Ex} (h : e.op ≠ 18) : ec3 e = [e] := by
 obtain ⟨op, v, nm, ds, ks⟩ := e;have h : op ≠ 18 := h;rw [ec3, show (op == 18) = false by simpa using h];rfl
theorem ec9 (a b : Ex) : ec3 (ec5 a b) = ec3 a ++ ec3 b := by
 show ec3 (.mk 18 br5 ⟨#[]⟩ false [a, b]) = _;rw [ec3];show ec4 [a, b] = _;rw [ec4, ec4, ec4, fq1]
end Go.Proofs.YtaiiailapeffgaaGreatDoor
namespace Go.Proofs.YtaiiailapeffgaaGreatDoor
set_option maxRecDepth 4000
open Go Go.Abs Go.Val Go.RowKit Go.Proofs.Tryz
attribute [local irreducible] go SGo an2 Ev aw0 EvO EvS RGo cm0
theorem ed1 (a : V) : cm0 a a = 0 := by have := cr0 a a; omega
structure SSx (n : Nat) where
 i : Nat
 hi : i ≤ n
theorem ed2 (l : List Ex) (h : ∀ x ∈ l, Ev E 12 [cy3 x, cy3 x] (.d (.bool true))) : Ev E 24 [.sl (cy2 l), .sl (cy2 l)] (.d (.bool true)) := Ev.fit fun hfit => by
 obtain ⟨hmax, -⟩ := cz1 (hfit (.sl (cy2 l)) (by simp));have hle : (cy2 l).length = l.length := cy9 l;have g0 : (((cy2 l).length : Int) != ((cy2 l).length : Int)) = false := by simp
 refine ye2 func24 ntmps24 fun _ _ _=>?_
 repeat' (refine yz ?_)
 refine ac7 (α := SSx l.length) (fun p => ⟨[(0, .d (.sl (cy2 l))), (1, .d (.sl (cy2 l))), (5, .d (.int p.i))], []⟩) (fun p => l.length - p.i) ⟨0, by omega⟩ (zle 0) ?_;rintro ⟨i, hi⟩;dsimp only;rcases fk1 i l.length with hlt | hge
 ·have q1 : decide ((i : Int) < ((cy2 l).length : Int)) = true := by rw [hle]; simpa using hlt
  have hx0 := fk0 hlt;generalize l[i] = x at hx0;have hx : (cy2 l)[(i : Int).toNat]? = some (cy3 x) := cy7 (by rw [fl0]; exact hx0);have hs := h x (fk4 hx0)
  repeat' (first | refine yz ?_ | refine yi (cy3 x) hx ?_ | refine yp b12 hs ?_)
  refine ac1 ?_;exact ⟨⟨i + 1, by omega⟩, by dsimp only; omega, (zle 0)⟩
 ·have q1 : decide ((i : Int) < ((cy2 l).length : Int)) = false := by rw [hle]; simp; omega
  repeat' (first | refine yz ?_ | exact zD)
theorem ed3 (e : Ex) : Ev E 12 [cy3 e, cy3 e] (.d (.bool true)) := by
 refine cz2 (P := fun e => Ev E 12 [cy3 e, cy3 e] (.d (.bool true))) (fun op v nm ds ks ih => ?_) e;have h1 := cm7 v v;rw [ed1] at h1;have h2 := ed2 ks ih;have g1 : (op == op) = true := beq_self_eq_true _;have g2 : (nm.toList == nm.toList) = true := beq_self_eq_true _;have g3 : (ds == ds) = true := beq_self_eq_true _;have g4 : ((0 : Int) == 0) = true := rfl;obtain ⟨vk, vn, vd, vS, vl⟩ := v;show Ev E 12 [.agg [.int op, .int vk, .int vn, .int vd, .str vS, .sl (bp7 vl), .str nm, .bool ds, .sl (cy2 ks)], .agg [.int op, .int vk, .int vn, .int vd, .str vS, .sl (bp7 vl), .str nm, .bool ds, .sl (cy2 ks)]] (.d (.bool true));refine ye2 func12 ntmps12 fun _ _ _=>?_
 repeat' (first | refine yz ?_ | refine yp b23 h1 ?_ | refine yp b24 h2 ?_ | refine yx ?_ | exact zD)
end Go.Proofs.YtaiiailapeffgaaGreatDoor
namespace Go.Proofs.YtaiiailapeffgaaGreatDoor
set_option maxRecDepth 4000
open Go Go.Abs Go.Val Go.RowKit Go.Proofs.Tryz
attribute [local irreducible] go SGo an2 Ev aw0 EvO EvS RGo
theorem ed4 {l : List Ex} : (l.any fun x => !ea2 x) = !ea3 l := by
 rw [ea4]
 induction l with
 | nil => rfl
 | cons x r ih => rw [List.any_cons, fn7, ih]; cases ea2 x <;> simp
theorem ed5 (e : Ex) (h : Ev E 49 [cy3 e] (.d (.bool (ea2 e)))) : Ev E 91 [cy3 e] (.d (.bool (!ea2 e))) := by
 refine ye1 func91 ntmps91 fun _ _ _=>?_
 repeat' (first | refine yz ?_ | refine yp b49 h ?_ | refine yx ?_ | (refine yy ?_ ?_ <;> intro _) | exact zD | exact zL)
theorem ed6 (e : Ex) : Ev E 49 [cy3 e] (.d (.bool (ea2 e))) := by
 refine cz2 (P := fun e => Ev E 49 [cy3 e] (.d (.bool (ea2 e)))) (fun op v nm ds ks ih => ?_) e;have h := dk9 91 b91 (fun x => !ea2 x) ks fun x hx => ed5 x (ih x hx)
 rw [ed4, ← cy4] at h;obtain ⟨vk, vn, vd, vS, vl⟩ := v;show Ev E 49 [.agg [.int op, .int vk, .int vn, .int vd, .str vS, .sl (bp7 vl), .str nm, .bool ds, .sl (cy2 ks)]] _;rw [ea2]
 cases c1 : op == 2 with
 | true =>
  refine ye1 func49 ntmps49 fun _ _ _=>?_
  repeat' (first | refine yz ?_ | refine yx ?_ | (refine yy ?_ ?_ <;> intro _) | exact zD | exact zL)
 | false =>
  cases c2 : op == 24 with
  | true =>
   refine ye1 func49 ntmps49 fun _ _ _=>?_
   repeat' (first | refine yz ?_ | refine yx ?_ | (refine yy ?_ ?_ <;> intro _) | exact zD | exact zL)
  | false =>
   show Ev E 49 _ (.d (.bool (ea3 ks)));rw [← Bool.not_not (ea3 ks)];refine ye1 func49 ntmps49 fun _ _ _=>?_
   repeat' (first | refine yz ?_ | refine yp b90 h ?_ | refine yx ?_ | (refine yy ?_ ?_ <;> intro _) | exact zD | exact zL)
theorem ed7 (v : V) : Ev E 51 [enc v] (.d (.bool (ea8 v))) := by
 refine ye1 func51 ntmps51 fun _ _ _=>?_
 repeat' (first | refine yz ?_ | refine yx ?_ | (refine yy ?_ ?_ <;> intro _) | (refine qV rfl ?_ ?_ <;> intro _) | exact zD | exact zL)
 all_goals (refine congrArg D.bool ?_; simp_all [ea8])
theorem ed8 (e : Ex) : Ev E 53 [cy3 e] (.d (.bool (ea9 e.op))) := by
 refine ye1 func53 ntmps53 fun _ _ _=>?_
 repeat' (first | refine yz ?_ | refine yx ?_ | (refine yy ?_ ?_ <;> intro _) | (refine qV rfl ?_ ?_ <;> intro _) | exact zD | exact zL)
 all_goals (refine congrArg D.bool ?_; simp_all [ea9] <;> omega)
theorem ed9 (e : Ex) (n : Int) : Ev E 52 [cy3 e, .int n] (.d (.bool (isX e n))) := by
 refine ye2 func52 ntmps52 fun _ _ _=>?_
 repeat' (first | refine yz ?_ | refine yx ?_ | (refine yy ?_ ?_ <;> intro _) | (refine qV rfl ?_ ?_ <;> intro _) | exact zD | exact zL)
 all_goals (refine congrArg D.bool ?_; simp_all [isX])
theorem ee0 (n : Int) : Ev E 29 [.int n] (.d (cy3 (eb0 (.mk 1 n 0 ⟨#[]⟩ [])))) := by
 refine ye1 func29 ntmps29 fun _ _ _=>?_
 repeat' (first | refine yz ?_ | refine yx ?_ | (refine yy ?_ ?_ <;> intro _) | exact zD | exact zL)
attribute [local irreducible] binOp
def ee1 (s : ByteArray) : Ex := .mk 2 br5 s false []
theorem ee2 (n : Int) : Ev E 14 [.int n] (.d (cy3 (dy4 n))) := by
 refine ye1 func14 ntmps14 fun _ _ _=>?_
 repeat' (first | refine yz ?_ | exact zD)
theorem ee3 (s : ByteArray) : Ev E 9 [.str s] (.d (cy3 (ee1 s))) := by
 refine ye1 func9 ntmps9 fun _ _ _=>?_
 repeat' (first | refine yz ?_ | exact zD)
theorem ee4 (k : Int) (a b : Ex) : Ev E 8 [.int k, cy3 a, cy3 b] (.d (cy3 (opE k a b))) := by
 refine ye3 func8 ntmps8 fun _ _ _=>?_
 repeat' (first | refine yz ?_ | exact zD)
theorem ee5 (e : Ex) : nd e ≤ 2000000 → Ev E 5 [cy3 e] (.d (.int (szE e))) := by
 refine cz2 (P := fun e => nd e ≤ 2000000 → Ev E 5 [cy3 e] (.d (.int (szE e)))) (fun op v nm ds ks ih hn => ?_) e;have hlen : (cy1 (.mk op v nm ds ks)).length = ks.length := cy8 _;have hkg : ∀ (i : Nat) (x : Ex), ks[i]? = some x → (cy1 (.mk op v nm ds ks))[(i : Int).toNat]? = some (cy3 x) := fun i x h => cy6 (e := .mk op v nm ds ks) (by rw [fl0]; exact h)
 rw [dc9] at hn;have hn' : ndL ks + 1 ≤ 2000000 := hn
 have hkl : ks.length ≤ ndL ks := by
  have : ∀ l : List Ex, l.length ≤ ndL l := by
   intro l
   induction l with
   | nil => simp
   | cons a r ihr => have := dv4 a; simp only [fk5, ndL]; omega
  exact this ks
 rw [szE];generalize Ex.mk op v nm ds ks = e at *;refine ye1 func5 ntmps5 fun _ _ _=>?_
 repeat' (refine yz ?_)
 refine ac7 (α := SSz ks (1 + ndL ks)) (fun p => ⟨[(1, .ptr 0 0), (3, .d (.int p.n)), (4, .d (.int p.i))], [.var 27 (.w (.d (cy3 e)))]⟩) (fun p => ks.length - p.i) ⟨0, 1, by omega, by omega, by rw [fq4]; omega, rfl⟩ (zle 1) ?_;rintro ⟨i, n, hi, h1, h2, ok⟩;dsimp only;rcases fk1 i ks.length with hlt | hge
 ·have g1 : decide ((i : Int) < ((cy1 e).length : Int)) = true := by rw [hlen]; simpa using hlt
  have hx0 := fk0 hlt;generalize ks[i] = x at hx0;have hx := hkg i x hx0;have hnd : ndL (ks.drop i) = nd x + ndL (ks.drop (i + 1)) := dd1 hx0;have hcx := ih x (fk4 hx0) (by omega);have hs := dy6 x;rw [dy9 hx0] at ok
  cases hd : decide (n ≤ 1000) with
  | true =>
   rw [hd, cond_true] at ok
   repeat' (first | refine yz ?_ | refine yi (cy3 x) hx ?_ | refine yp b5 hcx ?_ | refine yx ?_)
   refine ac1 ?_;exact ⟨⟨i + 1, n + szE x, by omega, by omega, by omega, ok⟩, by dsimp only; omega, (zle 1)⟩
  | false =>
   rw [hd, cond_false] at ok;rw [ok]
   repeat' (first | refine yz ?_ | refine yx ?_ | exact zD)
 ·have g1 : decide ((i : Int) < ((cy1 e).length : Int)) = false := by rw [hlen]; simp; omega
  rw [fl9 hge, szL] at ok;rw [ok]
  repeat' (first | refine yz ?_ | refine yx ?_ | exact zD)
def ee6 : List Ex → Int → Bool
 | [], _ => true
 | x :: r, n => bif decide (n + szE x > 600) then false else ee6 r (n + szE x)
structure SLg (l : List Ex) where
 i : Nat
 n : Int
 hi : i ≤ l.length
 h0 : 0 ≤ n
 h1 : n ≤ 600
 ok : ee6 l 0 = ee6 (l.drop i) n
theorem ee7 {l : List Ex} {i : Nat} {x : Ex} {n : Int} (h : l[i]? = some x) : ee6 (l.drop i) n = bif decide (n + szE x > 600) then false else ee6 (l.drop (i + 1)) (n + szE x) := by
 rw [bz3 h, ee6]
theorem ee8 (l : List Ex) (hn : ∀ x ∈ l, nd x ≤ 2000000) : Ev E 4 [.sl (cy2 l)] (.d (.bool (ee6 l 0))) := Ev.fit fun hfit => by
 obtain ⟨hmax, -⟩ := cz1 (hfit (.sl (cy2 l)) (by simp));have hle : (cy2 l).length = l.length := cy9 l;refine ye1 func4 ntmps4 fun _ _ _=>?_
 repeat' (refine yz ?_)
 refine ac7 (α := SLg l) (fun p => ⟨[(0, .d (.sl (cy2 l))), (3, .d (.int p.n)), (4, .d (.int p.i))], []⟩) (fun p => l.length - p.i) ⟨0, 0, by omega, by omega, by omega, rfl⟩ (zle 0) ?_;rintro ⟨i, n, hi, h0, h1, ok⟩;dsimp only;rcases fk1 i l.length with hlt | hge
 ·have g1 : decide ((i : Int) < ((cy2 l).length : Int)) = true := by rw [hle]; simpa using hlt
  have hx0 := fk0 hlt;generalize l[i] = x at hx0;have hx : (cy2 l)[(i : Int).toNat]? = some (cy3 x) := cy7 (by rw [fl0]; exact hx0);have hm := hn x (fk4 hx0);have hs := ee5 x hm;have hz := dy6 x;rw [ee7 hx0] at ok
  cases hd : decide (n + szE x > 600) with
  | true =>
   rw [hd, cond_true] at ok;rw [ok]
   repeat' (first | refine yz ?_ | refine yi (cy3 x) hx ?_ | refine yp b5 hs ?_ | exact zD)
  | false =>
   rw [hd, cond_false] at ok;have := of_decide_eq_false hd
   repeat' (first | refine yz ?_ | refine yi (cy3 x) hx ?_ | refine yp b5 hs ?_)
   refine ac1 ?_;exact ⟨⟨i + 1, n + szE x, by omega, by omega, by omega, ok⟩, by dsimp only; omega, (zle 0)⟩
 ·have g1 : decide ((i : Int) < ((cy2 l).length : Int)) = false := by rw [hle]; simp; omega
  rw [fl9 hge, ee6] at ok;rw [ok]
  repeat' (first | refine yz ?_ | exact zD)
end Go.Proofs.YtaiiailapeffgaaGreatDoor
namespace Go.Proofs.YtaiiailapeffgaaGreatDoor
set_option maxRecDepth 4000
open Go Go.Abs Go.Val Go.RowKit Go.Proofs.Tryz
attribute [local irreducible] go SGo an2 Ev aw0 EvO EvS RGo
abbrev eXU (op vk vn vd : Int) (vS : ByteArray) (vl : List D) (nm : ByteArray) (ds : Bool) (x : X) : aa5 := .var 27 (.cs [.d (.int op), .d (.int vk), .d (.int vn), .d (.int vd), .d (.str vS), .d (.sl vl), .d (.str nm), .d (.bool ds), x])
abbrev zXU : aa5 := .var 27 (.cs [.d (.int 0), .d (.int 0), .d (.int 0), .d (.int 0), .d (.str ⟨#[]⟩), .nilS, .d (.str ⟨#[]⟩), .d (.bool false), .nilS])
abbrev oXU (e : D) : aa5 := .var 27 (.w (.d e))
abbrev rXU (l : List D) : aa5 := .row 27 9 l
theorem ee9 (l : List Ex) : ∀ d ∈ cy2 l, d.cells.length = 9 := fun d hd => by
 rw [cy4] at hd;obtain ⟨u, -, rfl⟩ := fo8.1 hd;rfl
theorem ef0 : ∀ l : List Ex, l.length ≤ ndL l
 | [] => fk9 _
 | a :: r => by
  have h1 := dv4 a;have h2 := ef0 r;simp only [fk5, ndL]; omega
theorem ef1 : Ev E 48 [.sl []] (.d (.sl [])) := by
 refine ye1 func48 ntmps48 fun _ _ _=>?_
 repeat' (first | refine yz ?_ | (refine ay6 rfl (fun _ => ?_) ?_) | refine az3 rfl rfl rfl rfl rfl rfl rfl rfl ?_ | exact zD)
theorem ef2 (l : List Ex) (h0 : l ≠ []) (hn : l.length ≤ 2000000) : EvO E 48 [.sl (cy2 l)] 27 9 (cy2 l) := by
 have hle : (cy2 l).length = l.length := cy9 _;have hne : cy2 l ≠ [] := by rw [cy4]; simpa using h0
 refine az4 func48 ntmps48 rfl rfl fun w0 F0 O => ?_
 repeat' (first | refine az0 rfl rfl rfl rfl rfl rfl rfl (by decide) (by decide) ?_ | refine yz ?_ | (refine ay6 rfl (fun h => absurd h hne) ?_))
 refine qS rfl ⟨hne, ee9 l, by (show (0 + (cy2 l).length) * 120 ≤ 140737488355328; omega), by (show 0 + (cy2 l).length ≤ 9223372036854775807; omega)⟩ ?_
 repeat' (first | refine yz ?_ | exact zL)
theorem ef3 (e : Ex) : nd e ≤ 2000000 → Ev E 27 [cy3 e] (.d (cy3 e)) := by
 refine cz2 (P := fun e => nd e ≤ 2000000 → Ev E 27 [cy3 e] (.d (cy3 e))) (fun op v nm ds ks ih hn => ?_) e;rw [dc9] at hn;have hn' : ndL ks + 1 ≤ 2000000 := hn;have hkl := ef0 ks;have hnx : ∀ x ∈ ks, Ev E 27 [cy3 x] (.d (cy3 x)) := fun x hx => ih x hx (by have := dd0 hx; omega)
 obtain ⟨vk, vn, vd, vS, vl⟩ := v;show Ev E 27 [.agg [.int op, .int vk, .int vn, .int vd, .str vS, .sl (bp7 vl), .str nm, .bool ds, .sl (cy2 ks)]] (.d (.agg [.int op, .int vk, .int vn, .int vd, .str vS, .sl (bp7 vl), .str nm, .bool ds, .sl (cy2 ks)]));have hle : (cy2 ks).length = ks.length := cy9 _;generalize bp7 vl = VL
 by_cases h0 : ks = []
 ·subst h0;show Ev E 27 [.agg [.int op, .int vk, .int vn, .int vd, .str vS, .sl VL, .str nm, .bool ds, .sl []]] (.d (.agg [.int op, .int vk, .int vn, .int vd, .str vS, .sl VL, .str nm, .bool ds, .sl []]));refine ye1 func27 ntmps27 fun _ _ _=>?_
  repeat' (first | refine yz ?_ | refine yp b48 ef1 ?_)
  refine ac7 (α := Unit) (fun _ => ⟨[(1, .ptr 0 0), (2, .ptr 1 0), (10, .d (.sl [])), (11, .d (.int 0)), (12, .d (.int 0))], [eXU op vk vn vd vS VL nm ds (.d (.sl [])), zXU]⟩) (fun _ => 0) () (zle 2) ?_;rintro -;have g1 : decide ((0 : Int) < 0) = false := rfl
  repeat' (first | refine yz ?_ | exact zD)
 ·have hc := ef2 ks h0 (by omega);refine ye1 func27 ntmps27 fun _ _ _=>?_
  repeat' (first | refine yz ?_ | refine ay9 rfl rfl rfl rfl rfl rfl b48 (hc) ?_)
  refine ac7 (α := Fin (ks.length + 1)) (fun p => ⟨[(1, .ptr 0 0), (2, .ptr 1 0), (10, .own 2), (11, .d (.int (cy2 ks).length)), (12, .d (.int p.val))], [eXU op vk vn vd vS VL nm ds (.own 2), zXU, rXU (cy2 ks)]⟩) (fun p => ks.length - p.val) ⟨0, by omega⟩ (zle 3) ?_;rintro ⟨i, hi⟩;dsimp only;rcases fk1 i ks.length with hlt | hge
  ·have g1 : decide ((i : Int) < ((cy2 ks).length : Int)) = true := by rw [hle]; simpa using hlt
   have hx0 := fk0 hlt;generalize ks[i] = x at hx0;have hx : (cy2 ks)[(i : Int).toNat]? = some (cy3 x) := cy7 (by rw [fl0]; exact hx0);have hcx := hnx x (fk4 hx0);have hset : (cy2 ks).set (i : Int).toNat (ar1 (cy3 x) 0 (cy3 x)) = cy2 ks := cx4 hx
   repeat' (first | refine yq 5 [6] ?_ | refine yf 5 0 6 ?_ | refine yw ?_ | refine rgN ?_ | refine yz ?_ | refine qW (cy3 x) rfl rfl rfl rfl rfl rfl hx rfl ?_ | refine yp b27 hcx ?_)
   refine ac1 ?_;refine ⟨⟨i + 1, by omega⟩, by dsimp only; omega, ?_⟩;show Le _ ⟨_, [_, _, rXU ((cy2 ks).set (i : Int).toNat (ar1 (cy3 x) 0 (cy3 x))), _]⟩ _;rw [hset];exact (zle 3)
  ·have g1 : decide ((i : Int) < ((cy2 ks).length : Int)) = false := by rw [hle]; simp; omega
   repeat' (refine yz ?_)
   refine be7 2 rfl ?_
   repeat' (first | refine yz ?_ | exact zD)
attribute [local irreducible] RGw
theorem ef4 (e : Ex) : (ec3 e).length ≤ nd e := by
 refine cz2 (P := fun e => (ec3 e).length ≤ nd e) (fun op v nm ds ks ih => ?_) e;rw [ec3, dc9];show _ ≤ ndL ks + 1
 have key : ∀ l : List Ex, (∀ x ∈ l, (ec3 x).length ≤ nd x) → (ec4 l).length ≤ ndL l := by
  intro l
  induction l with
  | nil => intro _; exact fk9 _
  | cons a r ihr =>
   intro h;have h1 := h a (by simp);have h2 := ihr fun x hx => h x (by simp [hx])
   simp only [ec4, fl8, ndL]; omega
 have hk := key ks ih
 cases op == 18 && ks.length == 2 with
 | true => rw [cond_true]; omega
 | false => rw [cond_false]; simp
theorem ef5 (a b : List Ex) : cy2 (a ++ b) = cy2 a ++ cy2 b := by simp only [cy4, fo1]
theorem ef6 (e : Ex) : nd e ≤ 1000000 → EvO E 16 [cy3 e] 27 9 (cy2 (ec3 e)) := by
 refine cz2 (P := fun e => nd e ≤ 1000000 → EvO E 16 [cy3 e] 27 9 (cy2 (ec3 e))) (fun op v nm ds ks ih hn => ?_) e;have hcl := ef3 (.mk op v nm ds ks) (by omega);rw [dc9] at hn;have hn' : ndL ks + 1 ≤ 1000000 := hn;have hlen : (cy2 ks).length = ks.length := cy9 ks;have hE : cy3 (.mk op v nm ds ks) = .agg [.int op, .int v.k, .int v.n, .int v.d, .str v.s, .sl (kids v), .str nm, .bool ds, .sl (cy2 ks)] := rfl;have hone : (bif op == 18 && ks.length == 2 then ec4 ks else [Ex.mk op v nm ds ks]) = ec3 (.mk op v nm ds ks) := by rw [ec3]
 rw [← hone];rw [hE] at hcl ⊢
 cases c1 : op != 18 with
 | true =>
  have c1' : (op == 18) = false := by simpa using c1
  rw [c1', fn3, cond_false];show EvO E _ _ _ _ [cy3 (.mk op v nm ds ks)];rw [hE];refine az4 func16 ntmps16 rfl rfl fun w0 F0 O => ?_
  repeat' (first | refine az0 rfl rfl rfl rfl rfl rfl rfl (by decide) (by decide) ?_ | refine yz ?_ | refine yp b27 hcl ?_ | refine yx ?_ | (refine yy ?_ ?_ <;> intro _) | exact zD | exact zL)
 | false =>
  obtain rfl : op = 18 := by simpa using c1
  by_cases h2 : ks.length = 2
  ·match ks, h2, ih with
   | [a, b], _, ih =>
    have hm : ndL [a, b] = nd a + nd b := by simp [ndL]
    have ha := ih a (by simp) (by omega);have hb := (ih b (by simp) (by omega)).ev;have la := ef4 a;have lb := ef4 b;have k0 : (cy2 [a, b])[((0 : Int)).toNat]? = some (cy3 a) := rfl;have k1 : (cy2 [a, b])[((1 : Int)).toNat]? = some (cy3 b) := rfl;have hbl : (cy2 (ec3 b)).length = (ec3 b).length := cy9 _;have hal : (cy2 (ec3 a)).length = (ec3 a).length := cy9 _;have hbn : cy2 (ec3 b) ≠ [] := by rw [cy4]; simpa using ec7 b
    have hbc := ee9 (ec3 b);have g2 : (((cy2 [a, b]).length : Int) != 2) = false := rfl;rw [show (bif (18 : Int) == 18 && [a, b].length == 2 then ec4 [a, b] else [Ex.mk 18 v nm ds [a, b]]) = ec3 a ++ ec3 b by show ec4 [a, b] = _; rw [ec4, ec4, ec4, fq1], ef5];generalize cy2 (ec3 a) = A at *;generalize cy2 (ec3 b) = B at *;refine az4 func16 ntmps16 rfl rfl fun w0 F0 O => ?_
    repeat' (first | refine bk5 (id := 3) [4,10] [] (by kernel_rfl) (by kernel_rfl) (by repeat (first | exact trivial | refine ⟨⟨rfl, rfl⟩, ?_⟩ | refine ⟨trivial, ?_⟩)) ?_ | refine reF (id := 3) (i := 0) 4 (by kernel_rfl) rfl ?_ | (refine reV (id := 3) (i := 5) rfl rfl rfl rfl rfl rfl ?_ ?_; (first | exact True.intro | rfl | assumption | omega | (simp only [inR]; omega) | ((show _ ≤ (9223372036854775807 : Nat)); (try simp only [ByteArray.size_append]); omega) | exact av0 (by omega) (by omega) | exact av1 (by omega) (by omega) | exact ⟨rfl, by decide, by decide⟩)) | (refine reV (id := 3) (i := 6) rfl rfl rfl rfl rfl rfl ?_ ?_; (first | exact True.intro | rfl | assumption | omega | (simp only [inR]; omega) | ((show _ ≤ (9223372036854775807 : Nat)); (try simp only [ByteArray.size_append]); omega) | exact av0 (by omega) (by omega) | exact av1 (by omega) (by omega) | exact ⟨rfl, by decide, by decide⟩)) | (refine reV (id := 3) (i := 7) rfl rfl rfl rfl rfl rfl ?_ ?_; (first | exact True.intro | rfl | assumption | omega | (simp only [inR]; omega) | ((show _ ≤ (9223372036854775807 : Nat)); (try simp only [ByteArray.size_append]); omega) | exact av0 (by omega) (by omega) | exact av1 (by omega) (by omega) | exact ⟨rfl, by decide, by decide⟩)) | (refine reV (id := 3) (i := 8) rfl rfl rfl rfl rfl rfl ?_ ?_; (first | exact True.intro | rfl | assumption | omega | (simp only [inR]; omega) | ((show _ ≤ (9223372036854775807 : Nat)); (try simp only [ByteArray.size_append]); omega) | exact av0 (by omega) (by omega) | exact av1 (by omega) (by omega) | exact ⟨rfl, by decide, by decide⟩)) | refine reF (id := 3) (i := 9) 1 (by kernel_rfl) rfl ?_ | refine reF (id := 3) (i := 11) 1 (by kernel_rfl) rfl ?_ | refine reN ?_ | refine yz ?_ | refine yi (cy3 a) k0 ?_ | refine yi (cy3 b) k1 ?_ | refine reI (id := 3) (i := 7) (cy3 b) rfl rfl rfl rfl rfl rfl rfl rfl rfl rfl (by first | omega | decide) k1 ?_ | refine bo2 (id := 3) (i := 4) rfl rfl rfl rfl rfl rfl b16 rfl (ha) (by repeat (first | exact trivial | refine ⟨⟨rfl, rfl⟩, ?_⟩ | refine ⟨trivial, ?_⟩)) ?_ | refine yp b16 hb ?_ | refine reS (id := 3) (i := 10) rfl rfl rfl rfl (⟨hbn, hbc, by (show (A.length + B.length) * 120 ≤ 140737488355328; omega), by (show A.length + B.length ≤ 9223372036854775807; omega)⟩) (by repeat (first | exact trivial | refine ⟨⟨rfl, rfl⟩, ?_⟩ | refine ⟨trivial, ?_⟩)) ?_ | refine yx ?_ | (refine yy ?_ ?_ <;> intro _) | exact zD | exact zL)
  ·have g2 : ((cy2 ks).length : Int) != 2 := by rw [hlen, bne_iff_ne]; omega
   have h2' : (ks.length == 2) = false := by simpa using h2
   rw [h2', fp8, cond_false];show EvO E _ _ _ _ [cy3 (.mk 18 v nm ds ks)];rw [hE];refine az4 func16 ntmps16 rfl rfl fun w0 F0 O => ?_
   repeat' (first | refine az0 rfl rfl rfl rfl rfl rfl rfl (by decide) (by decide) ?_ | refine yz ?_ | refine yp b27 hcl ?_ | refine yx ?_ | (refine yy ?_ ?_ <;> intro _) | exact zD | exact zL)
end Go.Proofs.YtaiiailapeffgaaGreatDoor
namespace Go.Proofs.YtaiiailapeffgaaGreatDoor
set_option maxRecDepth 4000
open Go Go.Abs Go.Val Go.RowKit Go.Proofs.Tryz
attribute [local irreducible] go SGo an2 Ev aw0 EvO EvS RGo
theorem ef7 {r : List Ex} {i : Nat} {x a : Ex} (h : r[i]? = some x) : (r.take (i + 1)).foldl ec5 a = ec5 ((r.take i).foldl ec5 a) x := by
 rw [fp0, h, List.foldl_append];rfl
theorem ef8 : Ev E 29 [.int 1] (.d (cy3 (eb0 (br0 true)))) := ee0 1
structure SAx (n : Nat) where
 i : Nat
 hi : i ≤ n
theorem ef9 (l : List Ex) (hn : ∀ x ∈ l, nd x ≤ 2000000) : Ev E 17 [.sl (cy2 l)] (.d (cy3 (ec6 l))) := Ev.fit fun hfit => by
 obtain ⟨hmax, -⟩ := cz1 (hfit (.sl (cy2 l)) (by simp))
 cases l with
 | nil =>
  show Ev E 17 [.sl []] _;have h := ef8;refine ye1 func17 ntmps17 fun _ _ _=>?_
  repeat' (first | refine yz ?_ | refine yp b29 h ?_ | refine yx ?_ | (refine yy ?_ ?_ <;> intro _) | exact zD | exact zL)
 | cons x r =>
  have hcx := ef3 x (hn x (by simp));have hle : (cy2 r).length = r.length := cy9 r;have hmax : r.length + 1 ≤ 9223372036854775807 := hmax;have k0 : (cy3 x :: cy2 r)[((0 : Int)).toNat]? = some (cy3 x) := rfl;have hl1 : (cy3 x :: cy2 r).length = r.length + 1 := by rw [fk5, hle]
  have g0 : (((cy3 x :: cy2 r).length : Int) == 0) = false := by rw [fk5, beq_eq_false_iff_ne]; omega
  have hce : ∀ d ∈ (cy3 x :: cy2 r), d.cells.length = 9 := ee9 (x :: r);show Ev E 17 [.sl (cy3 x :: cy2 r)] (.d (cy3 (r.foldl ec5 x)));refine ye1 func17 ntmps17 fun _ _ _=>?_
  repeat' (first | refine yz ?_ | refine yi (cy3 x) k0 ?_ | refine yp b27 hcx ?_ | (refine qS rfl ⟨⟨by omega, by omega⟩, ⟨_, rfl, hce⟩⟩ ?_) | refine yx ?_ | (refine yy ?_ ?_ <;> intro _) | exact zD | exact zL)
  refine ac7 (α := SAx r.length) (fun p => ⟨[(2, .ptr 0 0), (3, .ptr 1 0), (15, .d (.sl (cy2 r))), (16, .d (.int (cy2 r).length)), (17, .d (.int p.i))], [zXU, oXU (cy3 ((r.take p.i).foldl ec5 x))]⟩) (fun p => r.length - p.i) ⟨0, by omega⟩ (zle 2) ?_;rintro ⟨i, hi⟩;dsimp only;rcases fk1 i r.length with hlt | hge
  ·have g1 : decide ((i : Int) < ((cy2 r).length : Int)) = true := by rw [hle]; simpa using hlt
   have hx0 := fk0 hlt;generalize r[i] = y at hx0;have hx : (cy2 r)[(i : Int).toNat]? = some (cy3 y) := cy7 (by rw [fl0]; exact hx0);have hcy := ef3 y (hn y (by have := fk4 hx0; simp [this]));have hft := ef7 (a := x) hx0;generalize (r.take i).foldl ec5 x = acc at *
   repeat' (first | refine yq 7 [5] ?_ | refine yf 7 0 5 ?_ | refine yw ?_ | refine rgN ?_ | refine yv ?_ | refine yz ?_ | refine yi (cy3 y) hx ?_ | refine yp b27 hcy ?_ | refine yx ?_ | (refine yy ?_ ?_ <;> intro _) | exact zD | exact zL)
   refine ac1 ?_;refine ⟨⟨i + 1, by omega⟩, by dsimp only; omega, ?_⟩;dsimp only;rw [hft];exact (zle 2)
  ·have g1 : decide ((i : Int) < ((cy2 r).length : Int)) = false := by rw [hle]; simp; omega
   rw [fn4 hge];generalize r.foldl ec5 x = acc
   repeat' (first | refine yz ?_ | refine yx ?_ | (refine yy ?_ ?_ <;> intro _) | exact zD | exact zL)
end Go.Proofs.YtaiiailapeffgaaGreatDoor
