/- The search through the assignments of a conjunctive query, variable by variable: what it finds, in rising order, are just the tuples that satisfy all relations; The specification's check of graphs; The specification's check of graphs, of its nodes and edges; it is the program's; The specification's check of graphs as a whole: the program's; Types and labels held, an atom that holds for a node, by both texts; what the test of small graphs grants; The row of an assignment of ids to an atom's variables, in plain Lean; the program's tuple; The specification's row of an edge, as the program's: ids . Conditions: each part's own, as it says. -/
import Derived.Test.YtenpjlghikohmaaGreatDoorGC
import Derived.Test.YtenpjlghikohmaaGreatDoorWA
import Derived.Test.YtenpjlghikohmaaGreatDoorZA
import Derived.Test.YtenpjlghikohmaaGreatDoorGG
import Derived.Test.YtenpjlghikohmaaGreatDoorMB
import Derived.Test.YtenpjlghikohmaaGreatDoorLA
import Derived.Test.YtenpjlghikohmaaGreatDoorLB
set_option linter.unusedVariables false
set_option linter.unusedSimpArgs false
namespace Go.Proofs.YtenpjlghikohmaaGreatDoor
set_option maxRecDepth 4000
structure RVq where
 vs : List Int
 rows : List (List Int)
def ee3 (vs : List Int) (n : Nat) (t row : List Int) : Bool := (List.range vs.length).all fun k => !(decide (vs.getD k 0 < (n : Int)) && (row.getD k 0 != t.getD (vs.getD k 0).toNat 0))
def ee4 (r : RVq) (n : Nat) (t : List Int) : Bool := r.rows.any (ee3 r.vs n t)
def ltB (rels : List RVq) (r : RVq) : Option Nat → Bool
 | none => true
 | some j => decide (r.rows.length < ((rels[j]?.map RVq.rows).getD []).length)
def ee5 (rels : List RVq) (v : Int) : List RVq → Nat → Option Nat → Option Nat
 | [], _, b => b
 | r :: l, i, b => ee5 rels v l (i + 1) (bif r.vs.contains v && ltB rels r b then some i else b)
def ee6 (rels : List RVq) (v : Int) : Option Nat := ee5 rels v rels 0 none
def ee7 (l : List Int) (v : Int) : Nat := (l.findIdx? fun y => v == y).getD 0
def ee8 (rels : List RVq) (v : Nat) : List Int :=
 match ee6 rels v with
 | none => []
 | some b => match rels[b]? with
  | none => []
  | some r => eb7 (r.rows.map fun row => row.getD (ee7 r.vs v) 0)
def okQ (rels : List RVq) (v : Nat) (t : List Int) : Bool := rels.all fun r => !r.vs.contains (v : Int) || ee4 r (v + 1) t
def ee9 (rels : List RVq) : Nat → List Int → List (List Int)
 | 0, p => [p]
 | k + 1, p => (ee8 rels p.length).flatMap fun id => bif okQ rels p.length (p ++ [id]) then ee9 rels k (p ++ [id]) else []
def solQ (rels : List RVq) (n : Nat) (t : List Int) : Prop := t.length = n ∧ ∀ r ∈ rels, ∃ row ∈ r.rows, ∀ k, k < r.vs.length → row.getD k 0 = t.getD (r.vs.getD k 0).toNat 0
theorem ef0 {vs : List Int} {n : Nat} {t row : List Int} : ee3 vs n t row = true ↔ ∀ k, k < vs.length → vs.getD k 0 < (n : Int) → row.getD k 0 = t.getD (vs.getD k 0).toNat 0 := by
 unfold ee3;rw [fb2];constructor
 ·intro h k hk hv;have := h k (fc6.2 hk);rw [decide_eq_true hv] at this;simpa using this
 ·intro h k hk;have hk := fc6.1 hk
  by_cases hv : vs.getD k 0 < (n : Int)
  ·rw [h k hk hv]; simp
  ·rw [decide_eq_false hv]; rfl
theorem ef1 {vs : List Int} {n : Nat} {t t' row : List Int} (h0 : ∀ v ∈ vs, 0 ≤ v) (h : ∀ j, j < n → t.getD j 0 = t'.getD j 0) : ee3 vs n t row = ee3 vs n t' row := by
 apply ff6.2;rw [ef0, ef0]
 have hp : ∀ k, k < vs.length → 0 ≤ vs.getD k 0 := fun k hk => by
  rw [fb9, ez5 hk];exact h0 _ (fc9 hk)
 constructor
 ·intro g k hk hv;rw [g k hk hv];exact h _ (by have := hp k hk; omega)
 ·intro g k hk hv;rw [g k hk hv];exact (h _ (by have := hp k hk; omega)).symm
theorem ef2 {r : RVq} {n : Nat} {t t' : List Int} (h0 : ∀ v ∈ r.vs, 0 ≤ v) (h : ∀ j, j < n → t.getD j 0 = t'.getD j 0) : ee4 r n t = ee4 r n t' := by
 unfold ee4;congr 1
 funext row
 exact ef1 h0 h
theorem ef3 {rels : List RVq} {v : Nat} {t t' : List Int} (h0 : ∀ r ∈ rels, ∀ v ∈ r.vs, 0 ≤ v) (h : ∀ j, j < v + 1 → t.getD j 0 = t'.getD j 0) : okQ rels v t = okQ rels v t' := by
 unfold okQ;apply ff6.2;rw [fb2, fb2];constructor
 ·intro g r hr;rw [← ef2 (h0 r hr) h]; exact g r hr
 ·intro g r hr;rw [ef2 (h0 r hr) h]; exact g r hr
theorem ef4 (rels : List RVq) (v : Int) : ∀ (l : List RVq) (i : Nat) (b : Option Nat), rels.drop i = l → (∀ j, b = some j → ∃ r, rels[j]? = some r ∧ r.vs.contains v = true) →
  (∀ j, ee5 rels v l i b = some j → ∃ r, rels[j]? = some r ∧ r.vs.contains v = true) ∧ ((b.isSome ∨ ∃ r ∈ l, r.vs.contains v = true) → (ee5 rels v l i b).isSome)
 | [], i, b, _, hb => ⟨fun j hj => hb j hj, fun h => by
   rcases h with h | ⟨r, hr, -⟩
   ·exact h
   ·cases hr⟩
 | r :: l, i, b, hd, hb => by
  have hi : rels[i]? = some r := by
   have h1 : (rels.drop i)[0]? = some r := by rw [hd]; rfl
   rwa [fe4, fc5] at h1
  have hd' : rels.drop (i + 1) = l := by rw [← List.tail_drop, hd]; rfl
  unfold ee5
  cases hc : r.vs.contains v && ltB rels r b with
  | true =>
   have hc1 := (fa3 _ _ ▸ hc : r.vs.contains v = true ∧ ltB rels r b = true);obtain ⟨g1, g2⟩ := ef4 rels v l (i + 1) (some i) hd' (fun j hj => by cases hj; exact ⟨r, hi, hc1.1⟩);exact ⟨g1, fun _ => g2 (.inl rfl)⟩
  | false =>
   obtain ⟨g1, g2⟩ := ef4 rels v l (i + 1) b hd' hb;refine ⟨g1, fun h => g2 ?_⟩;rcases h with h | ⟨q, hq, hqv⟩
   ·exact .inl h
   ·rcases fa6.1 hq with e | e
    ·subst e
     cases b with
     | none => rw [hqv] at hc; simp [ltB] at hc
     | some j => exact .inl rfl
    ·exact .inr ⟨q, e, hqv⟩
theorem ef5 {rels : List RVq} {v : Int} (h : ∃ r ∈ rels, r.vs.contains v = true) : ∃ j r, ee6 rels v = some j ∧ rels[j]? = some r ∧ r.vs.contains v = true := by
 obtain ⟨g1, g2⟩ := ef4 rels v rels 0 none rfl (fun j hj => by cases hj);obtain ⟨j, hj⟩ := Option.isSome_iff_exists.1 (g2 (.inr h));obtain ⟨r, h1, h2⟩ := g1 j hj;exact ⟨j, r, hj, h1, h2⟩
theorem ef6 {l : List Int} {v : Int} (h : l.contains v = true) : ee7 l v < l.length ∧ l.getD (ee7 l v) 0 = v := by
 have h : v ∈ l := by simpa using h
 unfold ee7
 cases hf : l.findIdx? fun y => v == y with
 | none =>
  exfalso;rw [fh4] at hf;have := hf v h;simp at this
 | some k =>
  rw [fj8] at hf;obtain ⟨h1, h2, -⟩ := hf;refine ⟨h1, ?_⟩;rw [fd8, fb9, ez5 h1, fd8];have : v = l[k] := by simpa using h2
  exact this.symm
theorem ef7 (rels : List RVq) (v : Nat) : rz (ee8 rels v) := by
 unfold ee8;split
 ·exact List.Pairwise.nil
 ·split
  ·exact List.Pairwise.nil
  ·exact ec2 _
theorem ef8 {rels : List RVq} {v : Nat} {j : Nat} {r : RVq} (h1 : ee6 rels v = some j) (h2 : rels[j]? = some r) (x : Int) : x ∈ ee8 rels v ↔ ∃ row ∈ r.rows, row.getD (ee7 r.vs v) 0 = x := by
 unfold ee8;rw [h1];dsimp only;rw [h2];dsimp only;rw [ec3, fc4]
theorem ef9 (p a b : List Int) : du7 (p ++ a) (p ++ b) = du7 a b := by
 induction p with
 | nil => rfl
 | cons x r ih => rw [fe3, fe3, dv1, ih]
theorem eg0 (rels : List RVq) : ∀ (k : Nat) (p t : List Int), t ∈ ee9 rels k p → t.length = p.length + k ∧ ∃ q, t = p ++ q
 | 0, p, t, h => by
  obtain rfl := fa0.1 h;exact ⟨rfl, [], by simp⟩
 | k + 1, p, t, h => by
  obtain ⟨id, -, h2⟩ := fi4.1 h
  cases hc : okQ rels p.length (p ++ [id]) with
  | false => rw [hc] at h2; cases h2
  | true =>
   rw [hc, cond_true] at h2;obtain ⟨g1, q, g2⟩ := eg0 rels k _ t h2;refine ⟨by rw [g1]; simp; omega, [id] ++ q, by rw [g2]; simp⟩
theorem eg1 (rels : List RVq) : ∀ (k : Nat) (p : List Int), dv7 (ee9 rels k p)
 | 0, p => List.pairwise_singleton _ _
 | k + 1, p => by
  show dv7 ((ee8 rels p.length).flatMap fun id => bif okQ rels p.length (p ++ [id]) then ee9 rels k (p ++ [id]) else []);have hz := ef7 rels p.length;generalize ee8 rels p.length = c at *;unfold dv7;rw [List.flatMap, List.pairwise_flatten];constructor
  ·intro l hl;obtain ⟨id, -, rfl⟩ := fc4.1 hl
   cases hc : okQ rels p.length (p ++ [id]) with
   | false => exact List.Pairwise.nil
   | true => exact eg1 rels k _
  ·rw [List.pairwise_map];refine List.Pairwise.imp (fun {a b} hab => ?_) hz;intro x hx y hy
   have hx' : x ∈ ee9 rels k (p ++ [a]) := by
    cases hc : okQ rels p.length (p ++ [a]) with
    | false => rw [hc] at hx; cases hx
    | true => rw [hc] at hx; exact hx
   have hy' : y ∈ ee9 rels k (p ++ [b]) := by
    cases hc : okQ rels p.length (p ++ [b]) with
    | false => rw [hc] at hy; cases hy
    | true => rw [hc] at hy; exact hy
   obtain ⟨-, u, rfl⟩ := eg0 rels k _ x hx';obtain ⟨-, w, rfl⟩ := eg0 rels k _ y hy';rw [fc1, fc1, ef9, List.singleton_append, List.singleton_append, du9 hab];omega
theorem eg2 (rels : List RVq) : ∀ (k : Nat) (p t : List Int), t ∈ ee9 rels k p ↔ t.length = p.length + k ∧ t.take p.length = p ∧ ∀ j, p.length ≤ j → j < p.length + k → t.getD j 0 ∈ ee8 rels j ∧ okQ rels j (t.take (j + 1)) = true
 | 0, p, t => by
  show t ∈ [p] ↔ _;rw [fa0];constructor
  ·rintro rfl;exact ⟨by simp, by simp, fun j h1 h2 => by omega⟩
  ·rintro ⟨h1, h2, -⟩;rw [fe9 (by omega)] at h2;exact h2
 | k + 1, p, t => by
  show t ∈ ((ee8 rels p.length).flatMap fun id => bif okQ rels p.length (p ++ [id]) then ee9 rels k (p ++ [id]) else []) ↔ _;rw [fi4];constructor
  ·rintro ⟨id, h1, h2⟩
   cases hc : okQ rels p.length (p ++ [id]) with
   | false => rw [hc] at h2; cases h2
   | true =>
    rw [hc, cond_true, eg2 rels k] at h2;obtain ⟨a1, a2, a3⟩ := h2;have hl : (p ++ [id]).length = p.length + 1 := by simp
    rw [hl] at a1 a2 a3
    have htk : t.take p.length = p := by
     have := congrArg (List.take p.length) a2;rw [List.take_take, Nat.min_eq_left (by omega)] at this;simpa using this
    have hid : t.getD p.length 0 = id := by
     have h3 := congrArg (fun l => l[p.length]?) a2;rw [fi9 (by omega), fa9 (fa4 _)] at h3;rw [fb9, h3];simp
    refine ⟨by omega, htk, fun j hj1 hj2 => ?_⟩;rcases Nat.eq_or_lt_of_le hj1 with e | hlt
    ·subst e;rw [hid, a2];exact ⟨h1, hc⟩
    ·exact a3 j (by omega) (by omega)
  ·rintro ⟨a1, a2, a3⟩;obtain ⟨b1, b2⟩ := a3 p.length (fa4 _) (by omega);have hlt : p.length < t.length := by omega
   have htk : t.take (p.length + 1) = p ++ [t.getD p.length 0] := by
    rw [fg0, a2, fb9, ez5 hlt];rfl
   rw [htk] at b2;refine ⟨_, b1, ?_⟩;rw [b2, cond_true, eg2 rels k];have hl : (p ++ [t.getD p.length 0]).length = p.length + 1 := by simp
   rw [hl];exact ⟨by omega, htk, fun j h1 h2 => a3 j (by omega) (by omega)⟩
structure WfQ (rels : List RVq) (n : Nat) : Prop where
 ne : ∀ r ∈ rels, r.vs ≠ []
 lo : ∀ r ∈ rels, ∀ v ∈ r.vs, 0 ≤ v
 hi : ∀ r ∈ rels, ∀ v ∈ r.vs, v < (n : Int)
 us : ∀ v : Nat, v < n → ∃ r ∈ rels, r.vs.contains (v : Int) = true
theorem eg3 {l : List Int} (h : l ≠ []) : ∃ m ∈ l, ∀ x ∈ l, x ≤ m := by
 induction l with
 | nil => exact absurd rfl h
 | cons a r ih =>
  cases r with
  | nil => exact ⟨a, by simp, fun x hx => by simp at hx; omega⟩
  | cons b r =>
   obtain ⟨m, hm, hx⟩ := ih (by simp);rcases Int.le_total a m with h1 | h1
   ·refine ⟨m, fl8 _ hm, fun x h2 => ?_⟩;rcases fa6.1 h2 with e | e
    ·omega
    ·exact hx x e
   ·refine ⟨a, by simp, fun x h2 => ?_⟩;rcases fa6.1 h2 with e | e
    ·omega
    ·have := hx x e; omega
theorem eg4 {t : List Int} {n j : Nat} (h : j < n) : (t.take n).getD j 0 = t.getD j 0 := by
 rw [fb9, fb9, fi9 h]
theorem eg5 {l : List Int} {k : Nat} (h : k < l.length) : l.getD k 0 ∈ l := by
 rw [fb9, ez5 h];exact fc9 h
theorem eg6 {rels : List RVq} {n : Nat} (hw : WfQ rels n) (t : List Int) : t ∈ ee9 rels n [] ↔ solQ rels n t := by
 rw [eg2];simp only [fd1, fc0, List.take_zero, fd6, true_and, forall_const];unfold solQ;constructor
 ·rintro ⟨h1, h2⟩;refine ⟨h1, fun r hr => ?_⟩;obtain ⟨m, hm, hmx⟩ := eg3 (hw.ne r hr);have m0 := hw.lo r hr m hm;have mn := hw.hi r hr m hm;obtain ⟨-, h3⟩ := h2 m.toNat (by omega);unfold okQ at h3;have h4 := fb2.1 h3 r hr;rw [show ((m.toNat : Nat) : Int) = m by omega] at h4;rw [show r.vs.contains m = true by simpa using hm, ff7, fe2] at h4;unfold ee4 at h4;obtain ⟨row, hrow, ha⟩ := fj9.1 h4;refine ⟨row, hrow, fun k hk => ?_⟩;have hvk := eg5 hk;have := ef0.1 ha k hk (by have := hmx _ hvk; omega);rw [this];exact eg4 (by have := hmx _ hvk; have := hw.lo r hr _ hvk; omega)
 ·rintro ⟨h1, h2⟩;refine ⟨h1, fun j hj => ⟨?_, ?_⟩⟩
  ·obtain ⟨b, r, e1, e2, e3⟩ := ef5 (hw.us j hj);rw [ef8 e1 e2];obtain ⟨row, hrow, ha⟩ := h2 r (ez9 e2);obtain ⟨i1, i2⟩ := ef6 e3;refine ⟨row, hrow, ?_⟩;rw [ha _ i1, i2, fb4]
  ·unfold okQ;rw [fb2];intro r hr;obtain ⟨row, hrow, ha⟩ := h2 r hr
   have : ee4 r (j + 1) (t.take (j + 1)) = true := by
    unfold ee4;refine fj9.2 ⟨row, hrow, ef0.2 fun k hk hv => ?_⟩;rw [ha k hk];exact (eg4 (by have := hw.lo r hr _ (eg5 hk); omega)).symm
   rw [this, fe5]
open Go Go.Abs Go.Val Go.Proofs.Tryz
attribute [local irreducible] Ev EvO EvS aw2 an2 PGo RGo SGo go
end Go.Proofs.YtenpjlghikohmaaGreatDoor
namespace Go.Proofs.YtenpjlghikohmaaGreatDoor
set_option maxRecDepth 4000
open Go Go.Abs Go.Val Go.RowKit Go.Proofs.Tryz
attribute [local irreducible] go SGo an2 Ev aw2 EvO EvS RGo
theorem eg7 {α : Type} {f : α → Int → Int} {l : List α} {left : Int} (h : 0 ≤ da4 f l left) : 0 ≤ left := by
 rcases Int.lt_or_le left 0 with hn | hn
 ·rw [da5 f l left hn] at h; exact h
 ·exact hn
theorem eg8 {l : List Pr} {left : Int} (hl : left ≤ 2000) (h : 0 ≤ da4 prS l left) : da0 l ∧ ∀ p ∈ l, ck5 p.v ≤ 1048576 := by
 have hc : ∀ p ∈ l, ck5 p.v ≤ 2000 := fun p hp => by
  obtain ⟨k, k1, k2, k3⟩ := da7 prS (fun x left _ => by have := db0 x left; omega) l left h p hp;unfold prS at k3;have h1 := ck9 12 p.v _ k3;have h2 := (av1 (a := (p.key.size : Int)) (b := 50) (by omega)).1 (by omega);omega
 have hlen := da8 prS (fun x left _ => db0 x left) l left h;exact ⟨⟨by omega, fun p hp => cl1 p.v (by have := hc p hp; omega)⟩, fun p hp => by have := hc p hp; omega⟩
theorem eg9 {g : Gr} {a b : Int} (h : smG g a b = true) : ((∀ n ∈ g.nodes, narN n) ∧ ∀ e ∈ g.edges, da0 e.props) ∧ (∀ n ∈ g.nodes, ∀ p ∈ n.props, ck5 p.v ≤ 1048576) ∧ ∀ e ∈ g.edges, ∀ p ∈ e.props, ck5 p.v ≤ 1048576 := by
 unfold smG at h;rw [fa3] at h;have h0 : 0 ≤ da4 edS g.edges (da4 ndS g.nodes 2000) := of_decide_eq_true h.2;have h1 := eg7 h0;have hR : da4 ndS g.nodes 2000 ≤ 2000 := da6 ndS (fun n left _ => db7 n left) _ _
 have hn : ∀ n ∈ g.nodes, narN n ∧ ∀ p ∈ n.props, ck5 p.v ≤ 1048576 := fun n hm => by
  obtain ⟨k, k1, k2, k3⟩ := da7 ndS (fun n left _ => db7 n left) g.nodes 2000 h1 n hm;unfold ndS at k3;have k4 := eg7 k3;have k5 := eg7 k4;obtain ⟨p1, p2⟩ := eg8 (by omega) k4;exact ⟨⟨by omega, p1⟩, p2⟩
 have he : ∀ e ∈ g.edges, da0 e.props ∧ ∀ p ∈ e.props, ck5 p.v ≤ 1048576 := fun e hm => by
  obtain ⟨k, k1, k2, k3⟩ := da7 edS (fun e left _ => db8 e left) g.edges _ h0 e hm;unfold edS at k3;have h2 := (av1 (a := (e.ty.size : Int)) (b := 50) (by omega)).1 (by omega);exact eg8 (by omega) k3
 exact ⟨⟨fun n hm => (hn n hm).1, fun e hm => (he e hm).1⟩, fun n hm => (hn n hm).2, fun e hm => (he e hm).2⟩
def htF (e : Ed) (ty : List ByteArray) : Bool := ty.isEmpty || cy8 ty e.ty
theorem eh0 (e : Ed) (ty : List ByteArray) : Ev E 61 [cy1 e, .sl (ty.map .str)] (.d (.bool (htF e ty))) := by
 have h := cz3 ty e.ty
 match ty with
 | [] =>
  show Ev E 61 [cy1 e, .sl []] (.d (.bool true));refine ye2 func61 ntmps61 fun _ _ _=>?_
  repeat' (first | refine yz ?_ | exact zD)
 | t :: r =>
  have g1 : ((((t :: r).map D.str).length : Int) == 0) = false := by simp; omega
  show Ev E 61 [cy1 e, .sl ((t :: r).map .str)] (.d (.bool (cy8 (t :: r) e.ty)));generalize cy8 (t :: r) e.ty = z at *;refine ye2 func61 ntmps61 fun _ _ _=>?_
  repeat' (first | refine yz ?_ | refine yp b124 h ?_ | exact zD)
def eh1 (n : Nd) (a : AT) : Bool := bif a.k == 1 then cy8 n.labels a.nm else bif a.k == 2 then eqF (cy7 n.props a.nm) a.v == 2 else true
theorem eh2 (n : Nd) (a : AT) (hn : da0 n.props) : Ev E 62 [cy0 n, di7 a] (.d (.bool (eh1 n a))) := by
 obtain ⟨k, avs, nm, ty, ⟨vk, vn, vd, vS, vl⟩⟩ := a;have h1 := cz4 n nm;have h2 := da1 n.props nm hn;have h3 := cq0 (cy7 n.props nm) (.mk vk vn vd vS vl);unfold eh1;dsimp only;generalize cy8 n.labels nm = z at *;generalize cy7 n.props nm = u at *;obtain ⟨uk, un, ud, uS, ul⟩ := u;generalize eqF (.mk uk un ud uS ul) (.mk vk vn vd vS vl) = y at *
 cases c1 : k == 1 with
 | true =>
  refine ye2 func62 ntmps62 fun _ _ _=>?_
  repeat' (first | refine yz ?_ | refine yp b43 h1 ?_ | exact zD)
 | false =>
 cases c2 : k == 2 with
 | true =>
  refine ye2 func62 ntmps62 fun _ _ _=>?_
  repeat' (first | refine yz ?_ | refine yp b153 h2 ?_ | refine yp b152 h3 ?_ | exact zD)
 | false =>
  refine ye2 func62 ntmps62 fun _ _ _=>?_
  repeat' (first | refine yz ?_ | exact zD)
attribute [local irreducible] PGo
def eh3 (l : List Int) (x : Int) : Nat := (l.findIdx? fun y => x == y).getD 0
theorem eh4 {l : List Int} {x : Int} (h : x ∈ l) : l.findIdx? (fun y => x == y) = some (eh3 l x) ∧ l[eh3 l x]? = some x := by
 unfold eh3
 cases hf : l.findIdx? fun y => x == y with
 | none =>
  exfalso;rw [fh4] at hf;have := hf x h;simp at this
 | some k =>
  rw [fj8] at hf;obtain ⟨h1, h2, -⟩ := hf;refine ⟨rfl, ?_⟩;rw [fd8, ez5 h1];have : x = l[k] := by simpa using h2
  rw [this]
def eh5 (vs ids : List Int) (v : Int) : Int := ids.getD (eh3 vs v) 0
def eh6 (vs ids : List Int) : Bool := (List.range vs.length).all fun i => eh5 vs ids (vs.getD i 0) == ids.getD i 0
def eh7 (vs ids : List Int) : List Int := (eb7 vs).map (eh5 vs ids)
def eh8 (vs ids : List Int) (i : Nat) : List Int := (eb7 vs).map fun v => if v ∈ vs.take i then eh5 vs ids v else 0
theorem eh9 {L : List Int} (hn : L.Nodup) {k : Nat} {x : Int} (hk : L[k]? = some x) (f : Int → Int) (y : Int) : (L.map f).set k y = L.map fun v => if v = x then y else f v := by
 refine ff4 fun i => ?_
 rw [fd2, ez8, fb8];have hkl := (ez7.1 hk).1
 by_cases e : k = i
 ·subst e;rw [if_pos rfl, if_pos hkl, ez8, hk];simp
 ·rw [if_neg e, ez8]
  cases hi : L[i]? with
  | none => rfl
  | some z =>
   have : z ≠ x := fun hz => e (by
    subst hz;obtain ⟨a1, a2⟩ := ez7.1 hk;obtain ⟨b1, b2⟩ := ez7.1 hi;exact (List.getElem_inj hn).1 (a2.trans b2.symm))
   simp [this]
theorem ei0 {vs ids : List Int} {i k : Nat} {x q : Int} (hn : (eb7 vs).Nodup) (hx : vs[i]? = some x) (hk : (eb7 vs)[k]? = some x) (hq : eh5 vs ids x = q) : (iL (eh8 vs ids i)).set k (.int q) = iL (eh8 vs ids (i + 1)) := by
 unfold iL;rw [← List.map_set];refine congrArg (List.map D.int) ?_;unfold eh8;rw [eh9 hn hk];refine fl5 fun v _ => ?_
 rw [fg0, hx]
 by_cases e : v = x
 ·subst e;simp [hq]
 ·simp [e]
theorem ei1 (vs ids : List Int) : iL (eh8 vs ids 0) = List.replicate (eb7 vs).length (.int 0) := by
 unfold iL eh8;rw [List.map_map];refine List.eq_replicate_iff.2 ⟨by simp, fun b hb => ?_⟩;obtain ⟨a, -, rfl⟩ := fc4.1 hb;simp
theorem ei2 {vs ids : List Int} {i : Nat} (h : vs.length ≤ i) (hm : ∀ v ∈ eb7 vs, v ∈ vs) : eh8 vs ids i = eh7 vs ids := by
 unfold eh8 eh7;refine fl5 fun v hv => ?_
 rw [fe9 h, if_pos (hm v hv)]
structure STu (vs ids : List Int) where
 i : Nat
 hi : i ≤ vs.length
 ok : ∀ j, j < i → (eh5 vs ids (vs.getD j 0) == ids.getD j 0) = true
def ei3 (vs ids : List Int) : D := .sl (iL (bif eh6 vs ids then eh7 vs ids else []))
theorem ei4 (l : List Int) : (eb7 l).Nodup := (ec2 l).imp fun h => by omega
set_option maxHeartbeats 4000000 in
theorem ei5 (a : AT) (ids : List Int) (hl : ids.length = a.vs.length) (hn : a.vs.length ≤ 8) : Ev E 60 [di7 a, .sl (iL ids)] (.tup [ei3 a.vs ids, .bool (eh6 a.vs ids)]) := by
 have h0 := ed2 a (by omega);obtain ⟨k, vs, nm, ty, ⟨vk, vn, vd, vS, vl⟩⟩ := a;dsimp only at *;have hvl := ed7 vs;have hli : (iL vs).length = vs.length := di9 vs;have hlj : (iL ids).length = ids.length := di9 ids;have hlv : ((eb7 vs).map D.int).length = (eb7 vs).length := by simp
 have hr0 := ei1 vs ids;rw [show ((eb7 vs).map D.int) = iL (eb7 vs) from rfl] at *;generalize hV : iL (eb7 vs) = V at *;refine ye2 func60 ntmps60 fun _ _ _=>?_
 repeat' (first | refine yz ?_ | refine yp b53 h0 ?_ | (refine qS rfl ⟨rfl, by (show 8 * V.length ≤ 281474976710656; omega), by omega⟩ ?_))
 refine ac7 (α := STu vs ids) (fun p => ⟨[(1, .d (.sl (iL ids))), (2, .ptr 0 0), (6, .d (.sl V)), (7, .own 1), (18, .d (.sl (iL vs))), (19, .d (.int (iL vs).length)), (20, .d (.int p.i))], [.var 58 (.w (.d (di7 ⟨k, vs, nm, ty, .mk vk vn vd vS vl⟩))), .row 3 1 (iL (eh8 vs ids p.i))]⟩) (fun p => vs.length - p.i) ⟨0, by omega, fun j hj => by omega⟩ (by dsimp only; rw [hr0, ← hlv]; exact (zle 2)) ?_;rintro ⟨i, hi, ok⟩;dsimp only;rcases ez6 i vs.length with hlt | hge
 ·have g1 : decide ((i : Int) < ((iL vs).length : Int)) = true := by rw [hli]; simpa using hlt
  have hx0 := ez5 hlt;have hxm : vs[i] ∈ vs := fc9 hlt;generalize vs[i] = x at hx0 hxm;obtain ⟨e1, e2⟩ := eh4 hxm;obtain ⟨e3, e4⟩ := eh4 ((ec3 vs x).2 hxm);have h1 := dj7 (eb7 vs) x;have h2 := dj7 vs x;rw [e3, hV] at h1;rw [e1] at h2;have hf := (ez7.1 e2).1;have hk := (ez7.1 e4).1;have hqv : eh5 vs ids x = ids.getD (eh3 vs x) 0 := rfl;generalize eh3 (eb7 vs) x = m at *;generalize eh3 vs x = f at *;have h1 : Ev E 151 [.sl V, .int x] (.d (.int (m : Int))) := h1;have h2 : Ev E 151 [.sl (iL vs), .int x] (.d (.int (f : Int))) := h2;have hx : (iL vs)[((i : Nat) : Int).toNat]? = some (.int x) := cy3 (f := D.int) hx0;have hp0 := ez5 (show f < ids.length by omega);have hq0 := ez5 (show i < ids.length by omega);rw [fb9, hp0, fd8] at hqv;have hqi : ids.getD i 0 = ids[i] := by rw [fb9, hq0, fd8]
  have hvi : vs.getD i 0 = x := by rw [fb9, hx0, fd8]
  generalize ids[f] = p at hp0 hqv;generalize ids[i] = q at hq0 hqi;have hp : (iL ids)[((f : Nat) : Int).toNat]? = some (.int p) := cy3 (f := D.int) hp0;have hq : (iL ids)[((i : Nat) : Int).toNat]? = some (.int q) := cy3 (f := D.int) hq0;have hrl : (eh8 vs ids i).length = (eb7 vs).length := by simp [eh8]
  have hrl2 : (iL (eh8 vs ids i)).length = (eb7 vs).length := by rw [di9, hrl]
  have ho0 := ez5 (show m < (eh8 vs ids i).length by omega);generalize (eh8 vs ids i)[m] = o at ho0;have ho : (iL (eh8 vs ids i))[((m : Nat) : Int).toNat]? = some (.int o) := cy3 (f := D.int) ho0;have g2 : (0 : Int) ≤ (m : Int) ∧ (m : Int) < ((iL (eh8 vs ids i)).length : Int) := by rw [hrl2]; omega
  cases hc : p != q with
  | true =>
   have hno : eh6 vs ids = false := by
    unfold eh6;rw [fk3];refine ⟨i, fc6.2 hlt, ?_⟩;rw [hvi, hqv, hqi];simpa using hc
   have e : ei3 vs ids = .sl [] := by unfold ei3; rw [hno]; rfl
   rw [hno, e]
   repeat' (first | refine yz ?_ | refine yi (.int x) hx ?_ | refine qP (d := 27) rfl rfl rfl rfl rfl rfl bv1 (h1) ?_ | refine qP (d := 31) rfl rfl rfl rfl rfl rfl bv1 (h2) ?_ | refine yi (.int p) hp ?_ | refine yi (.int q) hq ?_ | exact zL)
  | false =>
   have hnx := ei0 (ids := ids) (ei4 vs) hx0 e4 hqv;have hpq : p = q := by simpa using hc
   repeat' (first | refine yz ?_ | refine yi (.int x) hx ?_ | refine qP (d := 27) rfl rfl rfl rfl rfl rfl bv1 (h1) ?_ | refine qP (d := 31) rfl rfl rfl rfl rfl rfl bv1 (h2) ?_ | refine yi (.int p) hp ?_ | refine yi (.int q) hq ?_ | refine qZ (.int o) rfl rfl rfl rfl rfl rfl ho rfl rfl rfl ?_)
   refine ac1 ?_;refine ⟨⟨i + 1, by omega, fun j hj => ?_⟩, by dsimp only; omega, ?_⟩
   ·rcases ez6 j i with h | h
    ·exact ok j h
    ·rw [show j = i by omega, hvi, hqv, hqi, hpq];exact beq_self_eq_true _
   ·dsimp only;rw [← hnx, hpq];exact (zle 2)
 ·have g1 : decide ((i : Int) < ((iL vs).length : Int)) = false := by rw [hli]; simp; omega
  have hok : eh6 vs ids = true := by
   unfold eh6;rw [fb2];intro j hj;exact ok j (by have := fc6.1 hj; omega)
  have e : ei3 vs ids = .sl (iL (eh7 vs ids)) := by unfold ei3; rw [hok]; rfl
  rw [hok, e, ei2 hge fun v hv => (ec3 vs v).1 hv];refine au8 1 rfl ?_
  repeat' (first | refine yz ?_ | exact zL)
end Go.Proofs.YtenpjlghikohmaaGreatDoor
