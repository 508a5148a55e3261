/- The search through the assignments of a conjunctive query, variable by variable: what it finds, in rising order, are just the tuples that satisfy all relations; The specification's check of graphs; The specification's check of graphs, of its nodes and edges; it is the program's; The specification's check of graphs as a whole: the program's; Types and labels held, an atom that holds for a node, by both texts; what the test of small graphs grants; The row of an assignment of ids to an atom's variables, in plain Lean; the program's tuple; The specification's row of an edge, as the program's: ids . Conditions: each part's own, as it says. -/
import Derived.Test.YtenpjlghikohmaaGreatDoorGC
import Derived.Test.YtenpjlghikohmaaGreatDoorWA
import Derived.Test.YtenpjlghikohmaaGreatDoorZA
import Derived.Test.YtenpjlghikohmaaGreatDoorGG
import Derived.Test.YtenpjlghikohmaaGreatDoorMB
import Derived.Test.YtenpjlghikohmaaGreatDoorLA
import Derived.Test.YtenpjlghikohmaaGreatDoorLB
set_option linter.unusedVariables false
set_option linter.unusedSimpArgs false
namespace Go.Proofs.YtenpjlghikohmaaGreatDoor
set_option maxRecDepth 4000
structure RVq where
 vs : List Int
 rows : List (List Int)
def agrQ (vs : List Int) (n : Nat) (t row : List Int) : Bool := (List.range vs.length).all fun k => !(decide (vs.getD k 0 < (n : Int)) && (row.getD k 0 != t.getD (vs.getD k 0).toNat 0))
def fitQ (r : RVq) (n : Nat) (t : List Int) : Bool := r.rows.any (agrQ r.vs n t)
def ltB (rels : List RVq) (r : RVq) : Option Nat → Bool
 | none => true
 | some j => decide (r.rows.length < ((rels[j]?.map RVq.rows).getD []).length)
def bestG (rels : List RVq) (v : Int) : List RVq → Nat → Option Nat → Option Nat
 | [], _, b => b
 | r :: l, i, b => bestG rels v l (i + 1) (bif r.vs.contains v && ltB rels r b then some i else b)
def bestQ (rels : List RVq) (v : Int) : Option Nat := bestG rels v rels 0 none
def idxQ (l : List Int) (v : Int) : Nat := (l.findIdx? fun y => v == y).getD 0
def candQ (rels : List RVq) (v : Nat) : List Int :=
 match bestQ rels v with
 | none => []
 | some b => match rels[b]? with
  | none => []
  | some r => vrsF (r.rows.map fun row => row.getD (idxQ r.vs v) 0)
def okQ (rels : List RVq) (v : Nat) (t : List Int) : Bool := rels.all fun r => !r.vs.contains (v : Int) || fitQ r (v + 1) t
def stepQ (rels : List RVq) : Nat → List Int → List (List Int)
 | 0, p => [p]
 | k + 1, p => (candQ rels p.length).flatMap fun id => bif okQ rels p.length (p ++ [id]) then stepQ rels k (p ++ [id]) else []
def solQ (rels : List RVq) (n : Nat) (t : List Int) : Prop := t.length = n ∧ ∀ r ∈ rels, ∃ row ∈ r.rows, ∀ k, k < r.vs.length → row.getD k 0 = t.getD (r.vs.getD k 0).toNat 0
theorem agrQ_iff {vs : List Int} {n : Nat} {t row : List Int} : agrQ vs n t row = true ↔ ∀ k, k < vs.length → vs.getD k 0 < (n : Int) → row.getD k 0 = t.getD (vs.getD k 0).toNat 0 := by
 unfold agrQ
 rw [List.all_eq_true]
 constructor
 ·intro h k hk hv
  have := h k (List.mem_range.2 hk)
  rw [decide_eq_true hv] at this
  simpa using this
 ·intro h k hk
  have hk := List.mem_range.1 hk
  by_cases hv : vs.getD k 0 < (n : Int)
  ·rw [h k hk hv]; simp
  ·rw [decide_eq_false hv]; rfl
theorem agrQ_take {vs : List Int} {n : Nat} {t t' row : List Int} (h0 : ∀ v ∈ vs, 0 ≤ v) (h : ∀ j, j < n → t.getD j 0 = t'.getD j 0) : agrQ vs n t row = agrQ vs n t' row := by
 apply Bool.eq_iff_iff.2
 rw [agrQ_iff, agrQ_iff]
 have hp : ∀ k, k < vs.length → 0 ≤ vs.getD k 0 := fun k hk => by
  rw [List.getD_eq_getElem?_getD, List.getElem?_eq_getElem hk]
  exact h0 _ (List.getElem_mem hk)
 constructor
 ·intro g k hk hv
  rw [g k hk hv]
  exact h _ (by have := hp k hk; omega)
 ·intro g k hk hv
  rw [g k hk hv]
  exact (h _ (by have := hp k hk; omega)).symm
theorem fitQ_take {r : RVq} {n : Nat} {t t' : List Int} (h0 : ∀ v ∈ r.vs, 0 ≤ v) (h : ∀ j, j < n → t.getD j 0 = t'.getD j 0) : fitQ r n t = fitQ r n t' := by
 unfold fitQ
 congr 1
 funext row
 exact agrQ_take h0 h
theorem okQ_take {rels : List RVq} {v : Nat} {t t' : List Int} (h0 : ∀ r ∈ rels, ∀ v ∈ r.vs, 0 ≤ v) (h : ∀ j, j < v + 1 → t.getD j 0 = t'.getD j 0) : okQ rels v t = okQ rels v t' := by
 unfold okQ
 apply Bool.eq_iff_iff.2
 rw [List.all_eq_true, List.all_eq_true]
 constructor
 ·intro g r hr
  rw [← fitQ_take (h0 r hr) h]; exact g r hr
 ·intro g r hr
  rw [fitQ_take (h0 r hr) h]; exact g r hr
theorem bestG_ok (rels : List RVq) (v : Int) : ∀ (l : List RVq) (i : Nat) (b : Option Nat), rels.drop i = l → (∀ j, b = some j → ∃ r, rels[j]? = some r ∧ r.vs.contains v = true) →
  (∀ j, bestG rels v l i b = some j → ∃ r, rels[j]? = some r ∧ r.vs.contains v = true) ∧ ((b.isSome ∨ ∃ r ∈ l, r.vs.contains v = true) → (bestG rels v l i b).isSome)
 | [], i, b, _, hb => ⟨fun j hj => hb j hj, fun h => by
   rcases h with h | ⟨r, hr, -⟩
   ·exact h
   ·cases hr⟩
 | r :: l, i, b, hd, hb => by
  have hi : rels[i]? = some r := by
   have h1 : (rels.drop i)[0]? = some r := by rw [hd]; rfl
   rwa [List.getElem?_drop, Nat.add_zero] at h1
  have hd' : rels.drop (i + 1) = l := by rw [← List.tail_drop, hd]; rfl
  unfold bestG
  cases hc : r.vs.contains v && ltB rels r b with
  | true =>
   have hc1 := (Bool.and_eq_true _ _ ▸ hc : r.vs.contains v = true ∧ ltB rels r b = true)
   obtain ⟨g1, g2⟩ := bestG_ok rels v l (i + 1) (some i) hd' (fun j hj => by cases hj; exact ⟨r, hi, hc1.1⟩)
   exact ⟨g1, fun _ => g2 (.inl rfl)⟩
  | false =>
   obtain ⟨g1, g2⟩ := bestG_ok rels v l (i + 1) b hd' hb
   refine ⟨g1, fun h => g2 ?_⟩
   rcases h with h | ⟨q, hq, hqv⟩
   ·exact .inl h
   ·rcases List.mem_cons.1 hq with e | e
    ·subst e
     cases b with
     | none => rw [hqv] at hc; simp [ltB] at hc
     | some j => exact .inl rfl
    ·exact .inr ⟨q, e, hqv⟩
theorem bestQ_ok {rels : List RVq} {v : Int} (h : ∃ r ∈ rels, r.vs.contains v = true) : ∃ j r, bestQ rels v = some j ∧ rels[j]? = some r ∧ r.vs.contains v = true := by
 obtain ⟨g1, g2⟩ := bestG_ok rels v rels 0 none rfl (fun j hj => by cases hj)
 obtain ⟨j, hj⟩ := Option.isSome_iff_exists.1 (g2 (.inr h))
 obtain ⟨r, h1, h2⟩ := g1 j hj
 exact ⟨j, r, hj, h1, h2⟩
theorem idxQ_ok {l : List Int} {v : Int} (h : l.contains v = true) : idxQ l v < l.length ∧ l.getD (idxQ l v) 0 = v := by
 have h : v ∈ l := by simpa using h
 unfold idxQ
 cases hf : l.findIdx? fun y => v == y with
 | none =>
  exfalso
  rw [List.findIdx?_eq_none_iff] at hf
  have := hf v h
  simp at this
 | some k =>
  rw [List.findIdx?_eq_some_iff_getElem] at hf
  obtain ⟨h1, h2, -⟩ := hf
  refine ⟨h1, ?_⟩
  rw [Option.getD_some, List.getD_eq_getElem?_getD, List.getElem?_eq_getElem h1, Option.getD_some]
  have : v = l[k] := by simpa using h2
  exact this.symm
theorem candQ_rz (rels : List RVq) (v : Nat) : rz (candQ rels v) := by
 unfold candQ
 split
 ·exact List.Pairwise.nil
 ·split
  ·exact List.Pairwise.nil
  ·exact vrs_rz _
theorem candQ_mem {rels : List RVq} {v : Nat} {j : Nat} {r : RVq} (h1 : bestQ rels v = some j) (h2 : rels[j]? = some r) (x : Int) : x ∈ candQ rels v ↔ ∃ row ∈ r.rows, row.getD (idxQ r.vs v) 0 = x := by
 unfold candQ
 rw [h1]
 dsimp only
 rw [h2]
 dsimp only
 rw [vrs_mem, List.mem_map]
theorem lexZ_pre (p a b : List Int) : lexZ (p ++ a) (p ++ b) = lexZ a b := by
 induction p with
 | nil => rfl
 | cons x r ih => rw [List.cons_append, List.cons_append, lexZ_eq, ih]
theorem stepQ_pre (rels : List RVq) : ∀ (k : Nat) (p t : List Int), t ∈ stepQ rels k p → t.length = p.length + k ∧ ∃ q, t = p ++ q
 | 0, p, t, h => by
  obtain rfl := List.mem_singleton.1 h
  exact ⟨rfl, [], by simp⟩
 | k + 1, p, t, h => by
  obtain ⟨id, -, h2⟩ := List.mem_flatMap.1 h
  cases hc : okQ rels p.length (p ++ [id]) with
  | false => rw [hc] at h2; cases h2
  | true =>
   rw [hc, cond_true] at h2
   obtain ⟨g1, q, g2⟩ := stepQ_pre rels k _ t h2
   refine ⟨by rw [g1]; simp; omega, [id] ++ q, by rw [g2]; simp⟩
theorem stepQ_ris (rels : List RVq) : ∀ (k : Nat) (p : List Int), risZ (stepQ rels k p)
 | 0, p => List.pairwise_singleton _ _
 | k + 1, p => by
  show risZ ((candQ rels p.length).flatMap fun id => bif okQ rels p.length (p ++ [id]) then stepQ rels k (p ++ [id]) else [])
  have hz := candQ_rz rels p.length
  generalize candQ rels p.length = c at *
  unfold risZ
  rw [List.flatMap, List.pairwise_flatten]
  constructor
  ·intro l hl
   obtain ⟨id, -, rfl⟩ := List.mem_map.1 hl
   cases hc : okQ rels p.length (p ++ [id]) with
   | false => exact List.Pairwise.nil
   | true => exact stepQ_ris rels k _
  ·rw [List.pairwise_map]
   refine List.Pairwise.imp (fun {a b} hab => ?_) hz
   intro x hx y hy
   have hx' : x ∈ stepQ rels k (p ++ [a]) := by
    cases hc : okQ rels p.length (p ++ [a]) with
    | false => rw [hc] at hx; cases hx
    | true => rw [hc] at hx; exact hx
   have hy' : y ∈ stepQ rels k (p ++ [b]) := by
    cases hc : okQ rels p.length (p ++ [b]) with
    | false => rw [hc] at hy; cases hy
    | true => rw [hc] at hy; exact hy
   obtain ⟨-, u, rfl⟩ := stepQ_pre rels k _ x hx'
   obtain ⟨-, w, rfl⟩ := stepQ_pre rels k _ y hy'
   rw [List.append_assoc, List.append_assoc, lexZ_pre, List.singleton_append, List.singleton_append, lexZ_lt hab]
   omega
theorem stepQ_mem (rels : List RVq) : ∀ (k : Nat) (p t : List Int), t ∈ stepQ rels k p ↔ t.length = p.length + k ∧ t.take p.length = p ∧ ∀ j, p.length ≤ j → j < p.length + k → t.getD j 0 ∈ candQ rels j ∧ okQ rels j (t.take (j + 1)) = true
 | 0, p, t => by
  show t ∈ [p] ↔ _
  rw [List.mem_singleton]
  constructor
  ·rintro rfl
   exact ⟨by simp, by simp, fun j h1 h2 => by omega⟩
  ·rintro ⟨h1, h2, -⟩
   rw [List.take_of_length_le (by omega)] at h2
   exact h2
 | k + 1, p, t => by
  show t ∈ ((candQ rels p.length).flatMap fun id => bif okQ rels p.length (p ++ [id]) then stepQ rels k (p ++ [id]) else []) ↔ _
  rw [List.mem_flatMap]
  constructor
  ·rintro ⟨id, h1, h2⟩
   cases hc : okQ rels p.length (p ++ [id]) with
   | false => rw [hc] at h2; cases h2
   | true =>
    rw [hc, cond_true, stepQ_mem rels k] at h2
    obtain ⟨a1, a2, a3⟩ := h2
    have hl : (p ++ [id]).length = p.length + 1 := by simp
    rw [hl] at a1 a2 a3
    have htk : t.take p.length = p := by
     have := congrArg (List.take p.length) a2
     rw [List.take_take, Nat.min_eq_left (by omega)] at this
     simpa using this
    have hid : t.getD p.length 0 = id := by
     have h3 := congrArg (fun l => l[p.length]?) a2
     rw [List.getElem?_take_of_lt (by omega), List.getElem?_append_right (Nat.le_refl _)] at h3
     rw [List.getD_eq_getElem?_getD, h3]
     simp
    refine ⟨by omega, htk, fun j hj1 hj2 => ?_⟩
    rcases Nat.eq_or_lt_of_le hj1 with e | hlt
    ·subst e
     rw [hid, a2]
     exact ⟨h1, hc⟩
    ·exact a3 j (by omega) (by omega)
  ·rintro ⟨a1, a2, a3⟩
   obtain ⟨b1, b2⟩ := a3 p.length (Nat.le_refl _) (by omega)
   have hlt : p.length < t.length := by omega
   have htk : t.take (p.length + 1) = p ++ [t.getD p.length 0] := by
    rw [List.take_add_one, a2, List.getD_eq_getElem?_getD, List.getElem?_eq_getElem hlt]
    rfl
   rw [htk] at b2
   refine ⟨_, b1, ?_⟩
   rw [b2, cond_true, stepQ_mem rels k]
   have hl : (p ++ [t.getD p.length 0]).length = p.length + 1 := by simp
   rw [hl]
   exact ⟨by omega, htk, fun j h1 h2 => a3 j (by omega) (by omega)⟩
structure WfQ (rels : List RVq) (n : Nat) : Prop where
 ne : ∀ r ∈ rels, r.vs ≠ []
 lo : ∀ r ∈ rels, ∀ v ∈ r.vs, 0 ≤ v
 hi : ∀ r ∈ rels, ∀ v ∈ r.vs, v < (n : Int)
 us : ∀ v : Nat, v < n → ∃ r ∈ rels, r.vs.contains (v : Int) = true
theorem maxQ_of {l : List Int} (h : l ≠ []) : ∃ m ∈ l, ∀ x ∈ l, x ≤ m := by
 induction l with
 | nil => exact absurd rfl h
 | cons a r ih =>
  cases r with
  | nil => exact ⟨a, by simp, fun x hx => by simp at hx; omega⟩
  | cons b r =>
   obtain ⟨m, hm, hx⟩ := ih (by simp)
   rcases Int.le_total a m with h1 | h1
   ·refine ⟨m, List.mem_cons_of_mem _ hm, fun x h2 => ?_⟩
    rcases List.mem_cons.1 h2 with e | e
    ·omega
    ·exact hx x e
   ·refine ⟨a, by simp, fun x h2 => ?_⟩
    rcases List.mem_cons.1 h2 with e | e
    ·omega
    ·have := hx x e; omega
theorem getD_take {t : List Int} {n j : Nat} (h : j < n) : (t.take n).getD j 0 = t.getD j 0 := by
 rw [List.getD_eq_getElem?_getD, List.getD_eq_getElem?_getD, List.getElem?_take_of_lt h]
theorem getD_mem {l : List Int} {k : Nat} (h : k < l.length) : l.getD k 0 ∈ l := by
 rw [List.getD_eq_getElem?_getD, List.getElem?_eq_getElem h]
 exact List.getElem_mem h
theorem stepQ_sol {rels : List RVq} {n : Nat} (hw : WfQ rels n) (t : List Int) : t ∈ stepQ rels n [] ↔ solQ rels n t := by
 rw [stepQ_mem]
 simp only [List.length_nil, Nat.zero_add, List.take_zero, Nat.zero_le, true_and, forall_const]
 unfold solQ
 constructor
 ·rintro ⟨h1, h2⟩
  refine ⟨h1, fun r hr => ?_⟩
  obtain ⟨m, hm, hmx⟩ := maxQ_of (hw.ne r hr)
  have m0 := hw.lo r hr m hm
  have mn := hw.hi r hr m hm
  obtain ⟨-, h3⟩ := h2 m.toNat (by omega)
  unfold okQ at h3
  have h4 := List.all_eq_true.1 h3 r hr
  rw [show ((m.toNat : Nat) : Int) = m by omega] at h4
  rw [show r.vs.contains m = true by simpa using hm, Bool.not_true, Bool.false_or] at h4
  unfold fitQ at h4
  obtain ⟨row, hrow, ha⟩ := List.any_eq_true.1 h4
  refine ⟨row, hrow, fun k hk => ?_⟩
  have hvk := getD_mem hk
  have := agrQ_iff.1 ha k hk (by have := hmx _ hvk; omega)
  rw [this]
  exact getD_take (by have := hmx _ hvk; have := hw.lo r hr _ hvk; omega)
 ·rintro ⟨h1, h2⟩
  refine ⟨h1, fun j hj => ⟨?_, ?_⟩⟩
  ·obtain ⟨b, r, e1, e2, e3⟩ := bestQ_ok (hw.us j hj)
   rw [candQ_mem e1 e2]
   obtain ⟨row, hrow, ha⟩ := h2 r (List.mem_of_getElem? e2)
   obtain ⟨i1, i2⟩ := idxQ_ok e3
   refine ⟨row, hrow, ?_⟩
   rw [ha _ i1, i2, Int.toNat_natCast]
  ·unfold okQ
   rw [List.all_eq_true]
   intro r hr
   obtain ⟨row, hrow, ha⟩ := h2 r hr
   have : fitQ r (j + 1) (t.take (j + 1)) = true := by
    unfold fitQ
    refine List.any_eq_true.2 ⟨row, hrow, agrQ_iff.2 fun k hk hv => ?_⟩
    rw [ha k hk]
    exact (getD_take (by have := hw.lo r hr _ (getD_mem hk); omega)).symm
   rw [this, Bool.or_true]
open Go Go.Abs Go.Val Go.Proofs.Tryz
attribute [local irreducible] Ev EvO EvS ExtEv HasBody PGo RGo SGo go
theorem cmpI_lt (x y : Int) : (decide (Lib.compareInt x y < 0)) = decide (x < y) := by
 unfold Lib.compareInt
 by_cases h1 : x < y
 ·simp [h1]
 ·by_cases h2 : x > y <;> simp [h1, h2]
theorem cmpI_eq (x y : Int) : (Lib.compareInt x y == 0) = (x == y) := by
 unfold Lib.compareInt
 by_cases h1 : x < y
 ·rw [if_pos h1]
  have : (x == y) = false := by simp; omega
  rw [this]; rfl
 ·rw [if_neg h1]
  by_cases h2 : x > y
  ·rw [if_pos h2]
   have : (x == y) = false := by simp; omega
   rw [this]; rfl
  ·rw [if_neg h2]
   have : (x == y) = true := by simp; omega
   rw [this]; rfl
theorem okNd_s {p : Option Int} {nn : Int} {n : Nd} (h : okNd p nn n = 0) : (∀ q, p = some q → q < n.id) ∧ 1 ≤ n.id := by
 have rest : (bif decide (n.id < 1) || decide (n.id ≥ nn) then (1 : Int) else partF n.labels n.props) = 0 → 1 ≤ n.id := fun h => by
  cases hd : decide (n.id < 1) with
  | true => rw [hd] at h; simp at h
  | false => have := of_decide_eq_false hd; omega
 cases p with
 | none => exact ⟨fun q hq => (by cases hq), rest h⟩
 | some p =>
  have h' : (bif decide (n.id ≤ p) then (26 : Int) else bif decide (n.id < 1) || decide (n.id ≥ nn) then 1 else partF n.labels n.props) = 0 := h
  cases hc : decide (n.id ≤ p) with
  | true => rw [hc] at h'; simp at h'
  | false =>
   rw [hc, cond_false] at h'
   have := of_decide_eq_false hc
   exact ⟨fun q hq => (by cases hq; omega), rest h'⟩
theorem nodesC_s {nn : Int} : ∀ {l : List Nd} {p : Option Int}, nodesC nn p l = 0 → (l.map Nd.id).Pairwise (· < ·) ∧ (∀ q, p = some q → ∀ n ∈ l, q < n.id) ∧ ∀ n ∈ l, 1 ≤ n.id
 | [], p, _ => by simp
 | n :: r, p, h => by
  rw [nodesC] at h
  cases hc : okNd p nn n != 0 with
  | true =>
   rw [hc, cond_true] at h
   rw [h] at hc
   simp at hc
  | false =>
   rw [hc, cond_false] at h
   have h0 : okNd p nn n = 0 := by simpa using hc
   obtain ⟨k1, k2⟩ := okNd_s h0
   obtain ⟨i1, i2, i3⟩ := nodesC_s (l := r) (p := some n.id) h
   refine ⟨?_, fun q hq m hm => ?_, fun m hm => ?_⟩
   ·rw [List.map_cons, List.pairwise_cons]
    refine ⟨fun x hx => ?_, i1⟩
    obtain ⟨m, hm, rfl⟩ := List.mem_map.1 hx
    exact i2 _ rfl m hm
   ·rcases List.mem_cons.1 hm with e | e
    ·rw [e]; exact k1 q hq
    ·have := i2 _ rfl m e
     have := k1 q hq
     omega
   ·rcases List.mem_cons.1 hm with e | e
    ·rw [e]; exact k2
    ·exact i3 m e
theorem hasI_find {l : List Nd} (hs : (l.map Nd.id).Pairwise (· < ·)) (n : Int) : hasI l n = (findN l n).isSome := by
 have mono : ∀ i j, i < j → (hj : j < l.length) → idAt l i < idAt l j := fun i j hij hj => by
  have := List.pairwise_iff_getElem.1 hs i j (by simp; omega) (by simpa using hj) hij
  unfold idAt
  rw [List.getElem?_eq_getElem hj, List.getElem?_eq_getElem (show i < l.length by omega)]
  simpa using this
 obtain ⟨-, b2, b3, b4⟩ := bsF_ok (bsP l n) 0 l.length (by omega)
 rw [show bsF (bsP l n) 0 l.length = bsR l n from rfl] at b2 b3 b4
 unfold hasI
 rw [cmpI_eq]
 apply Bool.eq_iff_iff.2
 rw [Bool.and_eq_true, decide_eq_true_eq, beq_iff_eq]
 unfold findN
 rw [List.find?_isSome]
 constructor
 ·rintro ⟨h1, h2⟩
  have hlt : bsR l n < l.length := by omega
  refine ⟨l[bsR l n], List.getElem_mem hlt, ?_⟩
  unfold idAt at h2
  rw [List.getElem?_eq_getElem hlt] at h2
  simpa using h2
 ·rintro ⟨x, hx, hxn⟩
  obtain ⟨k, hk, rfl⟩ := List.getElem_of_mem hx
  have hid : idAt l k = n := by
   unfold idAt
   rw [List.getElem?_eq_getElem hk]
   simpa using hxn
  have hle : bsR l n ≤ k := by
   rcases b3 with e | e
   ·omega
   ·rcases Nat.lt_or_ge k (bsR l n) with h | h
    ·exfalso
     unfold bsP at e
     rw [cmpI_lt] at e
     have e := of_decide_eq_true e
     rcases Nat.lt_or_ge k (bsR l n - 1) with h2 | h2
     ·have := mono k (bsR l n - 1) h2 (by omega)
      omega
     ·rw [show bsR l n - 1 = k by omega] at e
      omega
    ·exact h
  refine ⟨by omega, ?_⟩
  rcases b4 with e | e
  ·omega
  ·unfold bsP at e
   rw [cmpI_lt] at e
   have e := of_decide_eq_false e
   rcases Nat.lt_or_ge (bsR l n) k with h | h
   ·have := mono _ _ h hk
    omega
   ·rw [show bsR l n = k by omega] at e ⊢
    omega
end Go.Proofs.YtenpjlghikohmaaGreatDoor
namespace Go.Proofs.YtenpjlghikohmaaGreatDoor
set_option maxRecDepth 4000
open Go Go.Abs Go.Val Go.RowKit Go.Proofs.Tryz
attribute [local irreducible] go SGo HasBody Ev ExtEv EvO EvS RGo
def htF (e : Ed) (ty : List ByteArray) : Bool := ty.isEmpty || hasF ty e.ty
theorem hasType_ev (e : Ed) (ty : List ByteArray) : Ev E 61 [encEd e, .sl (ty.map .str)] (.d (.bool (htF e ty))) := by
 have h := scontains_ev ty e.ty
 match ty with
 | [] =>
  show Ev E 61 [encEd e, .sl []] (.d (.bool true))
  refine ye2 func61 ntmps61 fun _ _ _=>?_
  repeat' (first | refine yz ?_ | exact zD)
 | t :: r =>
  have g1 : ((((t :: r).map D.str).length : Int) == 0) = false := by simp; omega
  show Ev E 61 [encEd e, .sl ((t :: r).map .str)] (.d (.bool (hasF (t :: r) e.ty)))
  generalize hasF (t :: r) e.ty = z at *
  refine ye2 func61 ntmps61 fun _ _ _=>?_
  repeat' (first | refine yz ?_ | refine yp b124 h ?_ | exact zD)
def holdF (n : Nd) (a : AT) : Bool := bif a.k == 1 then hasF n.labels a.nm else bif a.k == 2 then eqF (findP n.props a.nm) a.v == 2 else true
theorem holds_ev (n : Nd) (a : AT) (hn : narP n.props) : Ev E 62 [encNd n, encAT a] (.d (.bool (holdF n a))) := by
 obtain ⟨k, avs, nm, ty, ⟨vk, vn, vd, vS, vl⟩⟩ := a
 have h1 := hasLabel_ev n nm
 have h2 := gprop_ev n.props nm hn
 have h3 := Equal_ev (findP n.props nm) (.mk vk vn vd vS vl)
 unfold holdF
 dsimp only
 generalize hasF n.labels nm = z at *
 generalize findP n.props nm = u at *
 obtain ⟨uk, un, ud, uS, ul⟩ := u
 generalize eqF (.mk uk un ud uS ul) (.mk vk vn vd vS vl) = y at *
 cases c1 : k == 1 with
 | true =>
  refine ye2 func62 ntmps62 fun _ _ _=>?_
  repeat' (first | refine yz ?_ | refine yp b43 h1 ?_ | exact zD)
 | false =>
 cases c2 : k == 2 with
 | true =>
  refine ye2 func62 ntmps62 fun _ _ _=>?_
  repeat' (first | refine yz ?_ | refine yp b153 h2 ?_ | refine yp b152 h3 ?_ | exact zD)
 | false =>
  refine ye2 func62 ntmps62 fun _ _ _=>?_
  repeat' (first | refine yz ?_ | exact zD)
attribute [local irreducible] PGo
def fiTu (l : List Int) (x : Int) : Nat := (l.findIdx? fun y => x == y).getD 0
theorem fiTu_ok {l : List Int} {x : Int} (h : x ∈ l) : l.findIdx? (fun y => x == y) = some (fiTu l x) ∧ l[fiTu l x]? = some x := by
 unfold fiTu
 cases hf : l.findIdx? fun y => x == y with
 | none =>
  exfalso
  rw [List.findIdx?_eq_none_iff] at hf
  have := hf x h
  simp at this
 | some k =>
  rw [List.findIdx?_eq_some_iff_getElem] at hf
  obtain ⟨h1, h2, -⟩ := hf
  refine ⟨rfl, ?_⟩
  rw [Option.getD_some, List.getElem?_eq_getElem h1]
  have : x = l[k] := by simpa using h2
  rw [this]
def valTu (vs ids : List Int) (v : Int) : Int := ids.getD (fiTu vs v) 0
def okTu (vs ids : List Int) : Bool := (List.range vs.length).all fun i => valTu vs ids (vs.getD i 0) == ids.getD i 0
def tupTu (vs ids : List Int) : List Int := (vrsF vs).map (valTu vs ids)
def rowTu (vs ids : List Int) (i : Nat) : List Int := (vrsF vs).map fun v => if v ∈ vs.take i then valTu vs ids v else 0
theorem set_nodup {L : List Int} (hn : L.Nodup) {k : Nat} {x : Int} (hk : L[k]? = some x) (f : Int → Int) (y : Int) : (L.map f).set k y = L.map fun v => if v = x then y else f v := by
 refine List.ext_getElem? fun i => ?_
 rw [List.getElem?_set, List.getElem?_map, List.length_map]
 have hkl := (List.getElem?_eq_some_iff.1 hk).1
 by_cases e : k = i
 ·subst e
  rw [if_pos rfl, if_pos hkl, List.getElem?_map, hk]
  simp
 ·rw [if_neg e, List.getElem?_map]
  cases hi : L[i]? with
  | none => rfl
  | some z =>
   have : z ≠ x := fun hz => e (by
    subst hz
    obtain ⟨a1, a2⟩ := List.getElem?_eq_some_iff.1 hk
    obtain ⟨b1, b2⟩ := List.getElem?_eq_some_iff.1 hi
    exact (List.getElem_inj hn).1 (a2.trans b2.symm))
   simp [this]
theorem rowTu_next {vs ids : List Int} {i k : Nat} {x q : Int} (hn : (vrsF vs).Nodup) (hx : vs[i]? = some x) (hk : (vrsF vs)[k]? = some x) (hq : valTu vs ids x = q) : (iL (rowTu vs ids i)).set k (.int q) = iL (rowTu vs ids (i + 1)) := by
 unfold iL
 rw [← List.map_set]
 refine congrArg (List.map D.int) ?_
 unfold rowTu
 rw [set_nodup hn hk]
 refine List.map_congr_left fun v _ => ?_
 rw [List.take_add_one, hx]
 by_cases e : v = x
 ·subst e
  simp [hq]
 ·simp [e]
theorem rowTu_0 (vs ids : List Int) : iL (rowTu vs ids 0) = List.replicate (vrsF vs).length (.int 0) := by
 unfold iL rowTu
 rw [List.map_map]
 refine List.eq_replicate_iff.2 ⟨by simp, fun b hb => ?_⟩
 obtain ⟨a, -, rfl⟩ := List.mem_map.1 hb
 simp
theorem rowTu_all {vs ids : List Int} {i : Nat} (h : vs.length ≤ i) (hm : ∀ v ∈ vrsF vs, v ∈ vs) : rowTu vs ids i = tupTu vs ids := by
 unfold rowTu tupTu
 refine List.map_congr_left fun v hv => ?_
 rw [List.take_of_length_le h, if_pos (hm v hv)]
structure STu (vs ids : List Int) where
 i : Nat
 hi : i ≤ vs.length
 ok : ∀ j, j < i → (valTu vs ids (vs.getD j 0) == ids.getD j 0) = true
def tupDu (vs ids : List Int) : D := .sl (iL (bif okTu vs ids then tupTu vs ids else []))
theorem vrs_nodup (l : List Int) : (vrsF l).Nodup := (vrs_rz l).imp fun h => by omega
set_option maxHeartbeats 4000000 in
theorem tuple_ev (a : AT) (ids : List Int) (hl : ids.length = a.vs.length) (hn : a.vs.length ≤ 8) : Ev E 60 [encAT a, .sl (iL ids)] (.tup [tupDu a.vs ids, .bool (okTu a.vs ids)]) := by
 have h0 := avars_ev a (by omega)
 obtain ⟨k, vs, nm, ty, ⟨vk, vn, vd, vS, vl⟩⟩ := a
 dsimp only at *
 have hvl := vrs_len vs
 have hli : (iL vs).length = vs.length := iL_len vs
 have hlj : (iL ids).length = ids.length := iL_len ids
 have hlv : ((vrsF vs).map D.int).length = (vrsF vs).length := by simp
 have hr0 := rowTu_0 vs ids
 rw [show ((vrsF vs).map D.int) = iL (vrsF vs) from rfl] at *
 generalize hV : iL (vrsF vs) = V at *
 refine ye2 func60 ntmps60 fun _ _ _=>?_
 repeat' (first | refine yz ?_ | refine yp b53 h0 ?_ | (refine qS rfl ⟨rfl, by (show 8 * V.length ≤ 281474976710656; omega), by omega⟩ ?_))
 refine go_loop_ (α := STu vs ids) (fun p => ⟨[(1, .d (.sl (iL ids))), (2, .ptr 0 0), (6, .d (.sl V)), (7, .own 1), (18, .d (.sl (iL vs))), (19, .d (.int (iL vs).length)), (20, .d (.int p.i))], [.var 58 (.w (.d (encAT ⟨k, vs, nm, ty, .mk vk vn vd vS vl⟩))), .row 3 1 (iL (rowTu vs ids p.i))]⟩) (fun p => vs.length - p.i) ⟨0, by omega, fun j hj => by omega⟩ (by dsimp only; rw [hr0, ← hlv]; exact (zle 2)) ?_
 rintro ⟨i, hi, ok⟩
 dsimp only
 rcases Nat.lt_or_ge i vs.length with hlt | hge
 ·have g1 : decide ((i : Int) < ((iL vs).length : Int)) = true := by rw [hli]; simpa using hlt
  have hx0 := List.getElem?_eq_getElem hlt
  have hxm : vs[i] ∈ vs := List.getElem_mem hlt
  generalize vs[i] = x at hx0 hxm
  obtain ⟨e1, e2⟩ := fiTu_ok hxm
  obtain ⟨e3, e4⟩ := fiTu_ok ((vrs_mem vs x).2 hxm)
  have h1 := indexI_ev (vrsF vs) x
  have h2 := indexI_ev vs x
  rw [e3, hV] at h1
  rw [e1] at h2
  have hf := (List.getElem?_eq_some_iff.1 e2).1
  have hk := (List.getElem?_eq_some_iff.1 e4).1
  have hqv : valTu vs ids x = ids.getD (fiTu vs x) 0 := rfl
  generalize fiTu (vrsF vs) x = m at *
  generalize fiTu vs x = f at *
  have h1 : Ev E 151 [.sl V, .int x] (.d (.int (m : Int))) := h1
  have h2 : Ev E 151 [.sl (iL vs), .int x] (.d (.int (f : Int))) := h2
  have hx : (iL vs)[((i : Nat) : Int).toNat]? = some (.int x) := map_at (f := D.int) hx0
  have hp0 := List.getElem?_eq_getElem (show f < ids.length by omega)
  have hq0 := List.getElem?_eq_getElem (show i < ids.length by omega)
  rw [List.getD_eq_getElem?_getD, hp0, Option.getD_some] at hqv
  have hqi : ids.getD i 0 = ids[i] := by rw [List.getD_eq_getElem?_getD, hq0, Option.getD_some]
  have hvi : vs.getD i 0 = x := by rw [List.getD_eq_getElem?_getD, hx0, Option.getD_some]
  generalize ids[f] = p at hp0 hqv
  generalize ids[i] = q at hq0 hqi
  have hp : (iL ids)[((f : Nat) : Int).toNat]? = some (.int p) := map_at (f := D.int) hp0
  have hq : (iL ids)[((i : Nat) : Int).toNat]? = some (.int q) := map_at (f := D.int) hq0
  have hrl : (rowTu vs ids i).length = (vrsF vs).length := by simp [rowTu]
  have hrl2 : (iL (rowTu vs ids i)).length = (vrsF vs).length := by rw [iL_len, hrl]
  have ho0 := List.getElem?_eq_getElem (show m < (rowTu vs ids i).length by omega)
  generalize (rowTu vs ids i)[m] = o at ho0
  have ho : (iL (rowTu vs ids i))[((m : Nat) : Int).toNat]? = some (.int o) := map_at (f := D.int) ho0
  have g2 : (0 : Int) ≤ (m : Int) ∧ (m : Int) < ((iL (rowTu vs ids i)).length : Int) := by rw [hrl2]; omega
  cases hc : p != q with
  | true =>
   have hno : okTu vs ids = false := by
    unfold okTu
    rw [List.all_eq_false]
    refine ⟨i, List.mem_range.2 hlt, ?_⟩
    rw [hvi, hqv, hqi]
    simpa using hc
   have e : tupDu vs ids = .sl [] := by unfold tupDu; rw [hno]; rfl
   rw [hno, e]
   repeat' (first | refine yz ?_ | refine yi (.int x) hx ?_ | refine qP (d := 27) rfl rfl rfl rfl rfl rfl b151 (h1) ?_ | refine qP (d := 31) rfl rfl rfl rfl rfl rfl b151 (h2) ?_ | refine yi (.int p) hp ?_ | refine yi (.int q) hq ?_ | exact zL)
  | false =>
   have hnx := rowTu_next (ids := ids) (vrs_nodup vs) hx0 e4 hqv
   have hpq : p = q := by simpa using hc
   repeat' (first | refine yz ?_ | refine yi (.int x) hx ?_ | refine qP (d := 27) rfl rfl rfl rfl rfl rfl b151 (h1) ?_ | refine qP (d := 31) rfl rfl rfl rfl rfl rfl b151 (h2) ?_ | refine yi (.int p) hp ?_ | refine yi (.int q) hq ?_ | refine qZ (.int o) rfl rfl rfl rfl rfl rfl ho rfl rfl rfl ?_)
   refine go_stop ?_
   refine ⟨⟨i + 1, by omega, fun j hj => ?_⟩, by dsimp only; omega, ?_⟩
   ·rcases Nat.lt_or_ge j i with h | h
    ·exact ok j h
    ·rw [show j = i by omega, hvi, hqv, hqi, hpq]
     exact beq_self_eq_true _
   ·dsimp only
    rw [← hnx, hpq]
    exact (zle 2)
 ·have g1 : decide ((i : Int) < ((iL vs).length : Int)) = false := by rw [hli]; simp; omega
  have hok : okTu vs ids = true := by
   unfold okTu
   rw [List.all_eq_true]
   intro j hj
   exact ok j (by have := List.mem_range.1 hj; omega)
  have e : tupDu vs ids = .sl (iL (tupTu vs ids)) := by unfold tupDu; rw [hok]; rfl
  rw [hok, e, rowTu_all hge fun v hv => (vrs_mem vs v).1 hv]
  refine go_frz 1 rfl ?_
  repeat' (first | refine yz ?_ | exact zL)
end Go.Proofs.YtenpjlghikohmaaGreatDoor
