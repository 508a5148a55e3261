/- How many tuples satisfy a conjunctive query: no more than the product of the relations' sizes, where a relation of one variable that occurred before does not count; The search's test whether a relation has a row that agrees with what is assigned; The library's sort in place of integers; the search's candidates for a variable; A copy of a row that the caller goes on to own; the search's step; The search's step finds what the plain search finds. Conditions: each part's own, as it says. -/
import Derived.Test.YtenpjlghikohmaaGreatDoorRA
import Derived.Test.YtenpjlghikohmaaGreatDoorRB
import Derived.Test.YtenpjlghikohmaaGreatDoorBA
import Derived.Test.YtenpjlghikohmaaGreatDoorLD
import Derived.Test.YtenpjlghikohmaaGreatDoorGC
import Derived.Test.YtenpjlghikohmaaGreatDoorWA
set_option linter.unusedVariables false
set_option linter.unusedSimpArgs false
namespace Go.Proofs.YtenpjlghikohmaaGreatDoor
set_option maxRecDepth 4000
theorem cover_len {α β : Type} [BEq β] [LawfulBEq β] (R : α → β → Prop) : ∀ (S : List α) (C : List β), S.Nodup → (∀ t ∈ S, ∃ c ∈ C, R t c) → (∀ t ∈ S, ∀ t' ∈ S, ∀ c, R t c → R t' c → t = t') → S.length ≤ C.length
 | [], C, _, _, _ => by simp
 | t :: S, C, hn, h1, h2 => by
  rw [List.nodup_cons] at hn
  obtain ⟨c, hc, hr⟩ := h1 t (by simp)
  have ih := cover_len R S (C.erase c) hn.2 (fun t' ht' => by
   obtain ⟨c', hc', hr'⟩ := h1 t' (List.mem_cons_of_mem _ ht')
   refine ⟨c', ?_, hr'⟩
   have : c' ≠ c := fun e => by
    subst e
    have := h2 t (by simp) t' (List.mem_cons_of_mem _ ht') c' hr hr'
    subst this
    exact hn.1 ht'
   exact (List.mem_erase_of_ne this).2 hc') (fun a ha b hb => h2 a (List.mem_cons_of_mem _ ha) b (List.mem_cons_of_mem _ hb))
  have hl := List.length_erase_of_mem hc
  have := List.length_pos_of_mem hc
  simp only [List.length_cons]
  omega
def agOn (V : List Int) (t c : List Int) : Prop := ∀ v ∈ V, t.getD v.toNat 0 = c.getD v.toNat 0
def overQ (n : Nat) (vs row c : List Int) : List Int := (List.range n).map fun (j : Nat) => if vs.contains (j : Int) then row.getD (idxQ vs j) 0 else c.getD j 0
theorem overQ_get {n : Nat} {vs row c : List Int} {j : Nat} (h : j < n) : (overQ n vs row c).getD j 0 = if vs.contains (j : Int) then row.getD (idxQ vs j) 0 else c.getD j 0 := by
 unfold overQ
 rw [List.getD_eq_getElem?_getD, List.getElem?_map, List.getElem?_range h]
 rfl
structure CovQ (n : Nat) (S : List (List Int)) (V : List Int) (k : Nat) : Prop where
 lo : ∀ v ∈ V, 0 ≤ v ∧ v < (n : Int)
 ex : ∃ C : List (List Int), C.length ≤ k ∧ ∀ t ∈ S, ∃ c ∈ C, agOn V t c
theorem CovQ.start (n : Nat) (S : List (List Int)) : CovQ n S [] 1 := ⟨fun v h => by simp at h, [[]], by simp, fun t _ => ⟨[], by simp, fun v h => by simp at h⟩⟩
theorem CovQ.mono {n : Nat} {S : List (List Int)} {V : List Int} {k k' : Nat} (h : CovQ n S V k) (hk : k ≤ k') : CovQ n S V k' := by
 obtain ⟨C, h1, h2⟩ := h.ex
 exact ⟨h.lo, C, by omega, h2⟩
theorem CovQ.join {n : Nat} {S : List (List Int)} {V : List Int} {k m : Nat} (h : CovQ n S V k) (r : RVq) (hr : ∀ v ∈ r.vs, 0 ≤ v ∧ v < (n : Int)) (hm : r.rows.length ≤ m)
  (hs : ∀ t ∈ S, ∃ row ∈ r.rows, ∀ i, i < r.vs.length → row.getD i 0 = t.getD (r.vs.getD i 0).toNat 0) : CovQ n S (V ++ r.vs) (k * m) := by
 obtain ⟨C, h1, h2⟩ := h.ex
 refine ⟨fun v hv => ?_, C.flatMap fun c => r.rows.map fun row => overQ n r.vs row c, ?_, fun t ht => ?_⟩
 ·rcases List.mem_append.1 hv with e | e
  ·exact h.lo v e
  ·exact hr v e
 ·have hl : ∀ C : List (List Int), (C.flatMap fun c => r.rows.map fun row => overQ n r.vs row c).length = C.length * r.rows.length := fun C => by
   induction C with
   | nil => simp
   | cons c C ih => rw [List.flatMap_cons, List.length_append, ih, List.length_map, List.length_cons, Nat.succ_mul, Nat.add_comm]
  rw [hl]
  exact Nat.mul_le_mul h1 hm
 ·obtain ⟨c, hc, ha⟩ := h2 t ht
  obtain ⟨row, hrow, hag⟩ := hs t ht
  refine ⟨overQ n r.vs row c, List.mem_flatMap.2 ⟨c, hc, List.mem_map.2 ⟨row, hrow, rfl⟩⟩, fun v hv => ?_⟩
  have hvn : 0 ≤ v ∧ v < (n : Int) := by
   rcases List.mem_append.1 hv with e | e
   ·exact h.lo v e
   ·exact hr v e
  rw [overQ_get (by omega), show ((v.toNat : Nat) : Int) = v by omega]
  by_cases hin : r.vs.contains v = true
  ·rw [if_pos hin]
   obtain ⟨i1, i2⟩ := idxQ_ok hin
   rw [hag _ i1, i2]
  ·rw [if_neg hin]
   rcases List.mem_append.1 hv with e | e
   ·exact ha v e
   ·exact absurd (by simpa using e) hin
theorem CovQ.len {n : Nat} {S : List (List Int)} {V : List Int} {k : Nat} (h : CovQ n S V k) (hn : S.Nodup) (hl : ∀ t ∈ S, t.length = n) (hu : ∀ j : Nat, j < n → (j : Int) ∈ V) : S.length ≤ k := by
 obtain ⟨C, h1, h2⟩ := h.ex
 refine Nat.le_trans (cover_len (agOn V) S C hn h2 fun t ht t' ht' c a b => ?_) h1
 refine List.ext_getElem? fun j => ?_
 rcases Nat.lt_or_ge j n with hj | hj
 ·have e := (a j (hu j hj)).trans (b j (hu j hj)).symm
  rw [Int.toNat_natCast, List.getD_eq_getElem?_getD, List.getD_eq_getElem?_getD, List.getElem?_eq_getElem (show j < t.length by rw [hl t ht]; exact hj), List.getElem?_eq_getElem (show j < t'.length by rw [hl t' ht']; exact hj)] at e
  rw [List.getElem?_eq_getElem (show j < t.length by rw [hl t ht]; exact hj), List.getElem?_eq_getElem (show j < t'.length by rw [hl t' ht']; exact hj)]
  exact congrArg some e
 ·rw [List.getElem?_eq_none (by rw [hl t ht]; exact hj), List.getElem?_eq_none (by rw [hl t' ht']; exact hj)]
theorem risZ_nodup {l : List (List Int)} (h : risZ l) : l.Nodup := List.Pairwise.imp (fun {a b} hab e => by subst e; rw [lexZ_self] at hab; omega) h
open Go Go.Abs Go.RowKit Go.Val Go.Proofs.Tryz
attribute [local irreducible] Ev EvO EvS ExtEv HasBody PGo RGo SGo go
def relD (r : RVq) : D := encRL r.vs.length r.rows
def vrD (r : RVq) : D := .sl (iL r.vs)
abbrev srch (l : List RVq) (t o : X) : AObj := .var 125 (.cs [.d (.sl (l.map relD)), .d (.sl (l.map vrD)), t, o])
abbrev bxS (k : Nat) : AObj := .var 205 (.w (.ptr k 0))
abbrev bxI (n : Int) : AObj := .var 3 (.w (.d (.int n)))
abbrev rwI (t : List Int) : AObj := .row 3 1 (iL t)
abbrev oOu (l : List D) : AObj := fO 46 1 l
structure RokQ (r : RVq) (n : Nat) : Prop where
 lo : ∀ v ∈ r.vs, 0 ≤ v
 hi : ∀ v ∈ r.vs, v < (n : Int)
 ln : ∀ row ∈ r.rows, r.vs.length ≤ row.length
 wd : r.vs.length ≤ 3
def cndQ (vs : List Int) (n : Nat) (t row : List Int) (k : Nat) : Bool := !(decide (vs.getD k 0 < (n : Int)) && (row.getD k 0 != t.getD (vs.getD k 0).toNat 0))
theorem agrQ_all (vs : List Int) (n : Nat) (t row : List Int) : agrQ vs n t row = (List.range vs.length).all (cndQ vs n t row) := rfl
structure SCnd (vs : List Int) (f : Nat → Bool) where
 i : Nat
 hi : i ≤ vs.length
 ok : ∀ j, j < i → f j = true
theorem iL_getD {l : List Int} {k : Nat} (h : k < l.length) : (iL l)[((k : Nat) : Int).toNat]? = some (.int (l.getD k 0)) := by
 rw [List.getD_eq_getElem?_getD, List.getElem?_eq_getElem h]
 exact iL_get (List.getElem?_eq_getElem h)
set_option maxHeartbeats 4000000 in
theorem fits1_evS (l : List RVq) (r : RVq) (i n : Nat) (t row : List Int) (ou : List D) (hr : l[i]? = some r) (hk : RokQ r t.length) (hrow : r.vs.length ≤ row.length) : EvS E 230 [.d (.sl (iL row)), .ptr 0 0, .ptr 1 0, .ptr 2 0] [bxS 3, bxI i, bxI n, srch l (.own 4) (fX 5 ou), rwI t, oOu ou] (.d (.bool (agrQ r.vs n t row))) [bxS 3, bxI i, bxI n, srch l (.own 4) (fX 5 ou), rwI t, oOu ou] := by
 obtain ⟨vs, rows⟩ := r
 obtain ⟨klo, khi, -, kwd⟩ := hk
 dsimp only at *
 have hrl : (l.map vrD)[((i : Nat) : Int).toNat]? = some (.sl (iL vs)) := map_at (f := vrD) hr
 have hvl : (iL vs).length = vs.length := iL_len vs
 obtain ⟨R, hR⟩ : ∃ R, agrQ vs n t row = R := ⟨_, rfl⟩
 rw [hR]
 rw [agrQ_all] at hR
 generalize hc : cndQ vs n t row = f at hR
 match ou with
 | [] =>
  dsimp only [fX, fO]
  refine yd func230 ntmps230 fun _ _ _ _=>?_
  repeat' (first | refine yz ?_ | refine qI (.sl (iL vs)) rfl (guardX_ok rfl) rfl rfl rfl rfl rfl rfl (by first | omega | decide) hrl ?_)
  refine go_loop_ (α := SCnd vs f) (fun p => ⟨[(0, .d (.sl (iL row))), (1, .ptr 0 0), (3, .ptr 2 0), (14, .d (.sl (iL vs))), (15, .d (.int (iL vs).length)), (16, .d (.int p.i))], [bxS 3, bxI i, bxI n, srch l (.own 4) .nilS, rwI t, .dead]⟩) (fun p => vs.length - p.i) ⟨0, by omega, fun j hj => by omega⟩ (zle 6) ?_
  rintro ⟨k, hk, ok⟩
  dsimp only
  rcases Nat.lt_or_ge k vs.length with hlt | hge
  ·have g1 : decide ((k : Int) < ((iL vs).length : Int)) = true := by rw [hvl]; simpa using hlt
   have hv := iL_getD hlt
   have hy := iL_getD (show k < row.length by omega)
   have hm := getD_mem hlt
   have m1 := klo _ hm
   have m2 := khi _ hm
   have hz := iL_getD (show (vs.getD k 0).toNat < t.length by omega)
   rw [Int.toNat_natCast] at hz
   have hf : f k = !(decide (vs.getD k 0 < (n : Int)) && (row.getD k 0 != t.getD (vs.getD k 0).toNat 0)) := by rw [← hc]; rfl
   have hno : f k = false → R = false := fun h => by rw [← hR, List.all_eq_false]; exact ⟨k, List.mem_range.2 hlt, by rw [h]; simp⟩
   have hyes : f k = true → ∀ j, j < k + 1 → f j = true := fun h j hj => by
    rcases Nat.lt_or_ge j k with g | g
    ·exact ok j g
    ·rw [show j = k by omega]; exact h
   have hzl : (iL t).length = t.length := iL_len t
   have g2 : 0 ≤ vs.getD k 0 ∧ vs.getD k 0 < ((iL t).length : Int) := by rw [hzl]; omega
   clear hm
   generalize vs.getD k 0 = v at *
   generalize row.getD k 0 = y at *
   generalize t.getD v.toNat 0 = z at *
   cases c1 : decide (v < (n : Int)) with
   | false =>
    rw [c1] at hf
    repeat' (first | refine yz ?_ | refine yi (.int v) hv ?_ | refine yx ?_)
    refine go_stop ?_
    exact ⟨⟨k + 1, by omega, hyes hf⟩, by dsimp only; omega, (zle 6)⟩
   | true =>
    cases c2 : y != z with
    | true =>
     rw [c1, c2] at hf
     rw [hno hf]
     repeat' (first | refine yz ?_ | refine yi (.int v) hv ?_ | refine yi (.int y) hy ?_ | refine qW (.int z) rfl rfl rfl rfl rfl rfl hz rfl ?_ | refine yr [0, 1, 2, 3, 4, 5] ?_ | refine yx ?_ | exact zD)
    | false =>
     rw [c1, c2] at hf
     repeat' (first | refine yz ?_ | refine yi (.int v) hv ?_ | refine yi (.int y) hy ?_ | refine qW (.int z) rfl rfl rfl rfl rfl rfl hz rfl ?_ | refine yx ?_)
     refine go_stop ?_
     exact ⟨⟨k + 1, by omega, hyes hf⟩, by dsimp only; omega, (zle 6)⟩
  ·have g1 : decide ((k : Int) < ((iL vs).length : Int)) = false := by rw [hvl]; simp; omega
   have : R = true := by
    rw [← hR, List.all_eq_true]
    intro j hj
    exact ok j (by have := List.mem_range.1 hj; omega)
   rw [this]
   repeat' (first | refine yz ?_ | refine yr [0, 1, 2, 3, 4, 5] ?_ | exact zD)
 | o0 :: or =>
  dsimp only [fX, fO]
  refine yd func230 ntmps230 fun _ _ _ _=>?_
  repeat' (first | refine yz ?_ | refine qI (.sl (iL vs)) rfl (guardX_ok rfl) rfl rfl rfl rfl rfl rfl (by first | omega | decide) hrl ?_)
  refine go_loop_ (α := SCnd vs f) (fun p => ⟨[(0, .d (.sl (iL row))), (1, .ptr 0 0), (3, .ptr 2 0), (14, .d (.sl (iL vs))), (15, .d (.int (iL vs).length)), (16, .d (.int p.i))], [bxS 3, bxI i, bxI n, srch l (.own 4) (.own 5), rwI t, .row 46 1 (o0 :: or)]⟩) (fun p => vs.length - p.i) ⟨0, by omega, fun j hj => by omega⟩ (zle 6) ?_
  rintro ⟨k, hk, ok⟩
  dsimp only
  rcases Nat.lt_or_ge k vs.length with hlt | hge
  ·have g1 : decide ((k : Int) < ((iL vs).length : Int)) = true := by rw [hvl]; simpa using hlt
   have hv := iL_getD hlt
   have hy := iL_getD (show k < row.length by omega)
   have hm := getD_mem hlt
   have m1 := klo _ hm
   have m2 := khi _ hm
   have hz := iL_getD (show (vs.getD k 0).toNat < t.length by omega)
   rw [Int.toNat_natCast] at hz
   have hf : f k = !(decide (vs.getD k 0 < (n : Int)) && (row.getD k 0 != t.getD (vs.getD k 0).toNat 0)) := by rw [← hc]; rfl
   have hno : f k = false → R = false := fun h => by rw [← hR, List.all_eq_false]; exact ⟨k, List.mem_range.2 hlt, by rw [h]; simp⟩
   have hyes : f k = true → ∀ j, j < k + 1 → f j = true := fun h j hj => by
    rcases Nat.lt_or_ge j k with g | g
    ·exact ok j g
    ·rw [show j = k by omega]; exact h
   have hzl : (iL t).length = t.length := iL_len t
   have g2 : 0 ≤ vs.getD k 0 ∧ vs.getD k 0 < ((iL t).length : Int) := by rw [hzl]; omega
   clear hm
   generalize vs.getD k 0 = v at *
   generalize row.getD k 0 = y at *
   generalize t.getD v.toNat 0 = z at *
   cases c1 : decide (v < (n : Int)) with
   | false =>
    rw [c1] at hf
    repeat' (first | refine yz ?_ | refine yi (.int v) hv ?_ | refine yx ?_)
    refine go_stop ?_
    exact ⟨⟨k + 1, by omega, hyes hf⟩, by dsimp only; omega, (zle 6)⟩
   | true =>
    cases c2 : y != z with
    | true =>
     rw [c1, c2] at hf
     rw [hno hf]
     repeat' (first | refine yz ?_ | refine yi (.int v) hv ?_ | refine yi (.int y) hy ?_ | refine qW (.int z) rfl rfl rfl rfl rfl rfl hz rfl ?_ | refine yr [0, 1, 2, 3, 4, 5] ?_ | refine yx ?_ | exact zD)
    | false =>
     rw [c1, c2] at hf
     repeat' (first | refine yz ?_ | refine yi (.int v) hv ?_ | refine yi (.int y) hy ?_ | refine qW (.int z) rfl rfl rfl rfl rfl rfl hz rfl ?_ | refine yx ?_)
     refine go_stop ?_
     exact ⟨⟨k + 1, by omega, hyes hf⟩, by dsimp only; omega, (zle 6)⟩
  ·have g1 : decide ((k : Int) < ((iL vs).length : Int)) = false := by rw [hvl]; simp; omega
   have : R = true := by
    rw [← hR, List.all_eq_true]
    intro j hj
    exact ok j (by have := List.mem_range.1 hj; omega)
   rw [this]
   repeat' (first | refine yz ?_ | refine yr [0, 1, 2, 3, 4, 5] ?_ | exact zD)
structure SFr (l : List (List Int)) (f : List Int → Bool) where
 i : Nat
 hi : i ≤ l.length
 ok : ∀ j, j < i → ∀ y, l[j]? = some y → f y = false
set_option maxHeartbeats 4000000 in
theorem indR_evS (l : List RVq) (r : RVq) (i n : Nat) (t : List Int) (ou : List D) (hr : l[i]? = some r) (hk : RokQ r t.length) (hmx : r.rows.length ≤ 9223372036854775807) : EvS E 306 [.d (.sl (rL r.rows)), .clo 230 [.ptr 0 0, .ptr 1 0, .ptr 2 0]] [bxS 3, bxI i, bxI n, srch l (.own 4) (fX 5 ou), rwI t, oOu ou] (.d (.int (optI (r.rows.findIdx? (agrQ r.vs n t))))) [bxS 3, bxI i, bxI n, srch l (.own 4) (fX 5 ou), rwI t, oOu ou] := by
 have hle := rL_len r.rows
 have hf := fun row hm => fits1_evS l r i n t row ou hr hk (hk.ln row hm)
 generalize agrQ r.vs n t = f at *
 match ou with
 | [] =>
  dsimp only [fX, fO]
  dsimp only [fX, fO] at hf
  refine yd func306 ntmps306 fun _ _ _ _=>?_
  repeat' (refine yz ?_)
  refine go_loop_ (α := SFr r.rows f) (fun p => ⟨[(0, .d (.sl (rL r.rows))), (1, .clo 230 [.ptr 0 0, .ptr 1 0, .ptr 2 0]), (7, .d (.int (rL r.rows).length)), (8, .d (.int p.i))], [bxS 3, bxI i, bxI n, srch l (.own 4) .nilS, rwI t, .dead]⟩) (fun p => r.rows.length - p.i) ⟨0, by omega, fun j hj => absurd hj (by omega)⟩ (zle 6) ?_
  rintro ⟨k, hk, ok⟩
  dsimp only
  rcases Nat.lt_or_ge k r.rows.length with hlt | hge
  ·have g1 : decide ((k : Int) < ((rL r.rows).length : Int)) = true := by rw [hle]; simpa using hlt
   have hx0 := List.getElem?_eq_getElem hlt
   have hm : r.rows[k] ∈ r.rows := List.getElem_mem hlt
   generalize r.rows[k] = y at hx0 hm
   have hx := rL_get hx0
   have h := hf y hm
   cases hc : f y with
   | true =>
    rw [hc] at h
    rw [fi_some hx0 hc ok]
    repeat' (first | refine yz ?_ | refine qI (.sl (iL y)) rfl (guardX_ok rfl) rfl rfl rfl rfl rfl rfl (by first | omega | decide) hx ?_ | refine go_callS [0, 1, 2, 3, 4, 5] rfl rfl rfl rfl (FnX.clo _ _) b230 (h) rfl rfl rfl rfl rfl ?_ | refine yr [0, 1, 2, 3, 4, 5] ?_ | exact zD)
   | false =>
    rw [hc] at h
    repeat' (first | refine yz ?_ | refine qI (.sl (iL y)) rfl (guardX_ok rfl) rfl rfl rfl rfl rfl rfl (by first | omega | decide) hx ?_ | refine go_callS [0, 1, 2, 3, 4, 5] rfl rfl rfl rfl (FnX.clo _ _) b230 (h) rfl rfl rfl rfl rfl ?_)
    refine go_stop ?_
    exact ⟨⟨k + 1, by omega, SFi.next hx0 hc ok⟩, by dsimp only; omega, (zle 6)⟩
  ·have g1 : decide ((k : Int) < ((rL r.rows).length : Int)) = false := by rw [hle]; simp; omega
   rw [fi_none fun j hj => ok j (by omega)]
   repeat' (first | refine yz ?_ | refine yr [0, 1, 2, 3, 4, 5] ?_ | exact zD)
 | o0 :: or =>
  dsimp only [fX, fO]
  dsimp only [fX, fO] at hf
  refine yd func306 ntmps306 fun _ _ _ _=>?_
  repeat' (refine yz ?_)
  refine go_loop_ (α := SFr r.rows f) (fun p => ⟨[(0, .d (.sl (rL r.rows))), (1, .clo 230 [.ptr 0 0, .ptr 1 0, .ptr 2 0]), (7, .d (.int (rL r.rows).length)), (8, .d (.int p.i))], [bxS 3, bxI i, bxI n, srch l (.own 4) (.own 5), rwI t, .row 46 1 (o0 :: or)]⟩) (fun p => r.rows.length - p.i) ⟨0, by omega, fun j hj => absurd hj (by omega)⟩ (zle 6) ?_
  rintro ⟨k, hk, ok⟩
  dsimp only
  rcases Nat.lt_or_ge k r.rows.length with hlt | hge
  ·have g1 : decide ((k : Int) < ((rL r.rows).length : Int)) = true := by rw [hle]; simpa using hlt
   have hx0 := List.getElem?_eq_getElem hlt
   have hm : r.rows[k] ∈ r.rows := List.getElem_mem hlt
   generalize r.rows[k] = y at hx0 hm
   have hx := rL_get hx0
   have h := hf y hm
   cases hc : f y with
   | true =>
    rw [hc] at h
    rw [fi_some hx0 hc ok]
    repeat' (first | refine yz ?_ | refine qI (.sl (iL y)) rfl (guardX_ok rfl) rfl rfl rfl rfl rfl rfl (by first | omega | decide) hx ?_ | refine go_callS [0, 1, 2, 3, 4, 5] rfl rfl rfl rfl (FnX.clo _ _) b230 (h) rfl rfl rfl rfl rfl ?_ | refine yr [0, 1, 2, 3, 4, 5] ?_ | exact zD)
   | false =>
    rw [hc] at h
    repeat' (first | refine yz ?_ | refine qI (.sl (iL y)) rfl (guardX_ok rfl) rfl rfl rfl rfl rfl rfl (by first | omega | decide) hx ?_ | refine go_callS [0, 1, 2, 3, 4, 5] rfl rfl rfl rfl (FnX.clo _ _) b230 (h) rfl rfl rfl rfl rfl ?_)
    refine go_stop ?_
    exact ⟨⟨k + 1, by omega, SFi.next hx0 hc ok⟩, by dsimp only; omega, (zle 6)⟩
  ·have g1 : decide ((k : Int) < ((rL r.rows).length : Int)) = false := by rw [hle]; simp; omega
   rw [fi_none fun j hj => ok j (by omega)]
   repeat' (first | refine yz ?_ | refine yr [0, 1, 2, 3, 4, 5] ?_ | exact zD)
theorem contR_evS (l : List RVq) (r : RVq) (i n : Nat) (t : List Int) (ou : List D) (hr : l[i]? = some r) (hk : RokQ r t.length) (hmx : r.rows.length ≤ 9223372036854775807) : EvS E 229 [.d (.sl (rL r.rows)), .clo 230 [.ptr 0 0, .ptr 1 0, .ptr 2 0]] [bxS 3, bxI i, bxI n, srch l (.own 4) (fX 5 ou), rwI t, oOu ou] (.d (.bool (fitQ r n t))) [bxS 3, bxI i, bxI n, srch l (.own 4) (fX 5 ou), rwI t, oOu ou] := by
 have h := indR_evS l r i n t ou hr hk hmx
 unfold fitQ
 rw [← fi_any]
 generalize optI (r.rows.findIdx? (agrQ r.vs n t)) = z at *
 match ou with
 | [] =>
  dsimp only [fX, fO]
  dsimp only [fX, fO] at h
  refine yd func229 ntmps229 fun _ _ _ _=>?_
  repeat' (first | refine yz ?_ | refine yc [0, 1, 2, 3, 4, 5] b306 (h) ?_ | refine yr [0, 1, 2, 3, 4, 5] ?_ | exact zD)
 | o0 :: or =>
  dsimp only [fX, fO]
  dsimp only [fX, fO] at h
  refine yd func229 ntmps229 fun _ _ _ _=>?_
  repeat' (first | refine yz ?_ | refine yc [0, 1, 2, 3, 4, 5] b306 (h) ?_ | refine yr [0, 1, 2, 3, 4, 5] ?_ | exact zD)
set_option maxHeartbeats 4000000 in
theorem fits_evS (l : List RVq) (r : RVq) (i n : Nat) (t : List Int) (ou : List D) (hr : l[i]? = some r) (hk : RokQ r t.length) (hmx : r.rows.length ≤ 9223372036854775807) : EvS E 143 [.ptr 0 0, .d (.int i), .d (.int n)] [srch l (.own 1) (fX 2 ou), rwI t, oOu ou] (.d (.bool (fitQ r n t))) [srch l (.own 1) (fX 2 ou), rwI t, oOu ou] := by
 have h := contR_evS l r i n t ou hr hk hmx
 have hrl : (l.map relD)[((i : Nat) : Int).toNat]? = some (.agg [.int r.vs.length, .sl (rL r.rows)]) := map_at (f := relD) hr
 generalize fitQ r n t = z at *
 match ou with
 | [] =>
  dsimp only [fX, fO]
  dsimp only [fX, fO] at h
  refine yd func143 ntmps143 fun _ _ _ _=>?_
  repeat' (first | refine qCP (id := 1) (by kernel_rfl) ?_ | refine pgF (id := 1) (i := 0) 9 rfl rfl ?_ | refine pgF (id := 1) (i := 10) 1 rfl rfl ?_ | refine pgN ?_ | refine yz ?_ | refine qI (.agg [.int r.vs.length, .sl (rL r.rows)]) rfl (guardX_ok rfl) rfl rfl rfl rfl rfl rfl (by first | omega | decide) hrl ?_ | refine go_makeFunc rfl rfl rfl rfl rfl ?_ | refine pgS (id := 1) (i := 9) [3, 4, 5, 0, 1, 2] rfl rfl rfl rfl (FnX.plain _) b229 (h) rfl rfl rfl rfl rfl ?_ | refine yr [0, 1, 2] ?_ | exact zD)
 | o0 :: or =>
  dsimp only [fX, fO]
  dsimp only [fX, fO] at h
  refine yd func143 ntmps143 fun _ _ _ _=>?_
  repeat' (first | refine qCP (id := 1) (by kernel_rfl) ?_ | refine pgF (id := 1) (i := 0) 9 rfl rfl ?_ | refine pgF (id := 1) (i := 10) 1 rfl rfl ?_ | refine pgN ?_ | refine yz ?_ | refine qI (.agg [.int r.vs.length, .sl (rL r.rows)]) rfl (guardX_ok rfl) rfl rfl rfl rfl rfl rfl (by first | omega | decide) hrl ?_ | refine go_makeFunc rfl rfl rfl rfl rfl ?_ | refine pgS (id := 1) (i := 9) [3, 4, 5, 0, 1, 2] rfl rfl rfl rfl (FnX.plain _) b229 (h) rfl rfl rfl rfl rfl ?_ | refine yr [0, 1, 2] ?_ | exact zD)
end Go.Proofs.YtenpjlghikohmaaGreatDoor
namespace Go.Proofs.YtenpjlghikohmaaGreatDoor
set_option maxRecDepth 4000
open Go Go.Abs Go.Val Go.RowKit Go.Sort Go.Proofs Go.Proofs.Tryz
theorem sortQ_evS (l : List Int) (hsz : l.length ≤ 1000000) : EvS E 227 [.own 0] [.row 3 1 (iL l)] (.tup []) [.row 3 1 (iL (sortZ l))] := by
 intro w F σ vs hi hl hr
 match vs, hl with
 | [v0], _ =>
  obtain ⟨b, c, n, e1, rfl⟩ := hr 0 _ _ rfl rfl
  obtain ⟨cs, g1, g2, g3, g4, g5, g6, g7, g8, g9, g10⟩ := hi.obs 0 _ _ rfl e1
  have hn : n = l.length := by rw [g3]; simp [iL]
  subst hn
  have hrg : ∀ j (h : j < l.length), cs[j]? = some (.int .i64 l[j]) ∧ Go.Abs.okV (.int .i64 l[j]) = true := fun j hj => by
   obtain ⟨v, q1, q2⟩ := g8 j (.int l[j]) 0 (.int l[j]) (by simp [iL, hj]) rfl
   rw [Nat.mul_one, Nat.add_zero] at q1
   rw [q1, (Rd.imm_inv q2).1]
   exact ⟨rfl, (Rd.imm_inv q2).2⟩
  have ht : cs.take l.length = l.map (Value.int .i64) := by
   refine List.ext_getElem? fun j => ?_
   rcases Nat.lt_or_ge j l.length with hj | hj
   ·rw [List.getElem?_take_of_lt hj, (hrg j hj).1]
    simp [hj]
   ·rw [List.getElem?_eq_none (by rw [List.length_take]; omega), List.getElem?_eq_none (by simpa using hj)]
  have hH : Holds (Value.int .i64) w b 0 l.toArray := holds_of_blockI g1 (by simpa using ht)
  have hgl : b < w.heap.size := (Array.getElem?_eq_some_iff.1 g1).1
  have p1 : (sortZ l).Perm l := List.mergeSort_perm _ _
  have p2 : (sortZ l).length = l.length := p1.length_eq
  refine (Tryz.slices_Sort_int b 0 c l w hH hgl (by omega)).mono ?_
  rintro e w' ⟨rfl, q, os, rfl⟩
  rw [show (l.mergeSort fun x y => decide (x ≤ y)) = sortZ l from rfl]
  have hhp := heap_sortedI (n := q) (os := os) (sortZ l).toArray g1
  have hgb := grownBy_sortedI (w := w) (g := b) (n := q) (os := os) (sortZ l).toArray
  have htk := take_putCellsI cs.toArray (sortZ l) (by simp only [List.size_toArray]; omega)
  refine row_turned hi e1 hgb (putCells (Value.int .i64) 0 (sortZ l).toArray cs.toArray).toList (by simpa using hhp) (by simp [putCells, g2]) (by rw [iL_len, p2]) g4 g5 (iL_cells _) (fun x hx c hc => ?_) fun i x j cd hx hc => ?_
  ·obtain ⟨u, -, rfl⟩ := List.mem_map.1 hx
   rw [show (D.int u).cells = [D.int u] from rfl, List.mem_singleton] at hc
   subst hc
   rfl
  ·rw [iL, List.getElem?_map, Option.map_eq_some_iff] at hx
   obtain ⟨u, hu, rfl⟩ := hx
   rw [show (D.int u).cells = [D.int u] from rfl] at hc
   cases j with
   | zero =>
    simp at hc
    subst hc
    have hm : u ∈ l := p1.mem_iff.1 (List.mem_of_getElem? hu)
    obtain ⟨k, hk, hk2⟩ := List.getElem_of_mem hm
    have h9 := (hrg k hk).2
    rw [hk2] at h9
    refine ⟨.int .i64 u, ?_, Rd.imm _ h9⟩
    have hlt : i < (sortZ l).length := (List.getElem?_eq_some_iff.1 hu).1
    have h1 := congrArg (fun l => l[i]?) htk
    rw [List.getElem?_take_of_lt hlt, List.getElem?_map, hu] at h1
    rw [Nat.mul_one, Nat.add_zero]
    exact h1
   | succ j => simp at hc
theorem sortQ0_evS : EvS E 227 [.d (.sl [])] [] (.tup []) [] := by
 intro w F σ vs hi hl hr
 match vs, hl with
 | [v0], _ =>
  have h0 : Rd w F (.sl []) v0 := hr 0 _ v0 rfl rfl
  have hp : ∃ p c, v0 = .slice p 0 c := by
   rcases Rd.sl_inv h0 with ⟨-, rfl⟩ | ⟨_, ad, cap, rfl, -⟩
   ·exact ⟨_, _, rfl⟩
   ·exact ⟨_, _, rfl⟩
  obtain ⟨p, c, rfl⟩ := hp
  refine (Tryz.slices_Sort_int_none p c w).mono ?_
  rintro e w' ⟨rfl, rfl⟩
  exact ⟨_, F, σ, rfl, Kept.refl fun k hk => hk.1, fun _ h => h, fun _ h => .inl h, fun i p hi hp => hp, WInv.lend hi, ⟨[], rfl, rfl, fun i x u hx => by simp at hx⟩⟩
attribute [local irreducible] go SGo HasBody Ev ExtEv EvO EvS RGo PGo
def colQ (r : RVq) (v : Nat) : List Int := r.rows.map fun row => row.getD (idxQ r.vs v) 0
structure SBe (l : List RVq) (v : Int) where
 i : Nat
 b : Option Nat
 hi : i ≤ l.length
 hb : ∀ j, b = some j → ∃ r, l[j]? = some r
 ok : bestQ l v = bestG l v (l.drop i) i b
theorem bestG_cons (l : List RVq) (v : Int) (r : RVq) (q : List RVq) (i : Nat) (b : Option Nat) : bestG l v (r :: q) i b = bestG l v q (i + 1) (bif r.vs.contains v && ltB l r b then some i else b) := by rw [bestG]
structure SCo2 (n : Nat) where
 i : Nat
 hi : i ≤ n
theorem iL_take {l : List Int} {i : Nat} {x : Int} (h : l[i]? = some x) : iL (l.take (i + 1)) = iL (l.take i) ++ [.int x] := by
 rw [List.take_add_one, h]
 exact iL_app _ [x]
set_option maxHeartbeats 8000000 in
theorem cand_evS (l : List RVq) (v : Nat) (t : List Int) (ou : List D) (hl : l.length ≤ 1000000) (hx : ∃ r ∈ l, r.vs.contains (v : Int) = true) (hk : ∀ r ∈ l, RokQ r t.length ∧ r.rows.length ≤ 1000000) (hz : ∀ r ∈ l, ∀ z ∈ sortZ (colQ r v), Go.Abs.okV (.int .i64 z) = true) :
  EvS E 142 [.ptr 0 0, .d (.int v)] [srch l (.own 1) (fX 2 ou), rwI t, oOu ou] (.d (.sl (iL (candQ l v)))) [srch l (.own 1) (fX 2 ou), rwI t, oOu ou] := by
 have hl1 : (l.map relD).length = l.length := by simp
 have hl2 : (l.map vrD).length = l.length := by simp
 obtain ⟨B, R, e1, e2, e3⟩ := bestQ_ok hx
 have hc : candQ l v = vrsF (colQ R v) := by unfold candQ; rw [e1]; dsimp only; rw [e2]; rfl
 rw [hc]
 match ou with
 | [] =>
  dsimp only [fX, fO]
  refine yd func142 ntmps142 fun _ _ _ _=>?_
  repeat' (refine yz ?_)
  refine go_loop_ (α := SBe l v) (fun p => ⟨[(0, .ptr 0 0), (1, .d (.int v)), (5, .d (.int (optI p.b))), (15, .d (.sl (l.map vrD))), (16, .d (.int (l.map vrD).length)), (17, .d (.int p.i))], [srch l (.own 1) .nilS, rwI t, .dead]⟩) (fun p => l.length - p.i) ⟨0, none, by omega, fun j hj => (by cases hj), rfl⟩ (zle 3) ?_
  rintro ⟨i, b, hi, hb, ok⟩
  dsimp only
  rcases Nat.lt_or_ge i l.length with hlt | hge
  ·have g1 : decide ((i : Int) < ((l.map vrD).length : Int)) = true := by rw [hl2]; simpa using hlt
   have hx0 := List.getElem?_eq_getElem hlt
   generalize l[i] = r at hx0
   have hv : (l.map vrD)[((i : Nat) : Int).toNat]? = some (.sl (iL r.vs)) := map_at (f := vrD) hx0
   have hr : (l.map relD)[((i : Nat) : Int).toNat]? = some (.agg [.int r.vs.length, .sl (rL r.rows)]) := map_at (f := relD) hx0
   have hct := containsI_ev r.vs (v : Int)
   rw [drop_at hx0, bestG_cons] at ok
   cases c1 : r.vs.contains (v : Int) with
   | false =>
    rw [c1] at hct ok
    repeat' (first | refine yz ?_ | refine qI (.sl (iL r.vs)) rfl (guardX_ok rfl) rfl rfl rfl rfl rfl rfl (by first | omega | decide) hv ?_ | refine yp b132 hct ?_)
    refine go_stop ?_
    exact ⟨⟨i + 1, b, by omega, hb, ok⟩, by dsimp only; omega, (zle 3)⟩
   | true =>
    rw [c1] at hct ok
    rw [Bool.true_and] at ok
    cases b with
    | none =>
     have g2 : decide ((-1 : Int) < 0) = true := rfl
     rw [show optI none = (-1 : Int) from rfl]
     repeat' (first | refine yz ?_ | refine qI (.sl (iL r.vs)) rfl (guardX_ok rfl) rfl rfl rfl rfl rfl rfl (by first | omega | decide) hv ?_ | refine yp b132 hct ?_)
     refine go_stop ?_
     exact ⟨⟨i + 1, some i, by omega, fun j hj => (by cases hj; exact ⟨r, hx0⟩), ok⟩, by dsimp only; omega, (zle 3)⟩
    | some j =>
     obtain ⟨rb, hrb⟩ := hb j rfl
     have g2 : decide ((j : Int) < 0) = false := by simp
     have hjl : j < l.length := (List.getElem?_eq_some_iff.1 hrb).1
     rw [show optI (some j) = ((j : Nat) : Int) from rfl]
     have hrj : (l.map relD)[((j : Nat) : Int).toNat]? = some (.agg [.int rb.vs.length, .sl (rL rb.rows)]) := map_at (f := relD) hrb
     have hlb : ltB l r (some j) = decide (((rL r.rows).length : Int) < ((rL rb.rows).length : Int)) := by
      show decide (r.rows.length < ((l[j]?.map RVq.rows).getD []).length) = _
      rw [hrb, rL_len, rL_len, decide_eq_decide]
      simp
     rw [hlb] at ok
     cases c2 : decide (((rL r.rows).length : Int) < ((rL rb.rows).length : Int)) with
     | true =>
      rw [c2] at ok
      repeat' (first | refine yz ?_ | refine qI (.sl (iL r.vs)) rfl (guardX_ok rfl) rfl rfl rfl rfl rfl rfl (by first | omega | decide) hv ?_ | refine yp b132 hct ?_ | refine qI (.agg [.int r.vs.length, .sl (rL r.rows)]) rfl (guardX_ok rfl) rfl rfl rfl rfl rfl rfl (by first | omega | decide) hr ?_ | refine qI (.agg [.int rb.vs.length, .sl (rL rb.rows)]) rfl (guardX_ok rfl) rfl rfl rfl rfl rfl rfl (by first | omega | decide) hrj ?_)
      refine go_stop ?_
      exact ⟨⟨i + 1, some i, by omega, fun j hj => (by cases hj; exact ⟨r, hx0⟩), ok⟩, by dsimp only; omega, (zle 3)⟩
     | false =>
      rw [c2] at ok
      repeat' (first | refine yz ?_ | refine qI (.sl (iL r.vs)) rfl (guardX_ok rfl) rfl rfl rfl rfl rfl rfl (by first | omega | decide) hv ?_ | refine yp b132 hct ?_ | refine qI (.agg [.int r.vs.length, .sl (rL r.rows)]) rfl (guardX_ok rfl) rfl rfl rfl rfl rfl rfl (by first | omega | decide) hr ?_ | refine qI (.agg [.int rb.vs.length, .sl (rL rb.rows)]) rfl (guardX_ok rfl) rfl rfl rfl rfl rfl rfl (by first | omega | decide) hrj ?_)
      refine go_stop ?_
      exact ⟨⟨i + 1, some j, by omega, fun k hk => (by cases hk; exact ⟨rb, hrb⟩), ok⟩, by dsimp only; omega, (zle 3)⟩
  ·have g1 : decide ((i : Int) < ((l.map vrD).length : Int)) = false := by rw [hl2]; simp; omega
   rw [List.drop_eq_nil_of_le hge, bestG, e1] at ok
   subst ok
   clear hb
   have hv : (l.map vrD)[((B : Nat) : Int).toNat]? = some (.sl (iL R.vs)) := map_at (f := vrD) e2
   have hr : (l.map relD)[((B : Nat) : Int).toNat]? = some (.agg [.int R.vs.length, .sl (rL R.rows)]) := map_at (f := relD) e2
   have hB : B < l.length := (List.getElem?_eq_some_iff.1 e2).1
   obtain ⟨⟨klo, khi, kln, kwd⟩, krn⟩ := hk R (List.mem_of_getElem? e2)
   have hzz := hz R (List.mem_of_getElem? e2)
   obtain ⟨i1, i2⟩ := idxQ_ok e3
   have hix := indexI_ev R.vs (v : Int)
   have hfi : R.vs.findIdx? (fun y => (v : Int) == y) = some (idxQ R.vs v) := by
    unfold idxQ
    cases hf : R.vs.findIdx? fun y => (v : Int) == y with
    | none =>
     exfalso
     rw [List.findIdx?_eq_none_iff] at hf
     have := hf (v : Int) (by simpa using e3)
     simp at this
    | some k => rfl
   rw [hfi] at hix
   have hix : Ev E 151 [.sl (iL R.vs), .int (v : Int)] (.d (.int (idxQ R.vs v : Nat))) := hix
   have hlr := rL_len R.rows
   have hcl : (colQ R v).length = R.rows.length := by unfold colQ; simp
   have hcg : ∀ (i : Nat) (row : List Int), R.rows[i]? = some row → (colQ R v)[i]? = some (row.getD (idxQ R.vs v) 0) := fun i row h => by unfold colQ; rw [List.getElem?_map, h]; rfl
   have hopt : optI (some B) = ((B : Nat) : Int) := rfl
   rw [hopt]
   generalize hK : idxQ R.vs v = K at *
   generalize hC : colQ R v = col at *
   repeat' (first | refine yz ?_ | refine qI (.sl (iL R.vs)) rfl (guardX_ok rfl) rfl rfl rfl rfl rfl rfl (by first | omega | decide) hv ?_ | refine yp b151 hix ?_ | refine qI (.agg [.int R.vs.length, .sl (rL R.rows)]) rfl (guardX_ok rfl) rfl rfl rfl rfl rfl rfl (by first | omega | decide) hr ?_)
   refine go_loop_ (α := SCo2 R.rows.length) (fun p => ⟨[(9, rowK 3 (iL (col.take p.i))), (8, .d (.int (K : Nat))), (68, .d (.sl (rL R.rows))), (69, .d (.int (rL R.rows).length)), (70, .d (.int p.i))], [srch l (.own 1) .nilS, rwI t, .dead] ++ rowO 3 1 (iL (col.take p.i))⟩) (fun p => R.rows.length - p.i) ⟨0, by omega⟩ (zle 3) ?_
   rintro ⟨m, hm⟩
   dsimp only
   have hol : (iL (col.take m)).length ≤ 1000000 := by rw [iL_len, List.length_take]; omega
   rcases Nat.lt_or_ge m R.rows.length with hlm | hgm
   ·have g2 : decide ((m : Int) < ((rL R.rows).length : Int)) = true := by rw [hlr]; simpa using hlm
    have hy0 := List.getElem?_eq_getElem hlm
    have hym : R.rows[m] ∈ R.rows := List.getElem_mem hlm
    generalize R.rows[m] = y at hy0 hym
    have hy := rL_get hy0
    have hyl := kln y hym
    have hyk := iL_getD (show K < y.length by omega)
    have hnx := iL_take (hcg m y hy0)
    generalize y.getD K 0 = z at *
    generalize hq : iL (col.take m) = oo at *
    match oo, hol with
    | [], hol =>
     dsimp only [rowK, rowO]
     repeat' (first | refine yz ?_ | refine qI (.sl (iL y)) rfl (guardX_ok rfl) rfl rfl rfl rfl rfl rfl (by first | omega | decide) hy ?_ | refine yi (.int z) hyk ?_ | (refine qS rfl ⟨by simp, fun d hd => by (obtain rfl := List.mem_singleton.1 hd; rfl), by (show (0 + 1) * 8 ≤ 140737488355328; omega), by (show 0 + 1 ≤ 9223372036854775807; omega)⟩ ?_))
     refine go_stop ?_
     refine ⟨⟨m + 1, by omega⟩, by dsimp only; omega, ?_⟩
     dsimp only
     rw [hnx]
     exact (zren [0, 1, 2, 3])
    | q0 :: qr, hol =>
     dsimp only [rowK, rowO]
     repeat' (first | refine yz ?_ | refine qI (.sl (iL y)) rfl (guardX_ok rfl) rfl rfl rfl rfl rfl rfl (by first | omega | decide) hy ?_ | refine yi (.int z) hyk ?_ | (refine qS rfl ⟨by simp, fun d hd => by (obtain rfl := List.mem_singleton.1 hd; rfl), by (show ((q0 :: qr : List D).length + 1) * 8 ≤ 140737488355328; omega), by (show (q0 :: qr : List D).length + 1 ≤ 9223372036854775807; omega)⟩ ?_))
     refine go_stop ?_
     refine ⟨⟨m + 1, by omega⟩, by dsimp only; omega, ?_⟩
     dsimp only
     rw [hnx]
     exact (zren [0, 1, 2, 4])
   ·have g2 : decide ((m : Int) < ((rL R.rows).length : Int)) = false := by rw [hlr]; simp; omega
    rw [List.take_of_length_le (by omega)]
    have hso := sortQ_evS col (by omega)
    have hco := compactZ_evS (sortZ col) hzz
    rw [compact_vrs] at hco
    cases hcc : col with
    | nil =>
     dsimp only [rowK, rowO, iL, List.map]
     rw [show vrsF [] = [] from rfl]
     dsimp only [List.map]
     repeat' (first | (refine go_nilD 9 rfl ?_) | refine yz ?_ | refine yc [] b227 (sortQ0_evS) ?_ | refine yp b138 compact0Z_ev ?_ | refine yr [0, 1, 2] ?_ | exact zD)
    | cons c0 cr =>
     rw [hcc] at hso hco
     have hV : (vrsF (c0 :: cr)).map D.int = iL (vrsF (c0 :: cr)) := rfl
     generalize hS : sortZ (c0 :: cr) = S at *
     generalize hVV : vrsF (c0 :: cr) = V at *
     rw [show iL (c0 :: cr) = .int c0 :: iL cr from rfl] at hso ⊢
     dsimp only [rowK, rowO]
     repeat' (first | refine yz ?_ | refine yc [3] b227 (hso) ?_ | refine yc [3] b138 (hco) ?_)
     refine go_frz 4 rfl ?_
     repeat' (first | refine yr [0, 1, 2] ?_ | exact zD)
 | o0 :: or =>
  dsimp only [fX, fO]
  refine yd func142 ntmps142 fun _ _ _ _=>?_
  repeat' (refine yz ?_)
  refine go_loop_ (α := SBe l v) (fun p => ⟨[(0, .ptr 0 0), (1, .d (.int v)), (5, .d (.int (optI p.b))), (15, .d (.sl (l.map vrD))), (16, .d (.int (l.map vrD).length)), (17, .d (.int p.i))], [srch l (.own 1) (.own 2), rwI t, .row 46 1 (o0 :: or)]⟩) (fun p => l.length - p.i) ⟨0, none, by omega, fun j hj => (by cases hj), rfl⟩ (zle 3) ?_
  rintro ⟨i, b, hi, hb, ok⟩
  dsimp only
  rcases Nat.lt_or_ge i l.length with hlt | hge
  ·have g1 : decide ((i : Int) < ((l.map vrD).length : Int)) = true := by rw [hl2]; simpa using hlt
   have hx0 := List.getElem?_eq_getElem hlt
   generalize l[i] = r at hx0
   have hv : (l.map vrD)[((i : Nat) : Int).toNat]? = some (.sl (iL r.vs)) := map_at (f := vrD) hx0
   have hr : (l.map relD)[((i : Nat) : Int).toNat]? = some (.agg [.int r.vs.length, .sl (rL r.rows)]) := map_at (f := relD) hx0
   have hct := containsI_ev r.vs (v : Int)
   rw [drop_at hx0, bestG_cons] at ok
   cases c1 : r.vs.contains (v : Int) with
   | false =>
    rw [c1] at hct ok
    repeat' (first | refine yz ?_ | refine qI (.sl (iL r.vs)) rfl (guardX_ok rfl) rfl rfl rfl rfl rfl rfl (by first | omega | decide) hv ?_ | refine yp b132 hct ?_)
    refine go_stop ?_
    exact ⟨⟨i + 1, b, by omega, hb, ok⟩, by dsimp only; omega, (zle 3)⟩
   | true =>
    rw [c1] at hct ok
    rw [Bool.true_and] at ok
    cases b with
    | none =>
     have g2 : decide ((-1 : Int) < 0) = true := rfl
     rw [show optI none = (-1 : Int) from rfl]
     repeat' (first | refine yz ?_ | refine qI (.sl (iL r.vs)) rfl (guardX_ok rfl) rfl rfl rfl rfl rfl rfl (by first | omega | decide) hv ?_ | refine yp b132 hct ?_)
     refine go_stop ?_
     exact ⟨⟨i + 1, some i, by omega, fun j hj => (by cases hj; exact ⟨r, hx0⟩), ok⟩, by dsimp only; omega, (zle 3)⟩
    | some j =>
     obtain ⟨rb, hrb⟩ := hb j rfl
     have g2 : decide ((j : Int) < 0) = false := by simp
     have hjl : j < l.length := (List.getElem?_eq_some_iff.1 hrb).1
     rw [show optI (some j) = ((j : Nat) : Int) from rfl]
     have hrj : (l.map relD)[((j : Nat) : Int).toNat]? = some (.agg [.int rb.vs.length, .sl (rL rb.rows)]) := map_at (f := relD) hrb
     have hlb : ltB l r (some j) = decide (((rL r.rows).length : Int) < ((rL rb.rows).length : Int)) := by
      show decide (r.rows.length < ((l[j]?.map RVq.rows).getD []).length) = _
      rw [hrb, rL_len, rL_len, decide_eq_decide]
      simp
     rw [hlb] at ok
     cases c2 : decide (((rL r.rows).length : Int) < ((rL rb.rows).length : Int)) with
     | true =>
      rw [c2] at ok
      repeat' (first | refine yz ?_ | refine qI (.sl (iL r.vs)) rfl (guardX_ok rfl) rfl rfl rfl rfl rfl rfl (by first | omega | decide) hv ?_ | refine yp b132 hct ?_ | refine qI (.agg [.int r.vs.length, .sl (rL r.rows)]) rfl (guardX_ok rfl) rfl rfl rfl rfl rfl rfl (by first | omega | decide) hr ?_ | refine qI (.agg [.int rb.vs.length, .sl (rL rb.rows)]) rfl (guardX_ok rfl) rfl rfl rfl rfl rfl rfl (by first | omega | decide) hrj ?_)
      refine go_stop ?_
      exact ⟨⟨i + 1, some i, by omega, fun j hj => (by cases hj; exact ⟨r, hx0⟩), ok⟩, by dsimp only; omega, (zle 3)⟩
     | false =>
      rw [c2] at ok
      repeat' (first | refine yz ?_ | refine qI (.sl (iL r.vs)) rfl (guardX_ok rfl) rfl rfl rfl rfl rfl rfl (by first | omega | decide) hv ?_ | refine yp b132 hct ?_ | refine qI (.agg [.int r.vs.length, .sl (rL r.rows)]) rfl (guardX_ok rfl) rfl rfl rfl rfl rfl rfl (by first | omega | decide) hr ?_ | refine qI (.agg [.int rb.vs.length, .sl (rL rb.rows)]) rfl (guardX_ok rfl) rfl rfl rfl rfl rfl rfl (by first | omega | decide) hrj ?_)
      refine go_stop ?_
      exact ⟨⟨i + 1, some j, by omega, fun k hk => (by cases hk; exact ⟨rb, hrb⟩), ok⟩, by dsimp only; omega, (zle 3)⟩
  ·have g1 : decide ((i : Int) < ((l.map vrD).length : Int)) = false := by rw [hl2]; simp; omega
   rw [List.drop_eq_nil_of_le hge, bestG, e1] at ok
   subst ok
   clear hb
   have hv : (l.map vrD)[((B : Nat) : Int).toNat]? = some (.sl (iL R.vs)) := map_at (f := vrD) e2
   have hr : (l.map relD)[((B : Nat) : Int).toNat]? = some (.agg [.int R.vs.length, .sl (rL R.rows)]) := map_at (f := relD) e2
   have hB : B < l.length := (List.getElem?_eq_some_iff.1 e2).1
   obtain ⟨⟨klo, khi, kln, kwd⟩, krn⟩ := hk R (List.mem_of_getElem? e2)
   have hzz := hz R (List.mem_of_getElem? e2)
   obtain ⟨i1, i2⟩ := idxQ_ok e3
   have hix := indexI_ev R.vs (v : Int)
   have hfi : R.vs.findIdx? (fun y => (v : Int) == y) = some (idxQ R.vs v) := by
    unfold idxQ
    cases hf : R.vs.findIdx? fun y => (v : Int) == y with
    | none =>
     exfalso
     rw [List.findIdx?_eq_none_iff] at hf
     have := hf (v : Int) (by simpa using e3)
     simp at this
    | some k => rfl
   rw [hfi] at hix
   have hix : Ev E 151 [.sl (iL R.vs), .int (v : Int)] (.d (.int (idxQ R.vs v : Nat))) := hix
   have hlr := rL_len R.rows
   have hcl : (colQ R v).length = R.rows.length := by unfold colQ; simp
   have hcg : ∀ (i : Nat) (row : List Int), R.rows[i]? = some row → (colQ R v)[i]? = some (row.getD (idxQ R.vs v) 0) := fun i row h => by unfold colQ; rw [List.getElem?_map, h]; rfl
   have hopt : optI (some B) = ((B : Nat) : Int) := rfl
   rw [hopt]
   generalize hK : idxQ R.vs v = K at *
   generalize hC : colQ R v = col at *
   repeat' (first | refine yz ?_ | refine qI (.sl (iL R.vs)) rfl (guardX_ok rfl) rfl rfl rfl rfl rfl rfl (by first | omega | decide) hv ?_ | refine yp b151 hix ?_ | refine qI (.agg [.int R.vs.length, .sl (rL R.rows)]) rfl (guardX_ok rfl) rfl rfl rfl rfl rfl rfl (by first | omega | decide) hr ?_)
   refine go_loop_ (α := SCo2 R.rows.length) (fun p => ⟨[(9, rowK 3 (iL (col.take p.i))), (8, .d (.int (K : Nat))), (68, .d (.sl (rL R.rows))), (69, .d (.int (rL R.rows).length)), (70, .d (.int p.i))], [srch l (.own 1) (.own 2), rwI t, .row 46 1 (o0 :: or)] ++ rowO 3 1 (iL (col.take p.i))⟩) (fun p => R.rows.length - p.i) ⟨0, by omega⟩ (zle 3) ?_
   rintro ⟨m, hm⟩
   dsimp only
   have hol : (iL (col.take m)).length ≤ 1000000 := by rw [iL_len, List.length_take]; omega
   rcases Nat.lt_or_ge m R.rows.length with hlm | hgm
   ·have g2 : decide ((m : Int) < ((rL R.rows).length : Int)) = true := by rw [hlr]; simpa using hlm
    have hy0 := List.getElem?_eq_getElem hlm
    have hym : R.rows[m] ∈ R.rows := List.getElem_mem hlm
    generalize R.rows[m] = y at hy0 hym
    have hy := rL_get hy0
    have hyl := kln y hym
    have hyk := iL_getD (show K < y.length by omega)
    have hnx := iL_take (hcg m y hy0)
    generalize y.getD K 0 = z at *
    generalize hq : iL (col.take m) = oo at *
    match oo, hol with
    | [], hol =>
     dsimp only [rowK, rowO]
     repeat' (first | refine yz ?_ | refine qI (.sl (iL y)) rfl (guardX_ok rfl) rfl rfl rfl rfl rfl rfl (by first | omega | decide) hy ?_ | refine yi (.int z) hyk ?_ | (refine qS rfl ⟨by simp, fun d hd => by (obtain rfl := List.mem_singleton.1 hd; rfl), by (show (0 + 1) * 8 ≤ 140737488355328; omega), by (show 0 + 1 ≤ 9223372036854775807; omega)⟩ ?_))
     refine go_stop ?_
     refine ⟨⟨m + 1, by omega⟩, by dsimp only; omega, ?_⟩
     dsimp only
     rw [hnx]
     exact (zren [0, 1, 2, 3])
    | q0 :: qr, hol =>
     dsimp only [rowK, rowO]
     repeat' (first | refine yz ?_ | refine qI (.sl (iL y)) rfl (guardX_ok rfl) rfl rfl rfl rfl rfl rfl (by first | omega | decide) hy ?_ | refine yi (.int z) hyk ?_ | (refine qS rfl ⟨by simp, fun d hd => by (obtain rfl := List.mem_singleton.1 hd; rfl), by (show ((q0 :: qr : List D).length + 1) * 8 ≤ 140737488355328; omega), by (show (q0 :: qr : List D).length + 1 ≤ 9223372036854775807; omega)⟩ ?_))
     refine go_stop ?_
     refine ⟨⟨m + 1, by omega⟩, by dsimp only; omega, ?_⟩
     dsimp only
     rw [hnx]
     exact (zren [0, 1, 2, 4])
   ·have g2 : decide ((m : Int) < ((rL R.rows).length : Int)) = false := by rw [hlr]; simp; omega
    rw [List.take_of_length_le (by omega)]
    have hso := sortQ_evS col (by omega)
    have hco := compactZ_evS (sortZ col) hzz
    rw [compact_vrs] at hco
    cases hcc : col with
    | nil =>
     dsimp only [rowK, rowO, iL, List.map]
     rw [show vrsF [] = [] from rfl]
     dsimp only [List.map]
     repeat' (first | (refine go_nilD 9 rfl ?_) | refine yz ?_ | refine yc [] b227 (sortQ0_evS) ?_ | refine yp b138 compact0Z_ev ?_ | refine yr [0, 1, 2] ?_ | exact zD)
    | cons c0 cr =>
     rw [hcc] at hso hco
     have hV : (vrsF (c0 :: cr)).map D.int = iL (vrsF (c0 :: cr)) := rfl
     generalize hS : sortZ (c0 :: cr) = S at *
     generalize hVV : vrsF (c0 :: cr) = V at *
     rw [show iL (c0 :: cr) = .int c0 :: iL cr from rfl] at hso ⊢
     dsimp only [rowK, rowO]
     repeat' (first | refine yz ?_ | refine yc [3] b227 (hso) ?_ | refine yc [3] b138 (hco) ?_)
     refine go_frz 4 rfl ?_
     repeat' (first | refine yr [0, 1, 2] ?_ | exact zD)
end Go.Proofs.YtenpjlghikohmaaGreatDoor
namespace Go.Proofs.YtenpjlghikohmaaGreatDoor
set_option maxRecDepth 4000
open Go Go.Abs Go.Val Go.RowKit Go.Sort Go.Proofs Go.Proofs.Tryz
theorem row_rdQ {w : World} {F : Nat → Prop} {σ : Sg} {B : Nat → Prop} {e : TypeId} {size : Nat} {xs : List D} {b c n : Nat} (h : ObOK w F σ B (.row e size xs) (b, c, n)) : Rd w (fun i => F i ∨ i = b) (.sl xs) (.slice (some ⟨b, 0, none⟩) n c) := by
 obtain ⟨cs, g1, g2, g3, g4, g5, g6, g7, g8, g9, g10⟩ := h
 have hex : ∀ i j, ∃ u, ∀ x cd, xs[i]? = some x → x.cells[j]? = some cd → cs[i * size + j]? = some u ∧ Rd w F cd u := by
  intro i j
  cases hx : xs[i]? with
  | none => exact ⟨undef, fun x cd h => by cases h⟩
  | some x =>
   cases hc : x.cells[j]? with
   | none => exact ⟨undef, fun x' cd h h' => by cases h; rw [hc] at h'; cases h'⟩
   | some cd =>
    obtain ⟨u, e1, e2⟩ := g8 i x j cd hx hc
    exact ⟨u, fun x' cd' h h' => by cases h; rw [hc] at h'; cases h'; exact ⟨e1, e2⟩⟩
 rw [g3]
 refine .sl size xs ⟨b, 0, none⟩ c (fun i j => Classical.choose (hex i j)) (by omega) g5 (fun _ => .inr rfl) g6 g7 (fun i x j cd hx hc => ?_) (fun i x j cd hx hc => ?_)
 ·have := (Classical.choose_spec (hex i j) x cd hx hc).1
  rw [add_mk, Nat.zero_add]
  unfold World.cell?
  simp only [g1]
  simpa using this
 ·exact (Classical.choose_spec (hex i j) x cd hx hc).2.mono (fun _ h => .inl h) fun _ _ => rfl
section
variable {C : Cx} {s : St} {o : Oper}
theorem v_callR {y z : Operand} {tys : Array TypeId} {f : FuncId} {e te : TypeId} {size sz k : Nat} {xs ys : List D} (ho : o.op = .call { callee := .value y, args := [z].toArray, argTypes := tys }) (hf : s.ev C.E y = .d (.imm (.func (.func f) #[] #[])))
  (hb : HasBody C.E f) (hz : s.ev C.E z = .own k) (hob : s.ob[k]? = some (.row e size xs)) (hp : ∀ y ∈ ys, ∀ c ∈ y.cells, c.plain = true) (h : EvO C.E f [.sl xs] te sz ys ∨ (ys = [] ∧ Ev C.E f [.sl xs] (.d (.sl [])))) : VOp C s o (.d (.sl ys)) := by
 intro F σ w a K Q hi hr hK
 have hy := hr y (by simp [ho, Op.operands, Call.operands])
 rw [hf] at hy
 obtain ⟨e1, -⟩ := Rd.imm_inv hy
 have hzr := hr z (by simp [ho, Op.operands, Call.operands])
 rw [hz] at hzr
 obtain ⟨b, c, n, q1, q2⟩ := hzr
 have hbo := hi.obs k _ _ hob q1
 have hrd := row_rdQ hbo
 have hbl : b < w.heap.size := by
  obtain ⟨cs, g1, -⟩ := hbo
  exact (Array.getElem?_eq_some_iff.1 g1).1
 have hrun : (execOp a.eval o).run C.E.P w = .ok (.enter f ([z].map a.eval).toArray) w := by
  simp only [execOp, ho]
  rw [resolve_func e1]
  simpa using hb ([z].toArray.map a.eval) w
 unfold Oper.wp
 rw [hrun]
 have hF : ∀ k, (F k ∨ k = b) → k < w.heap.size := fun k hk => by
  rcases hk with hk | rfl
  ·exact hi.flt k hk
  ·exact hbl
 have hargs : ∀ (i : Nat) d v, ([.sl xs] : List D)[i]? = some d → ([z].map a.eval)[i]? = some v → Rd w (fun i => F i ∨ i = b) d v := fun i d v hd hv => by
  cases i with
  | zero =>
   cases hd
   cases hv
   rw [q2]
   exact hrd
  | succ i => simp at hd
 rcases h with h | ⟨rfl, h⟩
 ·refine (h w (fun i => F i ∨ i = b) _ hF (hi.glob.mono (fun _ h => .inl h) fun _ _ => rfl) rfl hargs).mono ?_
  rintro ev w' ⟨g, cp, F', rfl, hext, cs', a1, a2, a3, a4, a5, a6, a7, a8, a9, a10⟩
  have hb' := hext.below
  have hg2 : g < w'.heap.size := (Array.getElem?_eq_some_iff.1 a1).1
  have hob2 : ObOK w' F σ (fun _ => False) (.row te sz ys) (g, cp, ys.length) := ⟨cs', a1, a2, a3, a4, a5, a6, a7, fun i x j cd hx hc => by
   obtain ⟨v, r1, r2⟩ := a8 i x j cd hx hc
   exact ⟨v, r1, r2.plain (hp x (List.mem_of_getElem? hx) cd (List.mem_of_getElem? hc))⟩, fun h => h, fun hf => a10 (hext.more _ (.inl hf))⟩
  exact hK _ w' (fun i => F i ∨ i = g) ⟨hb', fun _ h => .inl h, fun i h => by
   rcases h with h | rfl
   ·exact .inl h
   ·exact .inr (Nat.le_of_not_lt a9), fun i h => by
   rcases h with h | rfl
   ·exact Nat.lt_of_lt_of_le (hi.flt i h) hb'.size
   ·exact hg2⟩ (row_rdQ hob2)
 ·refine (h w (fun i => F i ∨ i = b) _ hF (hi.glob.mono (fun _ h => .inl h) fun _ _ => rfl) rfl hargs).mono ?_
  rintro ev w' ⟨v, F', rfl, hext, hv⟩
  have hb' := hext.below
  have hv2 : Rd w' F (.sl []) v := by
   rcases Rd.sl_inv (show Rd w' F' (.sl []) v from hv) with ⟨-, rfl⟩ | ⟨size, ad, cap, rfl, r1, r2, -⟩
   ·exact .slnil
   ·exact .sl 0 [] ad cap (fun _ _ => undef) r1 r2 (fun h => absurd rfl h) (fun x hx => by simp at hx) (fun x hx => by simp at hx) (fun i x j c hx => by simp at hx) fun i x j c hx => by simp at hx
  exact hK _ w' F (Ext.of_below hb' hi.flt) hv2
end
theorem go_callR {C : Cx} {all : Array Oper} {pu : Bool} {K : St → Prop} {rest : List Oper} {o : Oper} {tm : List (Nat × X)} {ob : List AObj} {d : Nat} {y z : Operand} {tys : Array TypeId} {f : FuncId} {e te : TypeId} {size sz k : Nat} {xs ys : List D}
  (ho : o.op = .call { callee := .value y, args := [z].toArray, argTypes := tys }) (hg : guardX all tm o = some true) (hdst : o.dst = some d) (hd : Nat.blt d C.N = true) (hf : (⟨tm, ob⟩ : St).ev C.E y = .d (.imm (.func (.func f) #[] #[]))) (hz : (⟨tm, ob⟩ : St).ev C.E z = .own k) (hob : ob[k]? = some (.row e size xs))
  (hb : HasBody C.E f) (hp : ∀ y ∈ ys, ∀ c ∈ y.cells, c.plain = true) (h0 : EvO C.E f [.sl xs] te sz ys ∨ (ys = [] ∧ Ev C.E f [.sl xs] (.d (.sl [])))) (h : SGo C all pu rest ⟨(d, .d (.sl ys)) :: tm, ob⟩ K) : SGo C all pu (o :: rest) ⟨tm, ob⟩ K := by
 refine SGo.vop (guardX_ok hg) (by simp only [dstOK, hdst]; exact hd) (v_callR ho hf hb hz hob hp h0) ?_
 rw [hdst]
 exact h
theorem iL_plain (l : List Int) : ∀ y ∈ iL l, ∀ c ∈ y.cells, c.plain = true := fun y hy c hc => by
 obtain ⟨u, -, rfl⟩ := List.mem_map.1 hy
 rw [show (D.int u).cells = [D.int u] from rfl, List.mem_singleton] at hc
 subst hc
 rfl
attribute [local irreducible] go SGo HasBody Ev ExtEv EvO EvS RGo PGo
theorem cloneI0_ev : Ev E 141 [.sl []] (.d (.sl [])) := by
 refine ye1 func141 ntmps141 fun _ _ _=>?_
 repeat' (first | refine yz ?_ | (refine go_condm rfl (fun _ => ?_) ?_) | refine go_append0 rfl rfl rfl rfl rfl rfl rfl rfl ?_ | exact zD)
theorem cloneI_evO (l : List Int) (h0 : l ≠ []) (hn : l.length ≤ 2000000) : EvO E 141 [.sl (iL l)] 3 1 (iL l) := by
 have hle := iL_len l
 have hne : iL l ≠ [] := fun h => h0 ((iL_nil l).1 h)
 have hc := iL_cells l
 generalize iL l = xs at *
 refine enterO1 func141 ntmps141 rfl rfl fun w0 F0 O => ?_
 repeat' (first | refine go_buildOwn rfl rfl rfl rfl rfl rfl rfl (by decide) (by decide) ?_ | refine yz ?_ | (refine go_condm rfl (fun h => absurd h hne) ?_))
 refine qS rfl ⟨hne, hc, by (show (0 + xs.length) * 8 ≤ 140737488355328; omega), by (show 0 + xs.length ≤ 9223372036854775807; omega)⟩ ?_
 repeat' (first | refine yz ?_ | exact zL)
theorem clone_or (l : List Int) (hn : l.length ≤ 2000000) : EvO E 141 [.sl (iL l)] 3 1 (iL l) ∨ (iL l = [] ∧ Ev E 141 [.sl (iL l)] (.d (.sl []))) := by
 by_cases h0 : l = []
 ·subst h0
  exact .inr ⟨rfl, cloneI0_ev⟩
 ·exact .inl (cloneI_evO l h0 hn)
def finQ (l : List RVq) : Nat → Nat → List Int → List Int
 | 0, _, t => t
 | k + 1, v, t => (candQ l v).foldl (fun t id => bif okQ l v (t.set v id) then finQ l k (v + 1) (t.set v id) else t.set v id) t
def nxQ (l : List RVq) (k v : Nat) (t : List Int) (id : Int) : List Int := bif okQ l v (t.set v id) then finQ l k (v + 1) (t.set v id) else t.set v id
theorem finQ_ok (l : List RVq) : ∀ (k v : Nat) (t : List Int), (finQ l k v t).length = t.length ∧ (finQ l k v t).take v = t.take v
 | 0, _, _ => ⟨rfl, rfl⟩
 | k + 1, v, t => by
  have key : ∀ (c : List Int) (t : List Int), (c.foldl (nxQ l k v) t).length = t.length ∧ (c.foldl (nxQ l k v) t).take v = t.take v := by
   intro c
   induction c with
   | nil => intro t; exact ⟨rfl, rfl⟩
   | cons id c ih =>
    intro t
    obtain ⟨h1, h2⟩ := ih (nxQ l k v t id)
    have hn : (nxQ l k v t id).length = t.length ∧ (nxQ l k v t id).take v = t.take v := by
     unfold nxQ
     cases okQ l v (t.set v id) with
     | false => exact ⟨by simp, by rw [cond_false, List.take_set_of_le (Nat.le_refl _)]⟩
     | true =>
      obtain ⟨a, b⟩ := finQ_ok l k (v + 1) (t.set v id)
      refine ⟨by rw [cond_true, a]; simp, ?_⟩
      have := congrArg (List.take v) b
      rw [List.take_take, List.take_take, Nat.min_eq_left (by omega), List.take_set_of_le (Nat.le_refl _)] at this
      exact this
    exact ⟨h1.trans hn.1, h2.trans hn.2⟩
  exact key (candQ l v) t
theorem nxQ_ok (l : List RVq) (k v : Nat) (t : List Int) (id : Int) : (nxQ l k v t id).length = t.length ∧ (nxQ l k v t id).take v = t.take v := by
 unfold nxQ
 cases okQ l v (t.set v id) with
 | false => exact ⟨by simp, by rw [cond_false, List.take_set_of_le (Nat.le_refl _)]⟩
 | true =>
  obtain ⟨a, b⟩ := finQ_ok l k (v + 1) (t.set v id)
  refine ⟨by rw [cond_true, a]; simp, ?_⟩
  have := congrArg (List.take v) b
  rw [List.take_take, List.take_take, Nat.min_eq_left (by omega), List.take_set_of_le (Nat.le_refl _)] at this
  exact this
theorem take_setQ {t : List Int} {v : Nat} (h : v < t.length) (id : Int) : (t.set v id).take (v + 1) = t.take v ++ [id] := by
 rw [List.take_add_one, List.getElem?_set_self h, List.take_set_of_le (Nat.le_refl _)]
 rfl
def restQ (l : List RVq) (k : Nat) (p : List Int) (c : List Int) : List (List Int) := c.flatMap fun id => bif okQ l p.length (p ++ [id]) then stepQ l k (p ++ [id]) else []
theorem restQ_cons (l : List RVq) (k : Nat) (p : List Int) (id : Int) (c : List Int) : restQ l k p (id :: c) = (bif okQ l p.length (p ++ [id]) then stepQ l k (p ++ [id]) else []) ++ restQ l k p c := rfl
theorem stepQ_rest (l : List RVq) (k : Nat) (p : List Int) : stepQ l (k + 1) p = restQ l k p (candQ l p.length) := rfl
end Go.Proofs.YtenpjlghikohmaaGreatDoor
namespace Go.Proofs.YtenpjlghikohmaaGreatDoor
set_option maxRecDepth 4000
open Go Go.Abs Go.Val Go.RowKit Go.Sort Go.Proofs Go.Proofs.Tryz
attribute [local irreducible] go SGo HasBody Ev ExtEv EvO EvS RGo PGo
structure HypQ (l : List RVq) (n : Nat) : Prop where
 few : l.length ≤ 1000
 nle : n ≤ 1000
 ok : ∀ r ∈ l, RokQ r n ∧ r.rows.length ≤ 1000000
 us : ∀ v : Nat, v < n → ∃ r ∈ l, r.vs.contains (v : Int) = true
 rg : ∀ v : Nat, ∀ r ∈ l, ∀ z ∈ sortZ (colQ r v), Go.Abs.okV (.int .i64 z) = true
theorem candQ_len {l : List RVq} (h : ∀ r ∈ l, r.rows.length ≤ 1000000) (v : Nat) : (candQ l v).length ≤ 1000000 := by
 unfold candQ
 split
 ·simp
 ·split
  ·simp
  ·rename_i r hr
   have h1 := h r (List.mem_of_getElem? hr)
   have h2 := vrs_len (r.rows.map fun row => row.getD (idxQ r.vs v) 0)
   rw [List.length_map] at h2
   omega
structure SStq (l : List RVq) (k v n : Nat) (P C : List Int) (F : List Int) (S : List (List Int)) where
 i : Nat
 t : List Int
 o : List (List Int)
 hi : i ≤ C.length
 ht : t.length = n
 hp : t.take v = P
 hF : F = (C.drop i).foldl (nxQ l k v) t
 hS : S = o ++ restQ l k P (C.drop i)
structure SSuq (l : List RVq) (f : RVq → Bool) where
 j : Nat
 hj : j ≤ l.length
 ok : ∀ m, m < j → ∀ r, l[m]? = some r → f r = true
theorem rL_append (a b : List (List Int)) : rL (a ++ b) = rL a ++ rL b := by simp [rL]
theorem iLq_set (t : List Int) (v : Nat) (x : Int) : (iL t).set v (.int x) = iL (t.set v x) := by unfold iL; rw [List.map_set]
theorem foldl_cons (l : List RVq) (k v : Nat) (id : Int) (c t : List Int) : (id :: c).foldl (nxQ l k v) t = c.foldl (nxQ l k v) (nxQ l k v t id) := rfl
set_option maxHeartbeats 16000000 in
theorem step_evS (l : List RVq) (n : Nat) (hw : HypQ l n) : ∀ (k v : Nat) (t : List Int) (ou : List D), t.length = n → v + k = n → ou.length + (stepQ l k (t.take v)).length ≤ 1000000 →
  EvS E 54 [.ptr 0 0, .d (.int v)] [srch l (.own 1) (fX 2 ou), rwI t, oOu ou] (.tup []) [srch l (.own 1) (fX 3 (ou ++ rL (stepQ l k (t.take v)))), rwI (finQ l k v t), .dead, oOu (ou ++ rL (stepQ l k (t.take v)))] := by
 intro k
 induction k with
 | zero =>
  intro v t ou ht hv hn
  have hlt := iL_len t
  have g0 : ((v : Int) == ((iL t).length : Int)) = true := by rw [hlt]; simp; omega
  have hnl := hw.nle
  have hcl := clone_or t (by omega)
  have hpl := iL_plain t
  have htk : t.take v = t := List.take_of_length_le (by omega)
  have hou : ou.length ≤ 1000000 := by omega
  rw [show stepQ l 0 (t.take v) = [t.take v] from rfl, htk, show finQ l 0 v t = t from rfl, show rL [t] = [.sl (iL t)] from rfl]
  clear hw hn
  match ou, hou with
  | [], _ =>
   show EvS E 54 [.ptr 0 0, .d (.int v)] [srch l (.own 1) .nilS, rwI t, .dead] (.tup []) [srch l (.own 1) (.own 3), rwI t, .dead, .row 46 1 [.sl (iL t)]]
   refine yn func54 ntmps54 fun _ _ _ _=>?_
   repeat' (first | refine yu 1 [11,14] [0,2] ?_ | refine yk 1 0 1 ?_ | refine yf 1 1 10 ?_ | refine yf 1 12 2 ?_ | refine yw ?_ | refine rgN ?_ | refine yv ?_ | refine yz ?_ | refine qScope (fun _ _ h => h) ?_ | (refine go_callR rfl rfl rfl rfl rfl rfl rfl b141 hpl hcl ?_) | refine rgS (id := 1) (i := 11) rfl rfl rfl rfl (⟨by simp, fun d hd => by (obtain rfl := List.mem_singleton.1 hd; rfl), by (show (0 + 1) * 24 ≤ 140737488355328; omega), by (show 0 + 1 ≤ 9223372036854775807; omega)⟩) (by repeat (first | exact trivial | refine ⟨⟨rfl, rfl⟩, ?_⟩ | refine ⟨trivial, ?_⟩)) ?_ | refine retS0 [0, 1, 2, 3] rfl rfl rfl rfl)
  | o0 :: or, hou =>
   show EvS E 54 [.ptr 0 0, .d (.int v)] [srch l (.own 1) (.own 2), rwI t, .row 46 1 (o0 :: or)] (.tup []) [srch l (.own 1) (.own 3), rwI t, .dead, .row 46 1 (o0 :: or ++ [.sl (iL t)])]
   refine yn func54 ntmps54 fun _ _ _ _=>?_
   repeat' (first | refine yu 1 [11,14] [0,2] ?_ | refine yk 1 0 1 ?_ | refine yf 1 1 10 ?_ | refine yf 1 12 2 ?_ | refine yw ?_ | refine rgN ?_ | refine yv ?_ | refine yz ?_ | refine qScope (fun _ _ h => h) ?_ | (refine go_callR rfl rfl rfl rfl rfl rfl rfl b141 hpl hcl ?_) | refine rgS (id := 1) (i := 11) rfl rfl rfl rfl (⟨by simp, fun d hd => by (obtain rfl := List.mem_singleton.1 hd; rfl), by (show ((o0 :: or : List D).length + 1) * 24 ≤ 140737488355328; omega), by (show (o0 :: or : List D).length + 1 ≤ 9223372036854775807; omega)⟩) (by repeat (first | exact trivial | refine ⟨⟨rfl, rfl⟩, ?_⟩ | refine ⟨trivial, ?_⟩)) ?_ | refine retS0 [0, 1, 2, 3] rfl rfl rfl rfl)
 | succ k ih =>
  intro v t ou ht hv hn
  have hlt := iL_len t
  have g0 : ((v : Int) == ((iL t).length : Int)) = false := by rw [hlt]; simp; omega
  have hnl := hw.nle
  have hfew := hw.few
  have hvn : v < n := by omega
  have hPl : (t.take v).length = v := by rw [List.length_take]; omega
  have hca := cand_evS l v t ou (by omega) (hw.us v hvn) (fun r hr => by rw [ht]; exact hw.ok r hr) (hw.rg v)
  have hok := hw.ok
  have hlo : ∀ r ∈ l, ∀ v ∈ r.vs, 0 ≤ v := fun r hr => (hw.ok r hr).1.lo
  rw [stepQ_rest, hPl] at hn ⊢
  rw [show finQ l (k + 1) v t = (candQ l v).foldl (nxQ l k v) t from rfl]
  have hCn := candQ_len (fun r hr => (hw.ok r hr).2) v
  generalize hPP : t.take v = P at *
  generalize candQ l v = C at *
  generalize hSS : restQ l k P C = S at *
  generalize hFF : C.foldl (nxQ l k v) t = F at *
  have hCl := iL_len C
  have hl2 : (l.map vrD).length = l.length := by simp
  match ou, hca, hn with
  | [], hca, hn =>
   have e0 : ([] : List D) ++ rL [] = [] := rfl
   dsimp only [fX, fO] at hca
   show EvS E 54 [.ptr 0 0, .d (.int v)] [srch l (.own 1) .nilS, rwI t, .dead] (.tup []) _
   refine yn func54 ntmps54 fun _ _ _ _=>?_
   repeat' (first | refine yz ?_ | refine qScope (fun _ _ h => h) ?_ | refine qLabel ?_ | refine yc [0, 1, 2] b142 (hca) ?_)
   refine go_loop_ (α := SStq l k v n P C F S) (fun p => ⟨[(0, .ptr 0 0), (1, .d (.int v)), (31, .d (.sl (iL C))), (32, .d (.int (iL C).length)), (33, .d (.int p.i))], [srch l (.own 1) (fX 3 ([] ++ rL p.o)), rwI p.t, .dead, oOu ([] ++ rL p.o)]⟩) (fun p => C.length - p.i) ⟨0, t, [], by omega, ht, hPP, hFF.symm, by rw [← hSS]; rfl⟩ (by dsimp only; rw [e0]; exact Le.trans (Le.move 2 rfl) (zle 4)) ?_
   rintro ⟨i, t1, o, hi, ht1, hp1, hF, hS⟩
   dsimp only
   have hlt1 := iL_len t1
   have happ : ∀ s, ([] : List D) ++ rL (o ++ s) = ([] ++ rL o) ++ rL s := fun s => by rw [rL_append, List.append_assoc]
   have hol : (([] : List D) ++ rL o).length ≤ 1000000 := by
    rw [List.length_append, rL_len]
    rw [hS, List.length_append] at hn
    simp only [List.length_cons, List.length_nil] at hn ⊢
    omega
   rcases Nat.lt_or_ge i C.length with hlt2 | hge
   ·have g1 : decide ((i : Int) < ((iL C).length : Int)) = true := by rw [hCl]; simpa using hlt2
    have hx0 := List.getElem?_eq_getElem hlt2
    generalize C[i] = id at hx0
    have hx := iL_get hx0
    rw [drop_at hx0, foldl_cons] at hF
    rw [drop_at hx0, restQ_cons, hPl] at hS
    have hold := iL_getD (show v < t1.length by omega)
    have hset := iLq_set t1 v id
    have g5 : (0 : Int) ≤ (v : Int) ∧ (v : Int) < ((iL t1).length : Int) := by rw [hlt1]; omega
    have htk := take_setQ (show v < t1.length by omega) id
    rw [hp1] at htk
    have hokE : okQ l v (P ++ [id]) = okQ l v (t1.set v id) := okQ_take hlo fun j hj => by rw [← htk, getD_take hj]
    have hnx : nxQ l k v t1 id = bif okQ l v (t1.set v id) then finQ l k (v + 1) (t1.set v id) else t1.set v id := rfl
    have ht2l : (t1.set v id).length = n := by simp [ht1]
    obtain ⟨hn1, hn2⟩ := nxQ_ok l k v t1 id
    rw [ht1] at hn1
    rw [hp1] at hn2
    rw [hokE] at hS
    have hfit := fun (j : Nat) r (h : l[j]? = some r) oo => fits_evS l r j (v + 1) (t1.set v id) oo h (by rw [ht2l]; exact (hok r (List.mem_of_getElem? h)).1) (by have := (hok r (List.mem_of_getElem? h)).2; omega)
    have hst := fun oo h => ih (v + 1) (t1.set v id) oo ht2l (by omega) h
    rw [htk] at hst
    generalize hS1 : stepQ l k (P ++ [id]) = S1 at *
    generalize finQ l k (v + 1) (t1.set v id) = F1 at *
    generalize hT2 : t1.set v id = t2 at *
    have hokd : okQ l v t2 = l.all fun r => !r.vs.contains (v : Int) || fitQ r (v + 1) t2 := rfl
    generalize hoo : ([] : List D) ++ rL o = oo at *
    match oo, hol with
    | [], hol =>
     have hfit := fun j r h => hfit j r h []
     have hst := hst []
     dsimp only [fX, fO] at hfit ⊢
     repeat' (first | refine yz ?_ | refine yi (.int id) hx ?_ | refine qZ (.int (t1.getD v 0)) rfl rfl rfl rfl rfl rfl hold rfl rfl rfl ?_)
     refine go_loop_ (α := SSuq l fun r => !r.vs.contains (v : Int) || fitQ r (v + 1) t2) (fun q => ⟨[(0, .ptr 0 0), (1, .d (.int v)), (31, .d (.sl (iL C))), (32, .d (.int (iL C).length)), (33, .d (.int i)), (47, .d (.sl (l.map vrD))), (48, .d (.int (l.map vrD).length)), (49, .d (.int q.j))], [srch l (.own 1) .nilS, rwI t2, .dead, .dead]⟩) (fun q => l.length - q.j) ⟨0, by omega, fun m hm => by omega⟩ (by
      dsimp only
      show Le _ ⟨_, [srch l (.own 1) .nilS, .row 3 1 ((iL t1).set v (.int id)), .dead, .dead]⟩ _
      rw [hset]
      exact (zle 4)) ?_
     rintro ⟨j, hj, okj⟩
     dsimp only
     rcases Nat.lt_or_ge j l.length with hjl | hjg
     ·have g2 : decide ((j : Int) < ((l.map vrD).length : Int)) = true := by rw [hl2]; simpa using hjl
      have hr0 := List.getElem?_eq_getElem hjl
      have hrm : l[j] ∈ l := List.getElem_mem hjl
      generalize l[j] = r at hr0 hrm
      have hrv : (l.map vrD)[((j : Nat) : Int).toNat]? = some (.sl (iL r.vs)) := map_at (f := vrD) hr0
      have hct := containsI_ev r.vs (v : Int)
      have hft := hfit j r hr0
      cases c1 : r.vs.contains (v : Int) with
      | false =>
       rw [c1] at hct
       repeat' (first | refine yz ?_ | refine qI (.sl (iL r.vs)) rfl (guardX_ok rfl) rfl rfl rfl rfl rfl rfl (by first | omega | decide) hrv ?_ | refine yp b132 hct ?_)
       refine go_stop ?_
       refine ⟨⟨j + 1, by omega, fun m hm r' hr' => ?_⟩, by dsimp only; omega, (zle 4)⟩
       rcases Nat.lt_or_ge m j with h | h
       ·exact okj m h r' hr'
       ·rw [show m = j by omega, hr0] at hr'
        cases hr'
        rw [c1]; rfl
      | true =>
       rw [c1] at hct
       cases c2 : fitQ r (v + 1) t2 with
       | true =>
        rw [c2] at hft
        repeat' (first | refine yz ?_ | refine qI (.sl (iL r.vs)) rfl (guardX_ok rfl) rfl rfl rfl rfl rfl rfl (by first | omega | decide) hrv ?_ | refine yp b132 hct ?_ | refine yc [0, 1, 3] b143 (hft) ?_)
        refine go_stop ?_
        refine ⟨⟨j + 1, by omega, fun m hm r' hr' => ?_⟩, by dsimp only; omega, (zle 4)⟩
        rcases Nat.lt_or_ge m j with h | h
        ·exact okj m h r' hr'
        ·rw [show m = j by omega, hr0] at hr'
         cases hr'
         rw [c2, Bool.or_true]
       | false =>
        rw [c2] at hft
        have hno : okQ l v t2 = false := by
         rw [hokd, List.all_eq_false]
         exact ⟨r, hrm, by rw [c1, c2]; simp⟩
        rw [hno, cond_false] at hnx
        rw [hno, cond_false, List.nil_append] at hS
        rw [hnx] at hF
        rw [hnx] at hn2
        repeat' (first | refine yz ?_ | refine qI (.sl (iL r.vs)) rfl (guardX_ok rfl) rfl rfl rfl rfl rfl rfl (by first | omega | decide) hrv ?_ | refine yp b132 hct ?_ | refine yc [0, 1, 3] b143 (hft) ?_)
        refine go_stop ?_
        refine ⟨⟨i + 1, t2, o, by omega, ht2l, hn2, hF, hS⟩, by dsimp only; omega, ?_⟩
        dsimp only
        rw [hoo]
        exact (zle 4)
     ·have g2 : decide ((j : Int) < ((l.map vrD).length : Int)) = false := by rw [hl2]; simp; omega
      have hyes : okQ l v t2 = true := by
       rw [hokd, List.all_eq_true]
       intro r hr
       obtain ⟨m, hm⟩ := List.getElem?_of_mem hr
       exact okj m (by have := (List.getElem?_eq_some_iff.1 hm).1; omega) r hm
      rw [hyes, cond_true] at hnx
      rw [hyes, cond_true, ← List.append_assoc] at hS
      rw [hnx] at hF hn1 hn2
      have hst := hst (by
       have h1 := congrArg List.length hoo
       rw [List.length_append, rL_len] at h1
       rw [hS, List.length_append, List.length_append] at hn
       simp only [List.length_cons, List.length_nil] at h1 hn ⊢
       omega)
      have happ1 := happ S1
      generalize hoo2 : ([] : List D) ++ rL S1 = oo2 at *
      match oo2 with
      | [] =>
       dsimp only [fX, fO] at hst
       repeat' (first | refine yz ?_ | refine yc [0, 1, 3] b54 (hst) ?_)
       refine go_stop ?_
       refine ⟨⟨i + 1, F1, o ++ S1, by omega, hn1, hn2, hF, hS⟩, by dsimp only; omega, ?_⟩
       dsimp only
       rw [happ1]
       exact (zren [0, 1, 2, 4])
      | w0 :: wr =>
       dsimp only [fX, fO] at hst
       repeat' (first | refine yz ?_ | refine yc [0, 1, 3] b54 (hst) ?_)
       refine go_stop ?_
       refine ⟨⟨i + 1, F1, o ++ S1, by omega, hn1, hn2, hF, hS⟩, by dsimp only; omega, ?_⟩
       dsimp only
       rw [happ1]
       exact (zren [0, 1, 2, 4])
    | q0 :: qr, hol =>
     have hfit := fun j r h => hfit j r h (q0 :: qr)
     have hst := hst (q0 :: qr)
     dsimp only [fX, fO] at hfit ⊢
     repeat' (first | refine yz ?_ | refine yi (.int id) hx ?_ | refine qZ (.int (t1.getD v 0)) rfl rfl rfl rfl rfl rfl hold rfl rfl rfl ?_)
     refine go_loop_ (α := SSuq l fun r => !r.vs.contains (v : Int) || fitQ r (v + 1) t2) (fun q => ⟨[(0, .ptr 0 0), (1, .d (.int v)), (31, .d (.sl (iL C))), (32, .d (.int (iL C).length)), (33, .d (.int i)), (47, .d (.sl (l.map vrD))), (48, .d (.int (l.map vrD).length)), (49, .d (.int q.j))], [srch l (.own 1) (.own 3), rwI t2, .dead, .row 46 1 (q0 :: qr)]⟩) (fun q => l.length - q.j) ⟨0, by omega, fun m hm => by omega⟩ (by
      dsimp only
      show Le _ ⟨_, [srch l (.own 1) (.own 3), .row 3 1 ((iL t1).set v (.int id)), .dead, .row 46 1 (q0 :: qr)]⟩ _
      rw [hset]
      exact (zle 4)) ?_
     rintro ⟨j, hj, okj⟩
     dsimp only
     rcases Nat.lt_or_ge j l.length with hjl | hjg
     ·have g2 : decide ((j : Int) < ((l.map vrD).length : Int)) = true := by rw [hl2]; simpa using hjl
      have hr0 := List.getElem?_eq_getElem hjl
      have hrm : l[j] ∈ l := List.getElem_mem hjl
      generalize l[j] = r at hr0 hrm
      have hrv : (l.map vrD)[((j : Nat) : Int).toNat]? = some (.sl (iL r.vs)) := map_at (f := vrD) hr0
      have hct := containsI_ev r.vs (v : Int)
      have hft := hfit j r hr0
      cases c1 : r.vs.contains (v : Int) with
      | false =>
       rw [c1] at hct
       repeat' (first | refine yz ?_ | refine qI (.sl (iL r.vs)) rfl (guardX_ok rfl) rfl rfl rfl rfl rfl rfl (by first | omega | decide) hrv ?_ | refine yp b132 hct ?_)
       refine go_stop ?_
       refine ⟨⟨j + 1, by omega, fun m hm r' hr' => ?_⟩, by dsimp only; omega, (zle 4)⟩
       rcases Nat.lt_or_ge m j with h | h
       ·exact okj m h r' hr'
       ·rw [show m = j by omega, hr0] at hr'
        cases hr'
        rw [c1]; rfl
      | true =>
       rw [c1] at hct
       cases c2 : fitQ r (v + 1) t2 with
       | true =>
        rw [c2] at hft
        repeat' (first | refine yz ?_ | refine qI (.sl (iL r.vs)) rfl (guardX_ok rfl) rfl rfl rfl rfl rfl rfl (by first | omega | decide) hrv ?_ | refine yp b132 hct ?_ | refine yc [0, 1, 3] b143 (hft) ?_)
        refine go_stop ?_
        refine ⟨⟨j + 1, by omega, fun m hm r' hr' => ?_⟩, by dsimp only; omega, (zle 4)⟩
        rcases Nat.lt_or_ge m j with h | h
        ·exact okj m h r' hr'
        ·rw [show m = j by omega, hr0] at hr'
         cases hr'
         rw [c2, Bool.or_true]
       | false =>
        rw [c2] at hft
        have hno : okQ l v t2 = false := by
         rw [hokd, List.all_eq_false]
         exact ⟨r, hrm, by rw [c1, c2]; simp⟩
        rw [hno, cond_false] at hnx
        rw [hno, cond_false, List.nil_append] at hS
        rw [hnx] at hF
        rw [hnx] at hn2
        repeat' (first | refine yz ?_ | refine qI (.sl (iL r.vs)) rfl (guardX_ok rfl) rfl rfl rfl rfl rfl rfl (by first | omega | decide) hrv ?_ | refine yp b132 hct ?_ | refine yc [0, 1, 3] b143 (hft) ?_)
        refine go_stop ?_
        refine ⟨⟨i + 1, t2, o, by omega, ht2l, hn2, hF, hS⟩, by dsimp only; omega, ?_⟩
        dsimp only
        rw [hoo]
        exact (zle 4)
     ·have g2 : decide ((j : Int) < ((l.map vrD).length : Int)) = false := by rw [hl2]; simp; omega
      have hyes : okQ l v t2 = true := by
       rw [hokd, List.all_eq_true]
       intro r hr
       obtain ⟨m, hm⟩ := List.getElem?_of_mem hr
       exact okj m (by have := (List.getElem?_eq_some_iff.1 hm).1; omega) r hm
      rw [hyes, cond_true] at hnx
      rw [hyes, cond_true, ← List.append_assoc] at hS
      rw [hnx] at hF hn1 hn2
      have hst := hst (by
       have h1 := congrArg List.length hoo
       rw [List.length_append, rL_len] at h1
       rw [hS, List.length_append, List.length_append] at hn
       simp only [List.length_cons, List.length_nil] at h1 hn ⊢
       omega)
      have happ1 := happ S1
      generalize hoo2 : ((q0 :: qr) : List D) ++ rL S1 = oo2 at *
      match oo2 with
      | [] =>
       dsimp only [fX, fO] at hst
       repeat' (first | refine yz ?_ | refine yc [0, 1, 3] b54 (hst) ?_)
       refine go_stop ?_
       refine ⟨⟨i + 1, F1, o ++ S1, by omega, hn1, hn2, hF, hS⟩, by dsimp only; omega, ?_⟩
       dsimp only
       rw [happ1]
       exact (zren [0, 1, 2, 4])
      | w0 :: wr =>
       dsimp only [fX, fO] at hst
       repeat' (first | refine yz ?_ | refine yc [0, 1, 3] b54 (hst) ?_)
       refine go_stop ?_
       refine ⟨⟨i + 1, F1, o ++ S1, by omega, hn1, hn2, hF, hS⟩, by dsimp only; omega, ?_⟩
       dsimp only
       rw [happ1]
       exact (zren [0, 1, 2, 4])
   ·have g1 : decide ((i : Int) < ((iL C).length : Int)) = false := by rw [hCl]; simp; omega
    rw [List.drop_eq_nil_of_le hge] at hF hS
    have hS : S = o := by rw [hS]; simp [restQ]
    have hF : F = t1 := hF
    rw [hS, hF]
    generalize ([] : List D) ++ rL o = oo at *
    match oo with
    | [] =>
     dsimp only [fX, fO]
     repeat' (first | refine yz ?_ | refine yo [0, 1, 2, 3])
    | q0 :: qr =>
     dsimp only [fX, fO]
     repeat' (first | refine yz ?_ | refine yo [0, 1, 2, 3])
  | o0 :: or, hca, hn =>
   have e0 : (o0 :: or : List D) ++ rL [] = o0 :: or := by simp [rL]
   dsimp only [fX, fO] at hca
   show EvS E 54 [.ptr 0 0, .d (.int v)] [srch l (.own 1) (.own 2), rwI t, .row 46 1 (o0 :: or)] (.tup []) _
   refine yn func54 ntmps54 fun _ _ _ _=>?_
   repeat' (first | refine yz ?_ | refine qScope (fun _ _ h => h) ?_ | refine qLabel ?_ | refine yc [0, 1, 2] b142 (hca) ?_)
   refine go_loop_ (α := SStq l k v n P C F S) (fun p => ⟨[(0, .ptr 0 0), (1, .d (.int v)), (31, .d (.sl (iL C))), (32, .d (.int (iL C).length)), (33, .d (.int p.i))], [srch l (.own 1) (fX 3 ((o0 :: or) ++ rL p.o)), rwI p.t, .dead, oOu ((o0 :: or) ++ rL p.o)]⟩) (fun p => C.length - p.i) ⟨0, t, [], by omega, ht, hPP, hFF.symm, by rw [← hSS]; rfl⟩ (by dsimp only; rw [e0]; exact Le.trans (Le.move 2 rfl) (zle 4)) ?_
   rintro ⟨i, t1, o, hi, ht1, hp1, hF, hS⟩
   dsimp only
   have hlt1 := iL_len t1
   have happ : ∀ s, ((o0 :: or) : List D) ++ rL (o ++ s) = ((o0 :: or) ++ rL o) ++ rL s := fun s => by rw [rL_append, List.append_assoc]
   have hol : (((o0 :: or) : List D) ++ rL o).length ≤ 1000000 := by
    rw [List.length_append, rL_len]
    rw [hS, List.length_append] at hn
    simp only [List.length_cons, List.length_nil] at hn ⊢
    omega
   rcases Nat.lt_or_ge i C.length with hlt2 | hge
   ·have g1 : decide ((i : Int) < ((iL C).length : Int)) = true := by rw [hCl]; simpa using hlt2
    have hx0 := List.getElem?_eq_getElem hlt2
    generalize C[i] = id at hx0
    have hx := iL_get hx0
    rw [drop_at hx0, foldl_cons] at hF
    rw [drop_at hx0, restQ_cons, hPl] at hS
    have hold := iL_getD (show v < t1.length by omega)
    have hset := iLq_set t1 v id
    have g5 : (0 : Int) ≤ (v : Int) ∧ (v : Int) < ((iL t1).length : Int) := by rw [hlt1]; omega
    have htk := take_setQ (show v < t1.length by omega) id
    rw [hp1] at htk
    have hokE : okQ l v (P ++ [id]) = okQ l v (t1.set v id) := okQ_take hlo fun j hj => by rw [← htk, getD_take hj]
    have hnx : nxQ l k v t1 id = bif okQ l v (t1.set v id) then finQ l k (v + 1) (t1.set v id) else t1.set v id := rfl
    have ht2l : (t1.set v id).length = n := by simp [ht1]
    obtain ⟨hn1, hn2⟩ := nxQ_ok l k v t1 id
    rw [ht1] at hn1
    rw [hp1] at hn2
    rw [hokE] at hS
    have hfit := fun (j : Nat) r (h : l[j]? = some r) oo => fits_evS l r j (v + 1) (t1.set v id) oo h (by rw [ht2l]; exact (hok r (List.mem_of_getElem? h)).1) (by have := (hok r (List.mem_of_getElem? h)).2; omega)
    have hst := fun oo h => ih (v + 1) (t1.set v id) oo ht2l (by omega) h
    rw [htk] at hst
    generalize hS1 : stepQ l k (P ++ [id]) = S1 at *
    generalize finQ l k (v + 1) (t1.set v id) = F1 at *
    generalize hT2 : t1.set v id = t2 at *
    have hokd : okQ l v t2 = l.all fun r => !r.vs.contains (v : Int) || fitQ r (v + 1) t2 := rfl
    generalize hoo : ((o0 :: or) : List D) ++ rL o = oo at *
    match oo, hol with
    | [], hol =>
     have hfit := fun j r h => hfit j r h []
     have hst := hst []
     dsimp only [fX, fO] at hfit ⊢
     repeat' (first | refine yz ?_ | refine yi (.int id) hx ?_ | refine qZ (.int (t1.getD v 0)) rfl rfl rfl rfl rfl rfl hold rfl rfl rfl ?_)
     refine go_loop_ (α := SSuq l fun r => !r.vs.contains (v : Int) || fitQ r (v + 1) t2) (fun q => ⟨[(0, .ptr 0 0), (1, .d (.int v)), (31, .d (.sl (iL C))), (32, .d (.int (iL C).length)), (33, .d (.int i)), (47, .d (.sl (l.map vrD))), (48, .d (.int (l.map vrD).length)), (49, .d (.int q.j))], [srch l (.own 1) .nilS, rwI t2, .dead, .dead]⟩) (fun q => l.length - q.j) ⟨0, by omega, fun m hm => by omega⟩ (by
      dsimp only
      show Le _ ⟨_, [srch l (.own 1) .nilS, .row 3 1 ((iL t1).set v (.int id)), .dead, .dead]⟩ _
      rw [hset]
      exact (zle 4)) ?_
     rintro ⟨j, hj, okj⟩
     dsimp only
     rcases Nat.lt_or_ge j l.length with hjl | hjg
     ·have g2 : decide ((j : Int) < ((l.map vrD).length : Int)) = true := by rw [hl2]; simpa using hjl
      have hr0 := List.getElem?_eq_getElem hjl
      have hrm : l[j] ∈ l := List.getElem_mem hjl
      generalize l[j] = r at hr0 hrm
      have hrv : (l.map vrD)[((j : Nat) : Int).toNat]? = some (.sl (iL r.vs)) := map_at (f := vrD) hr0
      have hct := containsI_ev r.vs (v : Int)
      have hft := hfit j r hr0
      cases c1 : r.vs.contains (v : Int) with
      | false =>
       rw [c1] at hct
       repeat' (first | refine yz ?_ | refine qI (.sl (iL r.vs)) rfl (guardX_ok rfl) rfl rfl rfl rfl rfl rfl (by first | omega | decide) hrv ?_ | refine yp b132 hct ?_)
       refine go_stop ?_
       refine ⟨⟨j + 1, by omega, fun m hm r' hr' => ?_⟩, by dsimp only; omega, (zle 4)⟩
       rcases Nat.lt_or_ge m j with h | h
       ·exact okj m h r' hr'
       ·rw [show m = j by omega, hr0] at hr'
        cases hr'
        rw [c1]; rfl
      | true =>
       rw [c1] at hct
       cases c2 : fitQ r (v + 1) t2 with
       | true =>
        rw [c2] at hft
        repeat' (first | refine yz ?_ | refine qI (.sl (iL r.vs)) rfl (guardX_ok rfl) rfl rfl rfl rfl rfl rfl (by first | omega | decide) hrv ?_ | refine yp b132 hct ?_ | refine yc [0, 1, 3] b143 (hft) ?_)
        refine go_stop ?_
        refine ⟨⟨j + 1, by omega, fun m hm r' hr' => ?_⟩, by dsimp only; omega, (zle 4)⟩
        rcases Nat.lt_or_ge m j with h | h
        ·exact okj m h r' hr'
        ·rw [show m = j by omega, hr0] at hr'
         cases hr'
         rw [c2, Bool.or_true]
       | false =>
        rw [c2] at hft
        have hno : okQ l v t2 = false := by
         rw [hokd, List.all_eq_false]
         exact ⟨r, hrm, by rw [c1, c2]; simp⟩
        rw [hno, cond_false] at hnx
        rw [hno, cond_false, List.nil_append] at hS
        rw [hnx] at hF
        rw [hnx] at hn2
        repeat' (first | refine yz ?_ | refine qI (.sl (iL r.vs)) rfl (guardX_ok rfl) rfl rfl rfl rfl rfl rfl (by first | omega | decide) hrv ?_ | refine yp b132 hct ?_ | refine yc [0, 1, 3] b143 (hft) ?_)
        refine go_stop ?_
        refine ⟨⟨i + 1, t2, o, by omega, ht2l, hn2, hF, hS⟩, by dsimp only; omega, ?_⟩
        dsimp only
        rw [hoo]
        exact (zle 4)
     ·have g2 : decide ((j : Int) < ((l.map vrD).length : Int)) = false := by rw [hl2]; simp; omega
      have hyes : okQ l v t2 = true := by
       rw [hokd, List.all_eq_true]
       intro r hr
       obtain ⟨m, hm⟩ := List.getElem?_of_mem hr
       exact okj m (by have := (List.getElem?_eq_some_iff.1 hm).1; omega) r hm
      rw [hyes, cond_true] at hnx
      rw [hyes, cond_true, ← List.append_assoc] at hS
      rw [hnx] at hF hn1 hn2
      have hst := hst (by
       have h1 := congrArg List.length hoo
       rw [List.length_append, rL_len] at h1
       rw [hS, List.length_append, List.length_append] at hn
       simp only [List.length_cons, List.length_nil] at h1 hn ⊢
       omega)
      have happ1 := happ S1
      generalize hoo2 : ([] : List D) ++ rL S1 = oo2 at *
      match oo2 with
      | [] =>
       dsimp only [fX, fO] at hst
       repeat' (first | refine yz ?_ | refine yc [0, 1, 3] b54 (hst) ?_)
       refine go_stop ?_
       refine ⟨⟨i + 1, F1, o ++ S1, by omega, hn1, hn2, hF, hS⟩, by dsimp only; omega, ?_⟩
       dsimp only
       rw [happ1]
       exact (zren [0, 1, 2, 4])
      | w0 :: wr =>
       dsimp only [fX, fO] at hst
       repeat' (first | refine yz ?_ | refine yc [0, 1, 3] b54 (hst) ?_)
       refine go_stop ?_
       refine ⟨⟨i + 1, F1, o ++ S1, by omega, hn1, hn2, hF, hS⟩, by dsimp only; omega, ?_⟩
       dsimp only
       rw [happ1]
       exact (zren [0, 1, 2, 4])
    | q0 :: qr, hol =>
     have hfit := fun j r h => hfit j r h (q0 :: qr)
     have hst := hst (q0 :: qr)
     dsimp only [fX, fO] at hfit ⊢
     repeat' (first | refine yz ?_ | refine yi (.int id) hx ?_ | refine qZ (.int (t1.getD v 0)) rfl rfl rfl rfl rfl rfl hold rfl rfl rfl ?_)
     refine go_loop_ (α := SSuq l fun r => !r.vs.contains (v : Int) || fitQ r (v + 1) t2) (fun q => ⟨[(0, .ptr 0 0), (1, .d (.int v)), (31, .d (.sl (iL C))), (32, .d (.int (iL C).length)), (33, .d (.int i)), (47, .d (.sl (l.map vrD))), (48, .d (.int (l.map vrD).length)), (49, .d (.int q.j))], [srch l (.own 1) (.own 3), rwI t2, .dead, .row 46 1 (q0 :: qr)]⟩) (fun q => l.length - q.j) ⟨0, by omega, fun m hm => by omega⟩ (by
      dsimp only
      show Le _ ⟨_, [srch l (.own 1) (.own 3), .row 3 1 ((iL t1).set v (.int id)), .dead, .row 46 1 (q0 :: qr)]⟩ _
      rw [hset]
      exact (zle 4)) ?_
     rintro ⟨j, hj, okj⟩
     dsimp only
     rcases Nat.lt_or_ge j l.length with hjl | hjg
     ·have g2 : decide ((j : Int) < ((l.map vrD).length : Int)) = true := by rw [hl2]; simpa using hjl
      have hr0 := List.getElem?_eq_getElem hjl
      have hrm : l[j] ∈ l := List.getElem_mem hjl
      generalize l[j] = r at hr0 hrm
      have hrv : (l.map vrD)[((j : Nat) : Int).toNat]? = some (.sl (iL r.vs)) := map_at (f := vrD) hr0
      have hct := containsI_ev r.vs (v : Int)
      have hft := hfit j r hr0
      cases c1 : r.vs.contains (v : Int) with
      | false =>
       rw [c1] at hct
       repeat' (first | refine yz ?_ | refine qI (.sl (iL r.vs)) rfl (guardX_ok rfl) rfl rfl rfl rfl rfl rfl (by first | omega | decide) hrv ?_ | refine yp b132 hct ?_)
       refine go_stop ?_
       refine ⟨⟨j + 1, by omega, fun m hm r' hr' => ?_⟩, by dsimp only; omega, (zle 4)⟩
       rcases Nat.lt_or_ge m j with h | h
       ·exact okj m h r' hr'
       ·rw [show m = j by omega, hr0] at hr'
        cases hr'
        rw [c1]; rfl
      | true =>
       rw [c1] at hct
       cases c2 : fitQ r (v + 1) t2 with
       | true =>
        rw [c2] at hft
        repeat' (first | refine yz ?_ | refine qI (.sl (iL r.vs)) rfl (guardX_ok rfl) rfl rfl rfl rfl rfl rfl (by first | omega | decide) hrv ?_ | refine yp b132 hct ?_ | refine yc [0, 1, 3] b143 (hft) ?_)
        refine go_stop ?_
        refine ⟨⟨j + 1, by omega, fun m hm r' hr' => ?_⟩, by dsimp only; omega, (zle 4)⟩
        rcases Nat.lt_or_ge m j with h | h
        ·exact okj m h r' hr'
        ·rw [show m = j by omega, hr0] at hr'
         cases hr'
         rw [c2, Bool.or_true]
       | false =>
        rw [c2] at hft
        have hno : okQ l v t2 = false := by
         rw [hokd, List.all_eq_false]
         exact ⟨r, hrm, by rw [c1, c2]; simp⟩
        rw [hno, cond_false] at hnx
        rw [hno, cond_false, List.nil_append] at hS
        rw [hnx] at hF
        rw [hnx] at hn2
        repeat' (first | refine yz ?_ | refine qI (.sl (iL r.vs)) rfl (guardX_ok rfl) rfl rfl rfl rfl rfl rfl (by first | omega | decide) hrv ?_ | refine yp b132 hct ?_ | refine yc [0, 1, 3] b143 (hft) ?_)
        refine go_stop ?_
        refine ⟨⟨i + 1, t2, o, by omega, ht2l, hn2, hF, hS⟩, by dsimp only; omega, ?_⟩
        dsimp only
        rw [hoo]
        exact (zle 4)
     ·have g2 : decide ((j : Int) < ((l.map vrD).length : Int)) = false := by rw [hl2]; simp; omega
      have hyes : okQ l v t2 = true := by
       rw [hokd, List.all_eq_true]
       intro r hr
       obtain ⟨m, hm⟩ := List.getElem?_of_mem hr
       exact okj m (by have := (List.getElem?_eq_some_iff.1 hm).1; omega) r hm
      rw [hyes, cond_true] at hnx
      rw [hyes, cond_true, ← List.append_assoc] at hS
      rw [hnx] at hF hn1 hn2
      have hst := hst (by
       have h1 := congrArg List.length hoo
       rw [List.length_append, rL_len] at h1
       rw [hS, List.length_append, List.length_append] at hn
       simp only [List.length_cons, List.length_nil] at h1 hn ⊢
       omega)
      have happ1 := happ S1
      generalize hoo2 : ((q0 :: qr) : List D) ++ rL S1 = oo2 at *
      match oo2 with
      | [] =>
       dsimp only [fX, fO] at hst
       repeat' (first | refine yz ?_ | refine yc [0, 1, 3] b54 (hst) ?_)
       refine go_stop ?_
       refine ⟨⟨i + 1, F1, o ++ S1, by omega, hn1, hn2, hF, hS⟩, by dsimp only; omega, ?_⟩
       dsimp only
       rw [happ1]
       exact (zren [0, 1, 2, 4])
      | w0 :: wr =>
       dsimp only [fX, fO] at hst
       repeat' (first | refine yz ?_ | refine yc [0, 1, 3] b54 (hst) ?_)
       refine go_stop ?_
       refine ⟨⟨i + 1, F1, o ++ S1, by omega, hn1, hn2, hF, hS⟩, by dsimp only; omega, ?_⟩
       dsimp only
       rw [happ1]
       exact (zren [0, 1, 2, 4])
   ·have g1 : decide ((i : Int) < ((iL C).length : Int)) = false := by rw [hCl]; simp; omega
    rw [List.drop_eq_nil_of_le hge] at hF hS
    have hS : S = o := by rw [hS]; simp [restQ]
    have hF : F = t1 := hF
    rw [hS, hF]
    generalize ((o0 :: or) : List D) ++ rL o = oo at *
    match oo with
    | [] =>
     dsimp only [fX, fO]
     repeat' (first | refine yz ?_ | refine yo [0, 1, 2, 3])
    | q0 :: qr =>
     dsimp only [fX, fO]
     repeat' (first | refine yz ?_ | refine yo [0, 1, 2, 3])
end Go.Proofs.YtenpjlghikohmaaGreatDoor
