/- The library's stable sort on lists: what it does to a list, that the result is the list in another order, that it is sorted, and that such a list is unique; The library's merge in place, its stable sort: sorted, the same list in another order; uniqueness; the specification's sort by insertion; Rows of encoded elements: what a swap leaves; Sorting by insertion under a map of the elements; a sorted list without repeated elements; what removing them in place leaves; Rows of integers in lexicographic order: compared, merged, sorted, each once; rising rows with the same members are one list; Walks . Conditions: each part's own, as it says. -/
import Derived.Test.YtenpjlghikohmaaGreatDoorGB
import Derived.Test.YtenpjlghikohmaaGreatDoorGC
import Derived.Test.YtenpjlghikohmaaGreatDoorGG
import Derived.Test.YtenpjlghikohmaaGreatDoorLA
import Derived.Test.YtenpjlghikohmaaGreatDoorLD
import Derived.Test.YtenpjlghikohmaaGreatDoorGS
import Derived.Sort.OwnSortedInts
import Derived.Test.YtenpjlghikohmaaGreatDoorMA
set_option linter.unusedVariables false
set_option linter.unusedSimpArgs false
namespace Go.Proofs.YtenpjlghikohmaaGreatDoor
set_option maxRecDepth 4000
section
variable {α : Type} [Inhabited α]
def atS (l : List α) (k : Nat) : α := l.getD k default
theorem atS_get {l : List α} {k : Nat} (h : k < l.length) : l[k]? = some (atS l k) := by
 unfold atS
 rw [List.getD_eq_getElem?_getD, List.getElem?_eq_getElem h]
 rfl
structure Rch (lo hi : Nat) (l l' : List α) : Prop where
 len : l'.length = l.length
 per : l'.Perm l
 out : ∀ k, k < lo ∨ hi ≤ k → atS l' k = atS l k
 inn : ∀ k, lo ≤ k → k < hi → ∃ k', lo ≤ k' ∧ k' < hi ∧ atS l' k = atS l k'
theorem Rch.refl (lo hi : Nat) (l : List α) : Rch lo hi l l := ⟨rfl, List.Perm.refl _, fun _ _ => rfl, fun k h1 h2 => ⟨k, h1, h2, rfl⟩⟩
theorem Rch.trans {lo hi : Nat} {l l' l'' : List α} (h : Rch lo hi l l') (h' : Rch lo hi l' l'') : Rch lo hi l l'' := by
 refine ⟨by rw [h'.len, h.len], h'.per.trans h.per, fun k hk => by rw [h'.out k hk, h.out k hk], fun k h1 h2 => ?_⟩
 obtain ⟨k', a1, a2, a3⟩ := h'.inn k h1 h2
 obtain ⟨k'', b1, b2, b3⟩ := h.inn k' a1 a2
 exact ⟨k'', b1, b2, by rw [a3, b3]⟩
theorem Rch.mono {lo hi lo' hi' : Nat} {l l' : List α} (h : Rch lo hi l l') (h1 : lo' ≤ lo) (h2 : hi ≤ hi') : Rch lo' hi' l l' := by
 refine ⟨h.len, h.per, fun k hk => h.out k (by omega), fun k a1 a2 => ?_⟩
 by_cases hk : lo ≤ k ∧ k < hi
 ·obtain ⟨k', b1, b2, b3⟩ := h.inn k hk.1 hk.2
  exact ⟨k', by omega, by omega, b3⟩
 ·exact ⟨k, a1, a2, h.out k (by omega)⟩
def Srt (c : α → α → Int) (l : List α) (a b : Nat) : Prop := ∀ p q, a ≤ p → p < q → q < b → c (atS l p) (atS l q) ≤ 0
theorem Srt.sub {c : α → α → Int} {l : List α} {a b a' b' : Nat} (h : Srt c l a b) (h1 : a ≤ a') (h2 : b' ≤ b) : Srt c l a' b' := fun p q g1 g2 g3 => h p q (by omega) g2 (by omega)
theorem Srt.out {c : α → α → Int} {l l' : List α} {a b lo hi : Nat} (h : Srt c l a b) (hr : Rch lo hi l l') (hd : b ≤ lo ∨ hi ≤ a) : Srt c l' a b := fun p q g1 g2 g3 => by
 rw [hr.out p (by omega), hr.out q (by omega)]
 exact h p q g1 g2 g3
omit [Inhabited α] in
def bsF (P : Nat → Bool) (i j : Nat) : Nat := if i < j then bif P ((i + j) / 2) then bsF P ((i + j) / 2 + 1) j else bsF P i ((i + j) / 2) else i
 termination_by j - i
theorem bsF_ok (P : Nat → Bool) (i j : Nat) (h : i ≤ j) : i ≤ bsF P i j ∧ bsF P i j ≤ j ∧ (bsF P i j = i ∨ P (bsF P i j - 1) = true) ∧ (bsF P i j = j ∨ P (bsF P i j) = false) := by
 rw [bsF]
 split
 ·rename_i hlt
  cases hp : P ((i + j) / 2) with
  | true =>
   rw [cond_true]
   obtain ⟨a1, a2, a3, a4⟩ := bsF_ok P ((i + j) / 2 + 1) j (by omega)
   refine ⟨by omega, a2, .inr ?_, a4⟩
   rcases a3 with a3 | a3
   ·rw [a3, Nat.add_sub_cancel]; exact hp
   ·exact a3
  | false =>
   rw [cond_false]
   obtain ⟨a1, a2, a3, a4⟩ := bsF_ok P i ((i + j) / 2) (by omega)
   refine ⟨a1, by omega, a3, .inr ?_⟩
   rcases a4 with a4 | a4
   ·rw [a4]; exact hp
   ·exact a4
 ·exact ⟨Nat.le_refl _, h, .inl rfl, .inl (by omega)⟩
 termination_by j - i
end
end Go.Proofs.YtenpjlghikohmaaGreatDoor
namespace Go.Proofs.YtenpjlghikohmaaGreatDoor
set_option maxRecDepth 4000
section
variable {α : Type} [Inhabited α]
omit [Inhabited α] in
end
end Go.Proofs.YtenpjlghikohmaaGreatDoor
namespace Go.Proofs.YtenpjlghikohmaaGreatDoor
set_option maxRecDepth 4000
open Go Go.Abs Go.RowKit Go.Proofs.Tryz
section
variable {α : Type} [Inhabited α] {en : α → D}
theorem row_get {l : List α} {i : Int} {p : Nat} (hp : p < l.length) (hi : i.toNat = p) : (l.map en)[i.toNat]? = some (en (atS l p)) := by
 rw [hi, List.getElem?_map, atS_get hp]
 rfl
omit [Inhabited α] in
end
end Go.Proofs.YtenpjlghikohmaaGreatDoor
namespace Go.Proofs.YtenpjlghikohmaaGreatDoor
set_option maxRecDepth 4000
section
variable {α β : Type} [Inhabited α] [Inhabited β]
end
section
variable {α : Type} [Inhabited α]
def uniG (c : α → α → Int) : α → List α → List α
 | _, [] => []
 | p, x :: r => if c p x = 0 then uniG c x r else x :: uniG c x r
def uniF (c : α → α → Int) : List α → List α
 | [] => []
 | x :: r => x :: uniG c x r
theorem drop_atS {l : List α} {k : Nat} (h : k < l.length) : l.drop k = atS l k :: l.drop (k + 1) := by
 rw [List.drop_eq_getElem_cons h]
 congr 1
 unfold atS
 rw [List.getD_eq_getElem?_getD, List.getElem?_eq_getElem h]
 rfl
omit [Inhabited α] in
theorem take_set1 {l : List α} {k : Nat} {x : α} (h : k < l.length) : (l.set k x).take (k + 1) = l.take k ++ [x] := by
 rw [List.take_add_one, List.getElem?_set_self h, List.take_set_of_le (Nat.le_refl _)]
 rfl
theorem take_atS {l : List α} {k : Nat} (h : k < l.length) : l.take (k + 1) = l.take k ++ [atS l k] := by
 rw [List.take_add_one, List.getElem?_eq_getElem h]
 unfold atS
 rw [List.getD_eq_getElem?_getD, List.getElem?_eq_getElem h]
 rfl
theorem uniF_one {c : α → α → Int} {l : List α} (h : 1 ≤ l.length) : uniF c l = l.take 1 ++ uniG c (atS l 0) (l.drop 1) := by
 cases l with
 | nil => simp at h
 | cons x r => simp [uniF, atS]
omit [Inhabited α] in
theorem uniF_short {c : α → α → Int} {l : List α} (h : l.length < 2) : uniF c l = l := by
 match l, h with
 | [], _ => rfl
 | [x], _ => rfl
 | _ :: _ :: _, h => simp at h; omega
structure CpT (c : α → α → Int) (l : List α) where
 k : Nat
 h1 : 1 ≤ k
 hk : k ≤ l.length
 ht : uniF c l = l.take k ++ uniG c (atS l (k - 1)) (l.drop k)
structure CqT (c : α → α → Int) (l : List α) (k0 : Nat) where
 k : Nat
 k2 : Nat
 l1 : List α
 hl : l1.length = l.length
 hk2 : 1 ≤ k2
 hb : k0 + k2 ≤ l.length
 hkk : k + 1 ≤ k0 + k2
 ha : ∀ q, k0 + k2 ≤ q + 1 → atS l1 q = atS l q
 ht : uniF c l = l1.take k ++ uniG c (atS l (k0 + k2 - 1)) (l.drop (k0 + k2))
def CpT.next {c : α → α → Int} {l : List α} (p : CpT c l) (h : p.k < l.length) (hc : c (atS l (p.k - 1)) (atS l p.k) ≠ 0) : CpT c l :=
 ⟨p.k + 1, by omega, by omega, by
  rw [p.ht, drop_atS h, uniG, if_neg hc, take_atS h]
  simp⟩
def CpT.start {c : α → α → Int} {l : List α} (h : 1 ≤ l.length) : CpT c l := ⟨1, Nat.le_refl _, h, uniF_one h⟩
theorem CpT.done {c : α → α → Int} {l : List α} (p : CpT c l) (h : l.length ≤ p.k) : uniF c l = l := by
 rw [p.ht, List.drop_eq_nil_of_le h, List.take_of_length_le h, uniG, List.append_nil]
def CqT.start {c : α → α → Int} {l : List α} (p : CpT c l) (h : p.k < l.length) (hc : c (atS l (p.k - 1)) (atS l p.k) = 0) : CqT c l p.k :=
 ⟨p.k, 1, l, rfl, Nat.le_refl _, by omega, Nat.le_refl _, fun _ _ => rfl, by
  rw [p.ht, drop_atS h, uniG, if_pos hc]
  rfl⟩
def CqT.keep {c : α → α → Int} {l : List α} {k0 : Nat} (p : CqT c l k0) (h : k0 + p.k2 < l.length) (hc : c (atS l (k0 + p.k2 - 1)) (atS l (k0 + p.k2)) ≠ 0) : CqT c l k0 :=
 ⟨p.k + 1, p.k2 + 1, p.l1.set p.k (atS l (k0 + p.k2)), by rw [List.length_set, p.hl], by omega, by omega, by have := p.hkk; omega, fun q hq => by
  have := p.hkk
  rw [← p.ha q (by omega)]
  unfold atS
  simp only [List.getD_eq_getElem?_getD]
  rw [List.getElem?_set_ne (by omega)], by
  have h1 := p.hkk
  have h2 := p.hl
  rw [p.ht, drop_atS h, uniG, if_neg hc, take_set1 (by omega), show k0 + (p.k2 + 1) - 1 = k0 + p.k2 by omega]
  simp [Nat.add_assoc]⟩
def CqT.drop {c : α → α → Int} {l : List α} {k0 : Nat} (p : CqT c l k0) (h : k0 + p.k2 < l.length) (hc : c (atS l (k0 + p.k2 - 1)) (atS l (k0 + p.k2)) = 0) : CqT c l k0 :=
 ⟨p.k, p.k2 + 1, p.l1, p.hl, by omega, by omega, by have := p.hkk; omega, fun q hq => p.ha q (by omega), by
  rw [p.ht, drop_atS h, uniG, if_pos hc, show k0 + (p.k2 + 1) - 1 = k0 + p.k2 by omega, ← Nat.add_assoc]⟩
theorem CqT.done {c : α → α → Int} {l : List α} {k0 : Nat} (p : CqT c l k0) (h : l.length ≤ k0 + p.k2) : uniF c l = p.l1.take p.k := by
 rw [p.ht, List.drop_eq_nil_of_le h, uniG, List.append_nil]
omit [Inhabited α] in
omit [Inhabited α] in
omit [Inhabited α] in
omit [Inhabited α] in
end
end Go.Proofs.YtenpjlghikohmaaGreatDoor
namespace Go.Proofs.YtenpjlghikohmaaGreatDoor
set_option maxRecDepth 4000
def lexZ : List Int → List Int → Int
 | [], [] => 0
 | [], _ :: _ => -1
 | _ :: _, [] => 1
 | x :: a, y :: b => bif decide (x < y) then -1 else bif decide (x > y) then 1 else lexZ a b
theorem lexZ_cons (x y : Int) (a b : List Int) : lexZ (x :: a) (y :: b) = bif decide (x < y) then -1 else bif decide (x > y) then 1 else lexZ a b := by rw [lexZ]
theorem lexZ_lt {x y : Int} (h : x < y) (a b : List Int) : lexZ (x :: a) (y :: b) = -1 := by rw [lexZ_cons, decide_eq_true h]; rfl
theorem lexZ_gt {x y : Int} (h : y < x) (a b : List Int) : lexZ (x :: a) (y :: b) = 1 := by
 rw [lexZ_cons, decide_eq_false (show ¬ x < y by omega), decide_eq_true (show x > y from h)]; rfl
theorem lexZ_eq (x : Int) (a b : List Int) : lexZ (x :: a) (x :: b) = lexZ a b := by
 rw [lexZ_cons, decide_eq_false (show ¬ x < x by omega)]; rfl
theorem lexZ_anti : ∀ a b : List Int, lexZ b a = - lexZ a b
 | [], [] => rfl
 | [], _ :: _ => rfl
 | _ :: _, [] => rfl
 | x :: a, y :: b => by
  rcases Int.lt_trichotomy x y with h | h | h
  ·rw [lexZ_lt h, lexZ_gt h]; rfl
  ·subst h; rw [lexZ_eq, lexZ_eq, lexZ_anti a b]
  ·rw [lexZ_lt h, lexZ_gt h]
theorem lexZ_zero : ∀ a b : List Int, lexZ a b = 0 → a = b
 | [], [], _ => rfl
 | [], _ :: _, h => by simp [lexZ] at h
 | _ :: _, [], h => by simp [lexZ] at h
 | x :: a, y :: b, h => by
  rcases Int.lt_trichotomy x y with k | k | k
  ·rw [lexZ_lt k] at h; simp at h
  ·subst k; rw [lexZ_eq] at h; rw [lexZ_zero a b h]
  ·rw [lexZ_gt k] at h; simp at h
theorem lexZ_self (a : List Int) : lexZ a a = 0 := by have := lexZ_anti a a; omega
theorem lexZ_tr : ∀ a b c : List Int, lexZ a b ≤ 0 → lexZ b c ≤ 0 → lexZ a c ≤ 0
 | [], _, [], _, _ => by simp [lexZ]
 | [], _, _ :: _, _, _ => by simp [lexZ]
 | _ :: _, [], _, h, _ => by simp [lexZ] at h
 | _ :: _, _ :: _, [], _, h => by simp [lexZ] at h
 | x :: a, y :: b, z :: c, h1, h2 => by
  rcases Int.lt_trichotomy x y with k | k | k
  ·rcases Int.lt_trichotomy y z with q | q | q
   ·rw [lexZ_lt (show x < z by omega)]; omega
   ·rw [lexZ_lt (show x < z by omega)]; omega
   ·rw [lexZ_gt q] at h2; omega
  ·subst k
   rw [lexZ_eq] at h1
   rcases Int.lt_trichotomy x z with q | q | q
   ·rw [lexZ_lt q]; omega
   ·subst q; rw [lexZ_eq] at h2 ⊢; exact lexZ_tr a b c h1 h2
   ·rw [lexZ_gt q] at h2; omega
  ·rw [lexZ_gt k] at h1; omega
theorem lexZ_slt {a b c : List Int} (h1 : lexZ a b < 0) (h2 : lexZ b c ≤ 0) : lexZ a c < 0 := by
 have h3 := lexZ_tr a b c (by omega) h2
 rcases Int.lt_or_le (lexZ a c) 0 with h | h
 ·exact h
 ·have e := lexZ_zero a c (by omega)
  subst e
  have := lexZ_anti a b
  omega
def risZ (l : List (List Int)) : Prop := l.Pairwise fun a b => lexZ a b < 0
theorem risZ_ext : ∀ (a b : List (List Int)), risZ a → risZ b → (∀ z, z ∈ a ↔ z ∈ b) → a = b
 | [], [], _, _, _ => rfl
 | [], y :: b, _, _, h => absurd ((h y).2 (by simp)) (by simp)
 | x :: a, [], _, _, h => absurd ((h x).1 (by simp)) (by simp)
 | x :: a, y :: b, ha, hb, h => by
  have ha' := List.pairwise_cons.1 ha
  have hb' := List.pairwise_cons.1 hb
  have e : x = y := by
   rcases List.mem_cons.1 ((h x).1 (by simp)) with e | e
   ·exact e
   ·rcases List.mem_cons.1 ((h y).2 (by simp)) with f | f
    ·exact f.symm
    ·have h1 := hb'.1 x e
     have h2 := ha'.1 y f
     have := lexZ_anti x y
     omega
  subst e
  rw [risZ_ext a b ha'.2 hb'.2 fun z => ?_]
  constructor
  ·intro hz
   rcases List.mem_cons.1 ((h z).1 (by simp [hz])) with f | f
   ·subst f; have := ha'.1 z hz; rw [lexZ_self] at this; omega
   ·exact f
  ·intro hz
   rcases List.mem_cons.1 ((h z).2 (by simp [hz])) with f | f
   ·subst f; have := hb'.1 z hz; rw [lexZ_self] at this; omega
   ·exact f
def merZ : List (List Int) → List (List Int) → List (List Int)
 | [], [] => []
 | [], y :: b => y :: merZ [] b
 | x :: a, [] => x :: merZ a []
 | x :: a, y :: b => if lexZ x y < 0 then x :: merZ a (y :: b) else if lexZ x y = 0 then x :: merZ a b else y :: merZ (x :: a) b
termination_by a b => a.length + b.length
theorem merZ_mem (a b : List (List Int)) : ∀ z, z ∈ merZ a b ↔ z ∈ a ∨ z ∈ b := by
 induction a, b using merZ.induct with
 | case1 => intro z; simp [merZ]
 | case2 y b ih => intro z; rw [merZ, List.mem_cons, ih]; simp
 | case3 x a ih => intro z; rw [merZ, List.mem_cons, ih]; simp
 | case4 x a y b h ih =>
  intro z; rw [merZ, if_pos h, List.mem_cons, ih]; simp only [List.mem_cons, or_assoc]
 | case5 x a y b h1 h2 ih =>
  intro z; rw [merZ, if_neg h1, if_pos h2, List.mem_cons, ih]
  have e := lexZ_zero x y h2
  subst e
  simp only [List.mem_cons]
  constructor
  ·rintro (h | h | h)
   ·exact .inl (.inl h)
   ·exact .inl (.inr h)
   ·exact .inr (.inr h)
  ·rintro ((h | h) | (h | h))
   ·exact .inl h
   ·exact .inr (.inl h)
   ·exact .inl h
   ·exact .inr (.inr h)
 | case6 x a y b h1 h2 ih =>
  intro z; rw [merZ, if_neg h1, if_neg h2, List.mem_cons, ih]
  simp only [List.mem_cons]
  constructor
  ·rintro (h | (h | h) | h)
   ·exact .inr (.inl h)
   ·exact .inl (.inl h)
   ·exact .inl (.inr h)
   ·exact .inr (.inr h)
  ·rintro ((h | h) | (h | h))
   ·exact .inr (.inl (.inl h))
   ·exact .inr (.inl (.inr h))
   ·exact .inl h
   ·exact .inr (.inr h)
theorem merZ_ris (a b : List (List Int)) : risZ a → risZ b → risZ (merZ a b) := by
 induction a, b using merZ.induct with
 | case1 => intro _ _; simp [merZ, risZ]
 | case2 y b ih =>
  intro h1 h2
  have h2' := List.pairwise_cons.1 h2
  rw [merZ]
  exact List.pairwise_cons.2 ⟨fun z hz => by rcases (merZ_mem _ _ z).1 hz with h | h; (cases h); exact h2'.1 z h, ih h1 h2'.2⟩
 | case3 x a ih =>
  intro h1 h2
  have h1' := List.pairwise_cons.1 h1
  rw [merZ]
  exact List.pairwise_cons.2 ⟨fun z hz => by rcases (merZ_mem _ _ z).1 hz with h | h; exact h1'.1 z h; (cases h), ih h1'.2 h2⟩
 | case4 x a y b h ih =>
  intro h1 h2
  have h1' := List.pairwise_cons.1 h1
  have h2' := List.pairwise_cons.1 h2
  rw [merZ, if_pos h]
  refine List.pairwise_cons.2 ⟨fun z hz => ?_, ih h1'.2 h2⟩
  rcases (merZ_mem _ _ z).1 hz with k | k
  ·exact h1'.1 z k
  ·rcases List.mem_cons.1 k with k | k
   ·rw [k]; exact h
   ·exact lexZ_slt h (by have := h2'.1 z k; omega)
 | case5 x a y b h1 h2 ih =>
  intro g1 g2
  have h1' := List.pairwise_cons.1 g1
  have h2' := List.pairwise_cons.1 g2
  have e := lexZ_zero x y h2
  subst e
  rw [merZ, if_neg h1, if_pos h2]
  refine List.pairwise_cons.2 ⟨fun z hz => ?_, ih h1'.2 h2'.2⟩
  rcases (merZ_mem _ _ z).1 hz with k | k
  ·exact h1'.1 z k
  ·exact h2'.1 z k
 | case6 x a y b h1 h2 ih =>
  intro g1 g2
  have h1' := List.pairwise_cons.1 g1
  have h2' := List.pairwise_cons.1 g2
  have hyx : lexZ y x < 0 := by have := lexZ_anti x y; omega
  rw [merZ, if_neg h1, if_neg h2]
  refine List.pairwise_cons.2 ⟨fun z hz => ?_, ih g1 h2'.2⟩
  rcases (merZ_mem _ _ z).1 hz with k | k
  ·rcases List.mem_cons.1 k with k | k
   ·rw [k]; exact hyx
   ·exact lexZ_slt hyx (by have := h1'.1 z k; omega)
  ·exact h2'.1 z k
def sorZ (l : List (List Int)) : List (List Int) :=
 if h : l.length ≤ 1 then l else merZ (sorZ (l.take (l.length / 2))) (sorZ (l.drop (l.length / 2)))
termination_by l.length
decreasing_by all_goals simp; omega
theorem sorZ_short {l : List (List Int)} (h : l.length ≤ 1) : sorZ l = l := by rw [sorZ, dif_pos h]
theorem sorZ_long {l : List (List Int)} (h : ¬ l.length ≤ 1) : sorZ l = merZ (sorZ (l.take (l.length / 2))) (sorZ (l.drop (l.length / 2))) := by rw [sorZ, dif_neg h]
theorem sorZ_ok : ∀ (n : Nat) (l : List (List Int)), l.length ≤ n → risZ (sorZ l) ∧ ∀ z, z ∈ sorZ l ↔ z ∈ l
 | 0, l, h => by
  obtain rfl : l = [] := List.eq_nil_of_length_eq_zero (by omega)
  rw [sorZ_short (by simp)]
  exact ⟨List.Pairwise.nil, fun _ => Iff.rfl⟩
 | n + 1, l, h => by
  by_cases h1 : l.length ≤ 1
  ·rw [sorZ_short h1]
   refine ⟨?_, fun _ => Iff.rfl⟩
   match l, h1 with
   | [], _ => exact List.Pairwise.nil
   | [x], _ => exact List.pairwise_singleton _ _
   | _ :: _ :: _, h1 => simp at h1
  ·rw [sorZ_long h1]
   obtain ⟨a1, a2⟩ := sorZ_ok n (l.take (l.length / 2)) (by simp; omega)
   obtain ⟨b1, b2⟩ := sorZ_ok n (l.drop (l.length / 2)) (by simp; omega)
   refine ⟨merZ_ris _ _ a1 b1, fun z => ?_⟩
   rw [merZ_mem, a2, b2, ← List.mem_append, List.take_append_drop]
theorem uniG_ok : ∀ (l : List (List Int)) (p : List Int), (p :: l).Pairwise (fun a b => lexZ a b ≤ 0) → risZ (p :: uniG lexZ p l) ∧ ∀ z, z ∈ p :: uniG lexZ p l ↔ z ∈ p :: l
 | [], p, _ => by simp [uniG, risZ]
 | x :: r, p, h => by
  have h1 := List.pairwise_cons.1 h
  have h2 := List.pairwise_cons.1 h1.2
  unfold uniG
  by_cases hc : lexZ p x = 0
  ·have e := lexZ_zero p x hc
   subst e
   rw [if_pos hc]
   obtain ⟨k1, k2⟩ := uniG_ok r p h1.2
   refine ⟨k1, fun z => ?_⟩
   rw [k2]
   simp
  ·rw [if_neg hc]
   obtain ⟨k1, k2⟩ := uniG_ok r x h1.2
   have hpx : lexZ p x < 0 := by have := h1.1 x (by simp); omega
   refine ⟨List.pairwise_cons.2 ⟨fun z hz => ?_, k1⟩, fun z => ?_⟩
   ·rcases List.mem_cons.1 ((k2 z).1 hz) with e | e
    ·rw [e]; exact hpx
    ·exact lexZ_slt hpx (h2.1 z e)
   ·rw [List.mem_cons, k2, ← List.mem_cons]
theorem uniF_ok {l : List (List Int)} (h : l.Pairwise fun a b => lexZ a b ≤ 0) : risZ (uniF lexZ l) ∧ ∀ z, z ∈ uniF lexZ l ↔ z ∈ l := by
 cases l with
 | nil => simp [uniF, risZ]
 | cons p r => exact uniG_ok r p h
theorem uniF_sorZ {l m : List (List Int)} (hp : m.Perm l) (h : m.Pairwise fun a b => lexZ a b ≤ 0) : uniF lexZ m = sorZ l := by
 obtain ⟨a1, a2⟩ := uniF_ok h
 obtain ⟨b1, b2⟩ := sorZ_ok l.length l (Nat.le_refl _)
 refine risZ_ext _ _ a1 b1 fun z => ?_
 rw [a2, b2]
 exact hp.mem_iff
theorem sorZ_len : ∀ (n : Nat) (l : List (List Int)), l.length ≤ n → (sorZ l).length ≤ l.length
 | 0, l, h => by rw [sorZ_short (by omega)]; exact Nat.le_refl _
 | n + 1, l, h => by
  have merl : ∀ a b : List (List Int), (merZ a b).length ≤ a.length + b.length := fun a b => by
   induction a, b using merZ.induct with
   | case1 => simp [merZ]
   | case2 y b ih => rw [merZ]; simp only [List.length_cons, List.length_nil] at *; omega
   | case3 x a ih => rw [merZ]; simp only [List.length_cons, List.length_nil] at *; omega
   | case4 x a y b h ih => rw [merZ, if_pos h]; simp only [List.length_cons] at *; omega
   | case5 x a y b h1 h2 ih => rw [merZ, if_neg h1, if_pos h2]; simp only [List.length_cons] at *; omega
   | case6 x a y b h1 h2 ih => rw [merZ, if_neg h1, if_neg h2]; simp only [List.length_cons] at *; omega
  by_cases h1 : l.length ≤ 1
  ·rw [sorZ_short h1]; exact Nat.le_refl _
  ·rw [sorZ_long h1]
   have a := sorZ_len n (l.take (l.length / 2)) (by simp; omega)
   have b := sorZ_len n (l.drop (l.length / 2)) (by simp; omega)
   have c := merl (sorZ (l.take (l.length / 2))) (sorZ (l.drop (l.length / 2)))
   simp at a b
   omega
open Go Go.Abs Go.Val Go.Proofs.Tryz
def tyB (t : ByteArray) (e : Ed) : Bool := e.ty.toList == t.toList
def cntE (t : ByteArray) : List Ed → Int
 | [] => 0
 | e :: r => (bif tyB t e then 1 else 0) + cntE t r
theorem cntE_rng (t : ByteArray) : ∀ (l : List Ed), 0 ≤ cntE t l ∧ cntE t l ≤ l.length
 | [] => by simp [cntE]
 | e :: r => by
  have := cntE_rng t r
  simp only [cntE, List.length_cons]
  cases tyB t e <;> simp <;> omega
attribute [local irreducible] Ev EvO EvS ExtEv HasBody SGo go
abbrev oGr (g : Gr) : AObj := .var 38 (.w (.d (encGr g)))
abbrev kdI : TypeDesc := .int .i64
def seB (t : ByteArray) (e : Ed) : Bool := t.toList == (⟨#[]⟩ : ByteArray).toList || e.ty.toList == t.toList
def nbI (dir : Int) (e : Ed) : Int := bif dir == 1 then e.src else e.dst
def cntM (t : ByteArray) (dir id : Int) : List Ed → Int
 | [] => 0
 | e :: r => (bif seB t e && nbI dir e == id then 1 else 0) + cntM t dir id r
theorem cntM_take {t : ByteArray} {dir id : Int} : ∀ {l : List Ed} {i : Nat} {e : Ed}, l[i]? = some e → cntM t dir id (l.take (i + 1)) = cntM t dir id (l.take i) + (bif seB t e && nbI dir e == id then 1 else 0)
 | a :: l, 0, e, h => by simp at h; subst h; simp [cntM]
 | a :: l, i + 1, e, h => by
  have := cntM_take (t := t) (dir := dir) (id := id) (l := l) (i := i) (by simpa using h)
  simp only [List.take_succ_cons, cntM, this]; omega
theorem cntM_rng (t : ByteArray) (dir id : Int) : ∀ (l : List Ed), 0 ≤ cntM t dir id l ∧ cntM t dir id l ≤ l.length
 | [] => by simp [cntM]
 | e :: r => by
  have := cntM_rng t dir id r
  simp only [cntM, List.length_cons]
  cases seB t e && nbI dir e == id <;> simp <;> omega
def degL (g : Gr) (t : ByteArray) (dir : Int) (l : List Nd) : List Int := (l.map fun n => cntM t dir n.id g.edges).filter fun d => decide (d > 0)
structure SqM (g : Gr) (t : ByteArray) (dir : Int) where
 i : Nat
 xs : List (Value × D)
 hi : i ≤ g.edges.length
 hx : ∀ id, mGet (.int .i64 id) xs (.int 0) = .int (cntM t dir id (g.edges.take i))
structure SqN (g : Gr) where
 i : Nat
 hi : i ≤ g.nodes.length
theorem degL_next {g : Gr} {t : ByteArray} {dir : Int} {l : List Nd} {i : Nat} {n : Nd} (h : l[i]? = some n) : degL g t dir (l.take (i + 1)) = degL g t dir (l.take i) ++ (bif decide (cntM t dir n.id g.edges > 0) then [cntM t dir n.id g.edges] else []) := by
 unfold degL
 rw [List.take_add_one, h, List.map_append, List.filter_append]
 cases hc : decide (cntM t dir n.id g.edges > 0) <;> simp [hc]
theorem degL_len (g : Gr) (t : ByteArray) (dir : Int) (l : List Nd) : (degL g t dir l).length ≤ l.length := by
 unfold degL
 exact Nat.le_trans (List.length_filter_le _ _) (by simp)
theorem seq_ev (P : List Int → List Int) (hP : ∀ x r, (x :: r).length ≤ 2000 → EvS E 125 [.own 0, .d (.imm (.func (.func 126) #[] #[]))] [.row 3 1 (iL (x :: r))] (.tup []) [.row 3 1 (iL (P (x :: r)))])
  (hN : EvS E 125 [.d (.sl []), .d (.imm (.func (.func 126) #[] #[]))] [] (.tup []) []) (g : Gr) (t : ByteArray) (dir : Int) (hn : g.nodes.length ≤ 2000) (he : g.edges.length ≤ 4000) :
  Ev E 45 [encGr g, .str t, .int dir] (.d (.sl (iL (match degL g t dir g.nodes with | [] => [] | x :: r => P (x :: r))))) := by
 have hen : (g.edges.map encEd).length = g.edges.length := by simp
 have hnn : (g.nodes.map encNd).length = g.nodes.length := by simp
 refine ye3 func45 ntmps45 fun _ _ _=>?_
 repeat' (first | refine yz ?_ | refine go_makeMap rfl rfl rfl rfl rfl rfl ?_)
 refine go_loop_ (α := SqM g t dir) (fun p => ⟨[(1, .d (.str t)), (2, .d (.int dir)), (3, .ptr 0 0), (7, .mp 1), (16, .d (.sl (g.edges.map encEd))), (17, .d (.int (g.edges.map encEd).length)), (18, .d (.int p.i))], [oGr g, .map kdI p.xs]⟩) (fun p => g.edges.length - p.i) ⟨0, [], by omega, fun id => rfl⟩ (zle 2) ?_
 rintro ⟨i, xs, hi, hx⟩
 dsimp only at hx ⊢
 rcases Nat.lt_or_ge i g.edges.length with hlt | hge
 ·have g1 : decide ((i : Int) < ((g.edges.map encEd).length : Int)) = true := by rw [hen]; simpa using hlt
  have hx0 := List.getElem?_eq_getElem hlt
  generalize g.edges[i] = e at hx0
  have hxx := map_at (f := encEd) hx0
  have hz := hx (nbI dir e)
  obtain ⟨r1, r2⟩ := cntM_rng t dir (nbI dir e) (g.edges.take i)
  have r3 : (g.edges.take i).length ≤ 4000 := by rw [List.length_take]; omega
  have htk : ∀ id, cntM t dir id (g.edges.take (i + 1)) = cntM t dir id (g.edges.take i) + (bif seB t e && nbI dir e == id then 1 else 0) := fun id => cntM_take hx0
  have stay : seB t e = false → ∀ id, mGet (.int .i64 id) xs (.int 0) = .int (cntM t dir id (g.edges.take (i + 1))) := fun h id => by rw [htk, h, hx]; simp
  have step : seB t e = true → ∀ id, mGet (.int .i64 id) (mPut (.int .i64 (nbI dir e)) (.int (cntM t dir (nbI dir e) (g.edges.take i) + 1)) xs) (.int 0) = .int (cntM t dir id (g.edges.take (i + 1))) := fun h id => by
   rw [mGet_put, htk, h, hx]
   cases hc : id == nbI dir e with
   | true =>
    obtain rfl := eq_of_beq hc
    simp
   | false =>
    rw [show (nbI dir e == id) = false by rw [← Bool.not_eq_true, beq_iff_eq]; rintro rfl; simp at hc]
    simp
  unfold nbI at hz step r1 r2
  unfold seB at stay step
  cases c1 : t.toList == (⟨#[]⟩ : ByteArray).toList <;> cases c2 : e.ty.toList == t.toList <;> cases c3 : dir == 1 <;> rw [c1, c2] at stay step <;> rw [c3] at hz step r1 r2 <;> simp only [cond_true, cond_false] at hz step r1 r2 <;> simp only [Bool.or_true, Bool.or_false, Bool.true_or, Bool.false_or] at stay step
  all_goals have n1 := congrArg not c1
  all_goals have n2 := congrArg not c2
  all_goals
   repeat' (first | refine yz ?_ | refine yi (encEd e) hxx ?_ | refine go_lookupE hz ?_ | refine go_mapUpdate ?_ | refine yx ?_)
  all_goals (refine go_stop ?_)
  all_goals first
  | exact ⟨⟨i + 1, _, by omega, stay (by first | rfl | trivial)⟩, by dsimp only; omega, (zle 2)⟩
  | exact ⟨⟨i + 1, _, by omega, step (by first | rfl | trivial)⟩, by dsimp only; omega, (zle 2)⟩
 ·have g1 : decide ((i : Int) < ((g.edges.map encEd).length : Int)) = false := by rw [hen]; simp; omega
  rw [List.take_of_length_le hge] at hx
  repeat' (refine yz ?_)
  refine go_loop_ (α := SqN g) (fun p => ⟨[(3, .ptr 0 0), (7, .mp 1), (10, rowK 2 (iL (degL g t dir (g.nodes.take p.i)))), (44, .d (.sl (g.nodes.map encNd))), (45, .d (.int (g.nodes.map encNd).length)), (46, .d (.int p.i))], [oGr g, .map kdI xs] ++ rowO 3 1 (iL (degL g t dir (g.nodes.take p.i)))⟩) (fun p => g.nodes.length - p.i) ⟨0, by omega⟩ (zle 2) ?_
  rintro ⟨j, hj⟩
  dsimp only
  have hol : (iL (degL g t dir (g.nodes.take j))).length ≤ 2000 := by
   have := degL_len g t dir (g.nodes.take j)
   rw [List.length_take] at this
   rw [iL_len]; omega
  rcases Nat.lt_or_ge j g.nodes.length with hlt | hge2
  ·have g2 : decide ((j : Int) < ((g.nodes.map encNd).length : Int)) = true := by rw [hnn]; simpa using hlt
   have hx0 := List.getElem?_eq_getElem hlt
   generalize g.nodes[j] = n at hx0
   have hxx := map_at (f := encNd) hx0
   have hz := hx n.id
   have hnx : iL (degL g t dir (g.nodes.take (j + 1))) = iL (degL g t dir (g.nodes.take j)) ++ iL (bif decide (cntM t dir n.id g.edges > 0) then [cntM t dir n.id g.edges] else []) := by rw [degL_next hx0, iL_app]
   generalize iL (degL g t dir (g.nodes.take j)) = o at *
   cases c : decide (cntM t dir n.id g.edges > 0) with
   | false =>
    rw [c, cond_false, show iL [] = [] from rfl, List.append_nil] at hnx
    match o, hol with
    | [], hol =>
     dsimp only [rowK, rowO]
     repeat' (first | refine yz ?_ | refine yi (encNd n) hxx ?_ | refine go_lookupE hz ?_)
     refine go_stop ?_
     refine ⟨⟨j + 1, by omega⟩, by dsimp only; omega, ?_⟩
     dsimp only
     rw [hnx]
     exact (zle 2)
    | a :: q, hol =>
     dsimp only [rowK, rowO]
     repeat' (first | refine yz ?_ | refine yi (encNd n) hxx ?_ | refine go_lookupE hz ?_)
     refine go_stop ?_
     refine ⟨⟨j + 1, by omega⟩, by dsimp only; omega, ?_⟩
     dsimp only
     rw [hnx]
     exact (zle 3)
   | true =>
    rw [c, cond_true, show iL [cntM t dir n.id g.edges] = [D.int (cntM t dir n.id g.edges)] from rfl] at hnx
    match o, hol with
    | [], hol =>
     dsimp only [rowK, rowO]
     repeat' (first | refine yz ?_ | refine yi (encNd n) hxx ?_ | refine go_lookupE hz ?_ | (refine qS rfl ⟨by simp, fun d hd => by (obtain rfl := List.mem_singleton.1 hd; rfl), by (show (0 + 1) * 8 ≤ 140737488355328; omega), by (show 0 + 1 ≤ 9223372036854775807; omega)⟩ ?_))
     refine go_stop ?_
     refine ⟨⟨j + 1, by omega⟩, by dsimp only; omega, ?_⟩
     dsimp only
     rw [hnx]
     exact (zren [0, 1, 3])
    | a :: q, hol =>
     dsimp only [rowK, rowO]
     repeat' (first | refine yz ?_ | refine yi (encNd n) hxx ?_ | refine go_lookupE hz ?_ | (refine qS rfl ⟨by simp, fun d hd => by (obtain rfl := List.mem_singleton.1 hd; rfl), by (show ((a :: q).length + 1) * 8 ≤ 140737488355328; omega), by (show (a :: q).length + 1 ≤ 9223372036854775807; omega)⟩ ?_))
     refine go_stop ?_
     refine ⟨⟨j + 1, by omega⟩, by dsimp only; omega, ?_⟩
     dsimp only
     rw [hnx]
     exact (zren [0, 1, 4])
  ·have g2 : decide ((j : Int) < ((g.nodes.map encNd).length : Int)) = false := by rw [hnn]; simp; omega
   rw [List.take_of_length_le hge2]
   have hol := degL_len g t dir g.nodes
   generalize degL g t dir g.nodes = o at *
   match o, hol with
   | [], hol =>
    dsimp only [rowK, rowO, iL, List.map, List.append]
    repeat' (first | refine yz ?_ | refine yc [] b125 (hN) ?_ | exact zD)
   | a :: q, hol =>
    have h := hP a q (by omega)
    dsimp only [rowK, rowO]
    show go _ _ ⟨[(3, .ptr 0 0), (7, .mp 1), (10, .own 2), (44, _), (45, _), (46, _)], [oGr g, .map kdI xs, .row 3 1 (iL (a :: q))]⟩ _
    repeat' (first | refine yz ?_ | refine yc [2] b125 (h) ?_)
    refine go_frz 2 rfl ?_
    repeat' (first | refine qL rfl rfl ?_ | exact zD)
end Go.Proofs.YtenpjlghikohmaaGreatDoor
namespace Go.Proofs.YtenpjlghikohmaaGreatDoor
set_option maxRecDepth 4000
open Go Go.Abs Go.Val Go.RowKit Go.Sort Go.Proofs Go.Proofs.Tryz
theorem row_turned {w w' : World} {F : Nat → Prop} {σ : Sg} {te : TypeId} {us ys : List D} {b c n : Nat} (hi : WInv E ⟨fun _ => False, 0, []⟩ F σ [.row te 1 us] w) (e1 : σ[0]? = some (b, c, n)) (hgb : w.grownBy w' (some b)) (cs' : List Value) (hh : w'.heap[b]? = some (.cells cs'.toArray te (0, 0)))
  (hcl : cs'.length = c * 1) (hn : n = ys.length) (hnc : n ≤ c) (hc : c ≤ maxLen) (z1 : ∀ x ∈ ys, x.cells.length = 1) (z2 : ∀ x ∈ ys, ∀ c ∈ x.cells, c.one = true)
  (hrd : ∀ (i : Nat) (x : D) (j : Nat) (cd : D), ys[i]? = some x → x.cells[j]? = some cd → ∃ v, cs'[i * 1 + j]? = some v ∧ Rd w' F cd v) :
  ∃ v F' σ', Ending.returned (.tuple #[]) = Ending.returned v ∧ Kept (Held w [.row te 1 us] σ) w w' ∧ (∀ b, F b → F' b) ∧ (∀ b, F' b → F b ∨ ¬ Held w [.row te 1 us] σ b) ∧ (∀ (i : Nat) p, i < [AObj.row te 1 us].length → σ[i]? = some p → σ'[i]? = some p) ∧ WInv E ⟨Held w [.row te 1 us] σ, 0, []⟩ F' σ' [.row te 1 ys] w' ∧ RdX w' F' σ' (.tup []) v := by
 have hσ : σ.length = 1 := hi.len
 obtain ⟨cs, g1, g2, g3, g4, g5, g6, g7, g8, g9, g10⟩ := hi.obs 0 _ _ rfl e1
 have hlb : ¬ Held w [.row te 1 us] σ b := fun hh => hh.2 ⟨0, _, _, rfl, rfl, e1, rfl⟩
 have hob : ObOK w' F (σ ++ [(b, c, n)]) (Held w [.row te 1 us] σ) (.row te 1 ys) (b, c, n) := ⟨cs', hh, hcl, hn, hnc, hc, z1, z2, hrd, hlb, g10⟩
 have hw := (WInv.lend hi).regrow (ob0 := [.dead]) (row := some b) (fun o x hx hl => by
   cases o with
   | zero => simp at hx; subst hx; cases hl
   | succ o => simp at hx) rfl hgb (fun k hk => by cases hk; exact g10) _ b c _ (.inl rfl) hob
 have h2 := hw.ren2 [1] rfl rfl
 refine ⟨_, F, _, rfl, ⟨hgb.os, hgb.tape, hgb.output, hgb.size, fun k hk => hgb.block k hk.1 (fun e => hlb (by cases e; exact hk)), fun k hk => hk.1⟩, fun _ h => h, fun _ h => .inl h, fun i p hi hp => ?_, h2, ⟨[], rfl, rfl, fun i x u hx => by simp at hx⟩⟩
 match i, hi with
 | 0, _ =>
  rw [e1] at hp
  cases hp
  match σ, hσ with
  | [q], _ => rfl
theorem sortS_evS (zs : List (List UInt8)) (hin : ∀ z ∈ zs, z.length ≤ maxLen) (hsz : zs.length ≤ 1000000) : EvS E 123 [.own 0] [.row 9 1 (strL zs)] (.tup []) [.row 9 1 (strL (sortU zs))] := by
 intro w F σ vs hi hl hr
 match vs, hl with
 | [v0], _ =>
  obtain ⟨b, c, n, e1, rfl⟩ := hr 0 _ _ rfl rfl
  obtain ⟨cs, g1, g2, g3, g4, g5, g6, g7, g8, g9, g10⟩ := hi.obs 0 _ _ rfl e1
  have hn : n = zs.length := by rw [g3]; simp [strL]
  subst hn
  have ht : cs.take zs.length = zs.map encStr := by
   refine List.ext_getElem? fun j => ?_
   rcases Nat.lt_or_ge j zs.length with hj | hj
   ·obtain ⟨v, q1, q2⟩ := g8 j (.str ⟨zs[j].toArray⟩) 0 (.str ⟨zs[j].toArray⟩) (by simp [strL, hj]) rfl
    rw [Nat.mul_one, Nat.add_zero] at q1
    rw [List.getElem?_take_of_lt hj, q1, (Rd.imm_inv q2).1]
    simp [hj, encStr]
   ·rw [List.getElem?_eq_none (by rw [List.length_take]; omega), List.getElem?_eq_none (by simpa using hj)]
  have hH : Holds encStr w b 0 zs.toArray := holds_of_block g1 (by simpa using ht)
  have hgl : b < w.heap.size := (Array.getElem?_eq_some_iff.1 g1).1
  have hsl : (sortU zs).length = zs.length := by simp [sortU]
  refine (Tryz.slices_Sort_string b 0 c zs w hH hgl (by omega)).mono ?_
  rintro e w' ⟨rfl, q, os, rfl⟩
  rw [show (zs.mergeSort fun x y => decide (x ≤ y)) = sortU zs from rfl]
  have hhp := heap_sorted (n := q) (os := os) (sortU zs).toArray g1
  have hgb := grownBy_sorted (w := w) (g := b) (n := q) (os := os) (sortU zs).toArray
  have htk := take_putCells cs.toArray (sortU zs) (by simp only [List.size_toArray]; omega)
  have hin2 : ∀ z ∈ sortU zs, z.length ≤ maxLen := fun z hz => hin z ((List.mergeSort_perm _ _).mem_iff.1 hz)
  obtain ⟨zc1, zc2⟩ := strL_cells (sortU zs)
  refine row_turned hi e1 hgb (putCells encStr 0 (sortU zs).toArray cs.toArray).toList (by simpa using hhp) (by simp [putCells, g2]) (by simp [strL, sortU]) g4 g5 zc1 zc2 fun i x j cd hx hc => ?_
  obtain ⟨v, r1, r2⟩ := strL_rd (F := F) hin2 i x j cd hx hc
  refine ⟨v, ?_, r2⟩
  have hlt : i * 1 + j < (sortU zs).length := by simpa using (List.getElem?_eq_some_iff.1 r1).1
  have h1 := congrArg (fun l => l[i * 1 + j]?) htk
  rw [List.getElem?_take_of_lt (by omega)] at h1
  rw [h1, r1]
def cfD (x y : Int) : Int := Lib.compareInt y x
theorem ltD (x y : Int) : ltOf cfD x y = decide (y < x) := by
 unfold ltOf cfD Lib.compareInt
 by_cases h1 : y < x
 ·simp [h1]
 ·by_cases h2 : x < y <;> simp [h1, h2]
theorem swoD : SWO (ltOf cfD) where
 irrefl x := by rw [ltD]; simp
 trans x y z h1 h2 := by rw [ltD] at *; simp at *; omega
 ntrans x y z h1 h2 := by rw [ltD] at *; simp at *; omega
set_option maxRecDepth 100000 in
theorem falling_calls (x y : Int) (W : World) : Calls Tryz.prog 126 #[.int .i64 x, .int .i64 y] W fun e w' => e = .returned (.int .i64 (cfD x y)) ∧ ∃ q, w' = W.drewN q := by
 have hcon := Tryz.cmp_Compare_int y x W
 unfold cfD
 generalize Lib.compareInt y x = r at hcon ⊢
 go_enter func126, ntmps126
 go_wp2_with (go_at_call 52; refine hcon.mono ?_; rintro e w' ⟨rfl, rfl⟩)
 go_ret
 exact ⟨rfl, 0, rfl⟩
def pdF (l : List Int) : List Int := (pdq (ltOf cfD) l.toArray 0 l.length (Lib.bitLen l.length) true true).toList
theorem pdF_ok (l : List Int) : (pdF l).Perm l ∧ (pdF l).length = l.length ∧ ∀ i j, i < j → j < l.length → (pdF l).getD j 0 ≤ (pdF l).getD i 0 := by
 have h := pdq_sorts (ltOf cfD) swoD l.toArray 0 l.length (Lib.bitLen l.length) true true (Nat.zero_le _) (by simp) (Or.inl rfl)
 obtain ⟨⟨h1, -, h3⟩, h4⟩ := h
 have hs : (pdF l).length = l.length := by unfold pdF; rw [Array.length_toList, h1]; simp
 refine ⟨?_, hs, fun i j hij hj => ?_⟩
 ·have e : ∀ (a : Array Int), a.size = l.length → (a.extract 0 l.length).toList = a.toList := fun a ha => by simp [← ha]
  rw [e _ (by rw [h1]; simp), e _ (by simp)] at h3
  exact h3
 ·have := h4 i j (Nat.zero_le _) hij hj
  rw [ltD, decide_eq_false_iff_not] at this
  unfold pdF
  have g : ∀ k, k < l.length → ((pdq (ltOf cfD) l.toArray 0 l.length (Lib.bitLen l.length) true true).toList).getD k 0 = (pdq (ltOf cfD) l.toArray 0 l.length (Lib.bitLen l.length) true true)[k]! := fun k hk => by
   rw [List.getD_eq_getElem?_getD, Array.getElem?_toList, getElem!_pos _ k (by rw [h1]; simpa using hk), Array.getElem?_eq_getElem (by rw [h1]; simpa using hk)]
   rfl
  rw [g i (by omega), g j hj]
  omega
theorem sortI_evS (l : List Int) (hsz : l.length ≤ 1000000) : EvS E 125 [.own 0, .d (.imm (.func (.func 126) #[] #[]))] [.row 3 1 (iL l)] (.tup []) [.row 3 1 (iL (pdF l))] := by
 intro w F σ vs hi hl hr
 match vs, hl with
 | [v0, v1], _ =>
  obtain ⟨b, c, n, e1, rfl⟩ := hr 0 _ _ rfl rfl
  obtain ⟨rfl, -⟩ := Rd.imm_inv (hr 1 _ v1 rfl rfl)
  obtain ⟨cs, g1, g2, g3, g4, g5, g6, g7, g8, g9, g10⟩ := hi.obs 0 _ _ rfl e1
  have hn : n = l.length := by rw [g3]; simp [iL]
  subst hn
  have hrg : ∀ j (h : j < l.length), cs[j]? = some (.int .i64 l[j]) ∧ Go.Abs.okV (.int .i64 l[j]) = true := fun j hj => by
   obtain ⟨v, q1, q2⟩ := g8 j (.int l[j]) 0 (.int l[j]) (by simp [iL, hj]) rfl
   rw [Nat.mul_one, Nat.add_zero] at q1
   rw [q1, (Rd.imm_inv q2).1]
   exact ⟨rfl, (Rd.imm_inv q2).2⟩
  have ht : cs.take l.length = l.map (Value.int .i64) := by
   refine List.ext_getElem? fun j => ?_
   rcases Nat.lt_or_ge j l.length with hj | hj
   ·rw [List.getElem?_take_of_lt hj, (hrg j hj).1]
    simp [hj]
   ·rw [List.getElem?_eq_none (by rw [List.length_take]; omega), List.getElem?_eq_none (by simpa using hj)]
  have hH : Holds (Value.int .i64) w b 0 l.toArray := holds_of_blockI g1 (by simpa using ht)
  have hgl : b < w.heap.size := (Array.getElem?_eq_some_iff.1 g1).1
  obtain ⟨p1, p2, -⟩ := pdF_ok l
  have eg : ∀ args w, (callFunc 126 args).run Tryz.prog w = .ok (.enter 126 args) w := enters_of func126 (by kernel_rfl) rfl
  have hcmp : CmpReads Tryz.prog 126 #[] (Value.int .i64) cfD b 0 l.toArray.size w := fun _ _ _ _ x y => falling_calls x y _
  have hcon := Any.slices_SortFunc_eq Tryz.sortInt (Value.int .i64) (fun _ => rfl) cfD swoD 126 #[] b 0 c l.toArray w eg hcmp.lays hH hgl (by simp; omega)
  change Calls Tryz.prog 125 _ _ _ at hcon
  simp only [List.size_toArray] at hcon
  refine hcon.mono ?_
  rintro e w' ⟨rfl, q, os, rfl⟩
  have hpd : pdq (ltOf cfD) l.toArray 0 l.length (Lib.bitLen l.length) true true = (pdF l).toArray := by unfold pdF; simp
  rw [hpd]
  unfold sortWorld
  have hhp := heap_sortedI (n := q) (os := os) (pdF l).toArray g1
  have hgb := grownBy_sortedI (w := w) (g := b) (n := q) (os := os) (pdF l).toArray
  have htk := take_putCellsI cs.toArray (pdF l) (by simp only [List.size_toArray]; omega)
  refine row_turned hi e1 hgb (putCells (Value.int .i64) 0 (pdF l).toArray cs.toArray).toList (by simpa using hhp) (by simp [putCells, g2]) (by rw [iL_len, p2]) g4 g5 (iL_cells _) (fun x hx c hc => ?_) fun i x j cd hx hc => ?_
  ·obtain ⟨u, -, rfl⟩ := List.mem_map.1 hx
   rw [show (D.int u).cells = [D.int u] from rfl, List.mem_singleton] at hc
   subst hc
   rfl
  ·rw [iL, List.getElem?_map, Option.map_eq_some_iff] at hx
   obtain ⟨u, hu, rfl⟩ := hx
   rw [show (D.int u).cells = [D.int u] from rfl] at hc
   cases j with
   | zero =>
    simp at hc
    subst hc
    have hm : u ∈ l := p1.mem_iff.1 (List.mem_of_getElem? hu)
    obtain ⟨k, hk, hk2⟩ := List.getElem_of_mem hm
    have h9 := (hrg k hk).2
    rw [hk2] at h9
    refine ⟨.int .i64 u, ?_, Rd.imm _ h9⟩
    have hlt : i < (pdF l).length := (List.getElem?_eq_some_iff.1 hu).1
    have h1 := congrArg (fun l => l[i]?) htk
    rw [List.getElem?_take_of_lt hlt, List.getElem?_map, hu] at h1
    rw [Nat.mul_one, Nat.add_zero]
    exact h1
   | succ j => simp at hc
end Go.Proofs.YtenpjlghikohmaaGreatDoor
namespace Go.Proofs.YtenpjlghikohmaaGreatDoor
set_option maxRecDepth 4000
open Go Go.Abs Go.Val Go.Proofs.Tryz
attribute [local irreducible] go SGo HasBody Ev ExtEv EvO EvS
def idAt (l : List Nd) (i : Nat) : Int := (l[i]?.getD nd0).id
def bsP (l : List Nd) (n : Int) (h : Nat) : Bool := decide (Lib.compareInt (idAt l h) n < 0)
def bsR (l : List Nd) (n : Int) : Nat := bsF (bsP l n) 0 l.length
def hasI (l : List Nd) (n : Int) : Bool := decide (((bsR l n : Nat) : Int) < l.length) && Lib.compareInt (idAt l (bsR l n)) n == 0
structure BnZ (l : List Nd) (n : Int) where
 i : Int
 j : Int
 hi : 0 ≤ i
 hij : i ≤ j
 hj : j ≤ l.length
 ht : bsF (bsP l n) i.toNat j.toNat = bsR l n
theorem has1_ev (x : Nd) (n : Int) : Ev E 215 [encNd x, .int n] (.d (.int (Lib.compareInt x.id n))) := by
 have h := compare_ev x.id n
 refine ye2 func215 ntmps215 fun _ _ _=>?_
 repeat' (first | refine yz ?_ | refine yp b52 h ?_ | exact zD)
theorem nd_at {l : List Nd} {i : Int} {p : Nat} (hp : i.toNat = p) (h : p < l.length) : ∃ x, l[p]? = some x ∧ idAt l p = x.id ∧ (l.map encNd)[i.toNat]? = some (encNd x) := by
 refine ⟨l[p], List.getElem?_eq_getElem h, ?_, ?_⟩
 ·unfold idAt; rw [List.getElem?_eq_getElem h]; rfl
 ·rw [hp, List.getElem?_map, List.getElem?_eq_getElem h]; rfl
theorem bsearch_ev (l : List Nd) (n : Int) (hl : l.length ≤ 1000000) : Ev E 214 [.sl (l.map encNd), .int n, .imm (.func (.func 215) #[] #[])] (.tup [.int (bsR l n : Nat), .bool (hasI l n)]) := by
 have hle : (l.map encNd).length = l.length := by simp
 have hb : HasBody E 215 := b215
 refine ye3 func214 ntmps214 fun _ _ _=>?_
 repeat' (refine yz ?_)
 refine go_loop_ (α := BnZ l n) (fun p => ⟨[(0, .d (.sl (l.map encNd))), (1, .d (.int n)), (2, .d (.imm (.func (.func 215) #[] #[]))), (8, .d (.int (l.map encNd).length)), (9, .d (.int p.i)), (10, .d (.int p.j))], []⟩) (fun p => (p.j - p.i).toNat) ⟨0, l.length, Int.le_refl _, by omega, Int.le_refl _, rfl⟩ (by rw [hle]; exact (zle 0)) ?_
 rintro ⟨i, j, hi, hij, hj, ht⟩
 dsimp only
 by_cases hlt : i < j
 ·have g1 := yT (i < j) hlt
  obtain ⟨x, -, hid, hx⟩ := nd_at (l := l) (i := (i + j) / 2) (p := (i.toNat + j.toNat) / 2) (by omega) (by omega)
  have q := has1_ev x n
  rw [bsF, if_pos (by omega)] at ht
  have hP : bsP l n ((i.toNat + j.toNat) / 2) = decide (Lib.compareInt x.id n < 0) := by unfold bsP; rw [hid]
  rw [hP] at ht
  cases hc : decide (Lib.compareInt x.id n < 0) with
  | true =>
   rw [hc, cond_true] at ht
   repeat' (first | refine go_half _ rfl rfl rfl rfl rfl rfl rfl (by omega) (by omega) ?_ | refine yz ?_ | refine yi (encNd x) hx ?_ | refine yp hb q ?_)
   refine go_stop ?_
   exact ⟨⟨(i + j) / 2 + 1, j, by omega, by omega, hj, by rw [← ht, show ((i + j) / 2 + 1).toNat = (i.toNat + j.toNat) / 2 + 1 by omega]⟩, by dsimp only; omega, (zle 0)⟩
  | false =>
   rw [hc, cond_false] at ht
   repeat' (first | refine go_half _ rfl rfl rfl rfl rfl rfl rfl (by omega) (by omega) ?_ | refine yz ?_ | refine yi (encNd x) hx ?_ | refine yp hb q ?_)
   refine go_stop ?_
   exact ⟨⟨i, (i + j) / 2, hi, by omega, by omega, by rw [← ht, show ((i + j) / 2).toNat = (i.toNat + j.toNat) / 2 by omega]⟩, by dsimp only; omega, (zle 0)⟩
 ·have g1 := yF (i < j) hlt
  rw [bsF, if_neg (by omega)] at ht
  obtain ⟨k, rfl⟩ := Int.eq_ofNat_of_zero_le hi
  simp only [Int.toNat_natCast] at ht
  unfold hasI
  rw [← ht]
  have hnn : decide ((k : Int) < (l.map encNd).length) = decide ((k : Int) < l.length) := by rw [hle]
  cases hc : decide ((k : Int) < (l.length : Int)) with
  | true =>
   rw [hc] at hnn
   obtain ⟨x, -, hid, hx⟩ := nd_at (l := l) (i := (k : Int)) (p := k) (by omega) (by have := of_decide_eq_true hc; omega)
   have q := has1_ev x n
   rw [hid]
   repeat' (first | refine yz ?_ | refine yi (encNd x) hx ?_ | refine yp hb q ?_ | refine yx ?_ | exact zL)
  | false =>
   rw [hc] at hnn
   repeat' (first | refine yz ?_ | refine yx ?_ | exact zL)
theorem ghas_ev (l : List Nd) (n : Int) (hl : l.length ≤ 1000000) : Ev E 121 [.sl (l.map encNd), .int n] (.d (.bool (hasI l n))) := by
 have h := bsearch_ev l n hl
 refine ye2 func121 ntmps121 fun _ _ _=>?_
 repeat' (first | refine yz ?_ | refine yp b214 h ?_ | exact zD)
attribute [local irreducible] PGo RGo
theorem inc_ev (l : List ByteArray) : Ev E 213 [.sl (l.map .str)] (.d (.bool (riseF l))) := Ev.fit fun hfit => by
 have hmax := (fit_map (hfit (.sl (l.map .str)) (by simp))).1
 have hle : (l.map D.str).length = l.length := by simp
 by_cases h0 : l = []
 ·subst h0
  refine ye1 func213 ntmps213 fun _ _ _=>?_
  repeat' (refine yz ?_)
  refine go_loop_ (α := Unit) (fun p => ⟨[(0, .d (.sl [])), (3, .d (.int 1))], []⟩) (fun p => 0) () (zle 0) ?_
  rintro -
  have g1 : decide ((1 : Int) < (([] : List D).length : Int)) = false := rfl
  repeat' (first | refine yz ?_ | exact zD)
 have hp := List.length_pos_iff.2 h0
 refine ye1 func213 ntmps213 fun _ _ _=>?_
 repeat' (refine yz ?_)
 refine go_loop_ (α := SRs l) (fun p => ⟨[(0, .d (.sl (l.map .str))), (3, .d (.int ((p.i + 1 : Nat) : Int)))], []⟩) (fun p => l.length - p.i) ⟨0, by omega, rfl⟩ (zle 0) ?_
 rintro ⟨i, hi, ok⟩
 dsimp only
 rcases Nat.lt_or_ge (i + 1) l.length with hlt | hge
 ·have g1 : decide (((i + 1 : Nat) : Int) < ((l.map D.str).length : Int)) = true := by rw [hle]; simp; omega
  have ha0 := List.getElem?_eq_getElem (show i < l.length by omega)
  have hb0 := List.getElem?_eq_getElem hlt
  generalize l[i] = a at ha0
  generalize l[i + 1] = b at hb0
  have hb := map_at (f := D.str) hb0
  have ha : (l.map D.str)[(((i + 1 : Nat) : Int) - 1).toNat]? = some (.str a) := by
   rw [show (((i + 1 : Nat) : Int) - 1) = (i : Int) by omega]; exact map_at (f := D.str) ha0
  have g2 := leq_not a b
  rw [ok, rise_at ha0 hb0]
  cases hc : Op.bytesLess a.toList b.toList with
  | true =>
   rw [hc] at g2
   repeat' (first | refine yz ?_ | refine yi (.str b) hb ?_ | refine yi (.str a) ha ?_)
   refine go_stop ?_
   exact ⟨⟨i + 1, hlt, by rw [ok, rise_at ha0 hb0, hc]; rfl⟩, by dsimp only; omega, (zle 0)⟩
  | false =>
   rw [hc] at g2
   repeat' (first | refine yz ?_ | refine yi (.str b) hb ?_ | refine yi (.str a) ha ?_ | exact zD)
 ·have g1 : decide (((i + 1 : Nat) : Int) < ((l.map D.str).length : Int)) = false := by rw [hle]; simp; omega
  rw [ok, rise_end (by omega)]
  repeat' (first | refine yz ?_ | exact zD)
theorem unnamed_ev (s : ByteArray) : Ev E 212 [.str s] (.d (.bool (!nameF s))) := by
 have h := name_ev s
 refine ye1 func212 ntmps212 fun _ _ _=>?_
 repeat' (first | refine yz ?_ | refine yp b122 h ?_ | exact zD)
def keyL (l : List Pr) : List ByteArray := l.map Pr.key
def partF (labels : List ByteArray) (props : List Pr) : Int :=
 bif decide (labels.length > 8) || decide (props.length > 16) then 4 else
 bif (labels.any fun s => !nameF s) || ((keyL props).any fun s => !nameF s) then 6 else
 bif !riseF labels || !riseF (keyL props) then 26 else
 bif props.any fun p => !plainF p.v then 8 else 0
structure SKl (l : List Pr) where
 i : Nat
 hi : i ≤ l.length
structure SAn {α : Type} (l : List α) (f : α → Bool) where
 i : Nat
 hi : i ≤ l.length
 ok : l.any f = (l.drop i).any f
theorem anyW_at {α : Type} {l : List α} {f : α → Bool} {i : Nat} {x : α} (h : l[i]? = some x) : (l.drop i).any f = (f x || (l.drop (i + 1)).any f) := by rw [drop_at h, List.any_cons]
theorem keyL_next {l : List Pr} {i : Nat} {x : Pr} (h : l[i]? = some x) : (keyL (l.take (i + 1))).map D.str = (keyL (l.take i)).map D.str ++ [.str x.key] := by
 rw [List.take_add_one, h]
 simp [keyL]
set_option maxHeartbeats 2000000 in
theorem partsG_ev (labels : List ByteArray) (props : List Pr) : Ev E 120 [.sl (labels.map .str), .sl (props.map encPr)] (.d (.int (partF labels props))) := by
 have hl1 : (labels.map D.str).length = labels.length := by simp
 have hl2 : (props.map encPr).length = props.length := by simp
 have e1 : decide (((labels.map D.str).length : Int) > 8) = decide (labels.length > 8) := by rw [hl1, decide_eq_decide]; omega
 have e2 : decide (((props.map encPr).length : Int) > 16) = decide (props.length > 16) := by rw [hl2, decide_eq_decide]; omega
 have h1 := containsFuncS_ev 212 b212 (fun s => !nameF s) labels fun x _ => unnamed_ev x
 have h2 := containsFuncS_ev 212 b212 (fun s => !nameF s) (keyL props) fun x _ => unnamed_ev x
 have h3 := inc_ev labels
 have h4 := inc_ev (keyL props)
 unfold partF
 rw [← e1, ← e2]
 cases c1 : decide (((labels.map D.str).length : Int) > 8) with
 | true =>
  refine ye2 func120 ntmps120 fun _ _ _=>?_
  repeat' (first | refine yz ?_ | refine yx ?_ | exact zD)
 | false =>
 cases c2 : decide (((props.map encPr).length : Int) > 16) with
 | true =>
  refine ye2 func120 ntmps120 fun _ _ _=>?_
  repeat' (first | refine yz ?_ | refine yx ?_ | exact zD)
 | false =>
 have hpl : props.length ≤ 16 := by have := of_decide_eq_false c2; omega
 simp only [Bool.or_false, cond_false]
 refine ye2 func120 ntmps120 fun _ _ _=>?_
 repeat' (first | refine yz ?_ | refine yx ?_)
 refine go_loop_ (α := SKl props) (fun p => ⟨[(5, rowK 0 ((keyL (props.take p.i)).map .str)), (0, .d (.sl (labels.map .str))), (1, .d (.sl (props.map encPr))), (18, .d (.sl (props.map encPr))), (19, .d (.int (props.map encPr).length)), (20, .d (.int p.i))], rowO 9 1 ((keyL (props.take p.i)).map .str)⟩) (fun p => props.length - p.i) ⟨0, by omega⟩ (zle 0) ?_
 rintro ⟨i, hi⟩
 dsimp only
 have hol : ((keyL (props.take i)).map D.str).length ≤ 1000000 := by simp [keyL]; omega
 rcases Nat.lt_or_ge i props.length with hlt | hge
 ·have g1 : decide ((i : Int) < ((props.map encPr).length : Int)) = true := by rw [hl2]; simpa using hlt
  have hx0 := List.getElem?_eq_getElem hlt
  generalize props[i] = x at hx0
  have hx := map_at (f := encPr) hx0
  have hnx := keyL_next hx0
  generalize (keyL (props.take i)).map D.str = o at *
  match o, hol with
  | [], hol =>
   dsimp only [rowK, rowO]
   repeat' (first | refine yz ?_ | refine yi (encPr x) hx ?_ | (refine qS rfl ⟨by simp, fun d hd => by (obtain rfl := List.mem_singleton.1 hd; rfl), by (show (0 + 1) * 16 ≤ 140737488355328; omega), by (show 0 + 1 ≤ 9223372036854775807; omega)⟩ ?_))
   refine go_stop ?_
   refine ⟨⟨i + 1, by omega⟩, by dsimp only; omega, ?_⟩
   dsimp only
   rw [hnx]
   exact (zren [1])
  | a :: q, hol =>
   dsimp only [rowK, rowO]
   repeat' (first | refine yz ?_ | refine yi (encPr x) hx ?_ | (refine qS rfl ⟨by simp, fun d hd => by (obtain rfl := List.mem_singleton.1 hd; rfl), by (show ((a :: q).length + 1) * 16 ≤ 140737488355328; omega), by (show (a :: q).length + 1 ≤ 9223372036854775807; omega)⟩ ?_))
   refine go_stop ?_
   refine ⟨⟨i + 1, by omega⟩, by dsimp only; omega, ?_⟩
   dsimp only
   rw [hnx]
   exact (zren [2])
 ·have g1 : decide ((i : Int) < ((props.map encPr).length : Int)) = false := by rw [hl2]; simp; omega
  rw [List.take_of_length_le hge]
  refine qA ?_
  refine go_rowD (ob := []) rfl rfl (by repeat (first | exact trivial | refine ⟨rfl, ?_⟩)) (by repeat (first | exact trivial | refine ⟨rfl, ?_⟩)) ?_
  cases a1 : labels.any fun s => !nameF s with
  | true =>
   rw [a1] at h1
   repeat' (first | refine yz ?_ | refine yp b149 h1 ?_ | exact zD)
  | false =>
  cases a2 : (keyL props).any fun s => !nameF s with
  | true =>
   rw [a1] at h1
   rw [a2] at h2
   repeat' (first | refine yz ?_ | refine yp b149 h1 ?_ | refine yp b149 h2 ?_ | exact zD)
  | false =>
  cases a3 : riseF labels with
  | false =>
   rw [a1] at h1
   rw [a2] at h2
   rw [a3] at h3
   repeat' (first | refine yz ?_ | refine yp b149 h1 ?_ | refine yp b149 h2 ?_ | refine yp b213 h3 ?_ | exact zD)
  | true =>
  cases a4 : riseF (keyL props) with
  | false =>
   rw [a1] at h1
   rw [a2] at h2
   rw [a3] at h3
   rw [a4] at h4
   repeat' (first | refine yz ?_ | refine yp b149 h1 ?_ | refine yp b149 h2 ?_ | refine yp b213 h3 ?_ | refine yp b213 h4 ?_ | exact zD)
  | true =>
   rw [a1] at h1
   rw [a2] at h2
   rw [a3] at h3
   rw [a4] at h4
   simp only [Bool.or_false, Bool.not_true, cond_false]
   repeat' (first | refine yz ?_ | refine yp b149 h1 ?_ | refine yp b149 h2 ?_ | refine yp b213 h3 ?_ | refine yp b213 h4 ?_)
   refine go_loop_ (α := SAn props fun p => !plainF p.v) (fun p => ⟨[(44, .d (.sl (props.map encPr))), (45, .d (.int (props.map encPr).length)), (46, .d (.int p.i))], []⟩) (fun p => props.length - p.i) ⟨0, by omega, rfl⟩ (zle 0) ?_
   rintro ⟨j, hj, ok⟩
   dsimp only
   rcases Nat.lt_or_ge j props.length with hlt | hge2
   ·have g1 : decide ((j : Int) < ((props.map encPr).length : Int)) = true := by rw [hl2]; simpa using hlt
    have hx0 := List.getElem?_eq_getElem hlt
    generalize props[j] = x at hx0
    obtain ⟨xk, ⟨vk, vn, vd, vS, vl⟩⟩ := x
    have hx := map_at (f := encPr) hx0
    have h5 := Plain_ev ixOK (.mk vk vn vd vS vl)
    rw [ok, anyW_at hx0]
    cases a5 : plainF (.mk vk vn vd vS vl) with
    | false =>
     rw [a5] at h5
     repeat' (first | refine yz ?_ | refine yi _ hx ?_ | refine yp b147 h5 ?_ | exact zD)
    | true =>
     rw [a5] at h5
     repeat' (first | refine yz ?_ | refine yi _ hx ?_ | refine yp b147 h5 ?_)
     refine go_stop ?_
     exact ⟨⟨j + 1, by omega, by rw [ok, anyW_at hx0, a5]; rfl⟩, by dsimp only; omega, (zle 0)⟩
   ·have g1 : decide ((j : Int) < ((props.map encPr).length : Int)) = false := by rw [hl2]; simp; omega
    rw [ok, List.drop_eq_nil_of_le hge2]
    repeat' (first | refine yz ?_ | exact zD)
def okNd (prev : Option Int) (nn : Int) (n : Nd) : Int :=
 bif (match prev with | some p => decide (n.id ≤ p) | none => false) then 26 else
 bif decide (n.id < 1) || decide (n.id ≥ nn) then 1 else partF n.labels n.props
def nodesC (nn : Int) : Option Int → List Nd → Int
 | _, [] => 0
 | prev, n :: r => bif okNd prev nn n != 0 then okNd prev nn n else nodesC nn (some n.id) r
def okEd (prev : Option Int) (g : Gr) (e : Ed) : Int :=
 bif (match prev with | some p => decide (e.id ≤ p) | none => false) then 26 else
 bif decide (e.id < 1) || decide (e.id ≥ g.ne) then 1 else
 bif !hasI g.nodes e.src || !hasI g.nodes e.dst then 10 else
 bif !nameF e.ty then 6 else partF [] e.props
def edgesC (g : Gr) : Option Int → List Ed → Int
 | _, [] => 0
 | prev, e :: r => bif okEd prev g e != 0 then okEd prev g e else edgesC g (some e.id) r
def chkG (g : Gr) : Int :=
 bif decide (g.nodes.length > 2000) || decide (g.edges.length > 4000) then 4 else
 bif decide (g.nn < 1) || decide (g.nn > 1000001) || (decide (g.ne < 1) || decide (g.ne > 1000001)) then 1 else
 bif nodesC g.nn none g.nodes != 0 then nodesC g.nn none g.nodes else edgesC g none g.edges
def prevN (l : List Nd) : Nat → Option Int
 | 0 => none
 | j + 1 => (l[j]?).map Nd.id
def prevE (l : List Ed) : Nat → Option Int
 | 0 => none
 | j + 1 => (l[j]?).map Ed.id
structure SCk (g : Gr) (R : Int) where
 i : Nat
 hi : i ≤ g.nodes.length
 ok : R = nodesC g.nn (prevN g.nodes i) (g.nodes.drop i)
structure SCe (g : Gr) (R : Int) where
 i : Nat
 hi : i ≤ g.edges.length
 ok : R = edgesC g (prevE g.edges i) (g.edges.drop i)
theorem nodesC_at {l : List Nd} {i : Nat} {n : Nd} {nn : Int} (h : l[i]? = some n) : nodesC nn (prevN l i) (l.drop i) = bif okNd (prevN l i) nn n != 0 then okNd (prevN l i) nn n else nodesC nn (prevN l (i + 1)) (l.drop (i + 1)) := by
 rw [drop_at h, nodesC, prevN, h]; rfl
theorem edgesC_at {g : Gr} {i : Nat} {e : Ed} (h : g.edges[i]? = some e) : edgesC g (prevE g.edges i) (g.edges.drop i) = bif okEd (prevE g.edges i) g e != 0 then okEd (prevE g.edges i) g e else edgesC g (prevE g.edges (i + 1)) (g.edges.drop (i + 1)) := by
 rw [drop_at h, edgesC, prevE, h]; rfl
set_option maxRecDepth 20000 in
set_option maxHeartbeats 8000000 in
theorem gcheck_ev (g : Gr) : Ev E 41 [encGr g] (.d (.int (chkG g))) := by
 have hnn : (g.nodes.map encNd).length = g.nodes.length := by simp
 have hen : (g.edges.map encEd).length = g.edges.length := by simp
 have e1 : decide (((g.nodes.map encNd).length : Int) > 2000) = decide (g.nodes.length > 2000) := by rw [hnn, decide_eq_decide]; omega
 have e2 : decide (((g.edges.map encEd).length : Int) > 4000) = decide (g.edges.length > 4000) := by rw [hen, decide_eq_decide]; omega
 unfold chkG
 rw [← e1, ← e2]
 refine ye1 func41 ntmps41 fun _ _ _=>?_
 repeat' (refine yz ?_)
 cases c1 : decide (((g.nodes.map encNd).length : Int) > 2000) with
 | true =>
  repeat' (first | refine yz ?_ | exact zD)
 | false =>
 repeat' (refine yz ?_)
 cases c2 : decide (((g.edges.map encEd).length : Int) > 4000) with
 | true =>
  repeat' (first | refine yz ?_ | exact zD)
 | false =>
 repeat' (refine yz ?_)
 cases c3 : decide (g.nn < 1) with
 | true =>
  repeat' (first | refine yz ?_ | exact zD)
 | false =>
 repeat' (refine zS rfl ?_)
 cases c4 : decide (g.nn > 1000001) with
 | true =>
  repeat' (first | refine yz ?_ | exact zD)
 | false =>
 repeat' (refine zS rfl ?_)
 cases c5 : decide (g.ne < 1) with
 | true =>
  repeat' (first | refine yz ?_ | exact zD)
 | false =>
 repeat' (refine yz ?_)
 cases c6 : decide (g.ne > 1000001) with
 | true =>
  repeat' (first | refine yz ?_ | exact zD)
 | false =>
 repeat' (refine yz ?_)
 have hn2 : g.nodes.length ≤ 2000 := by have := of_decide_eq_false c1; omega
 have he2 : g.edges.length ≤ 4000 := by have := of_decide_eq_false c2; omega
 simp only [Bool.or_false, cond_false]
 generalize hR : nodesC g.nn none g.nodes = R
 refine go_loop_ (α := SCk g R) (fun p => ⟨[(1, .ptr 0 0), (38, .d (.sl (g.nodes.map encNd))), (39, .d (.int (g.nodes.map encNd).length)), (40, .d (.int p.i))], [oGr g]⟩) (fun p => g.nodes.length - p.i) ⟨0, by omega, hR.symm⟩ (zle 1) ?_
 rintro ⟨i, hi, ok⟩
 dsimp only
 rcases Nat.lt_or_ge i g.nodes.length with hlt | hge
 ·have g1 : decide ((i : Int) < ((g.nodes.map encNd).length : Int)) = true := by rw [hnn]; simpa using hlt
  have hx0 := List.getElem?_eq_getElem hlt
  generalize g.nodes[i] = n at hx0
  have hx := map_at (f := encNd) hx0
  have hp := partsG_ev n.labels n.props
  rw [nodesC_at hx0] at ok
  cases i with
  | zero =>
   have g2 : decide (((0 : Nat) : Int) > 0) = false := rfl
   simp only [okNd, prevN, cond_false] at ok
   repeat' (first | refine yz ?_ | refine yi (encNd n) hx ?_)
   cases c7 : decide (n.id < 1) with
   | true =>
    rw [c7] at ok
    rw [show R = 1 from ok]
    repeat' (first | refine yz ?_ | exact zD)
   | false =>
   repeat' (refine yz ?_)
   cases c8 : decide (n.id ≥ g.nn) with
   | true =>
    rw [c7, c8] at ok
    rw [show R = 1 from ok]
    repeat' (first | refine yz ?_ | exact zD)
   | false =>
   rw [c7, c8] at ok
   simp only [Bool.or_false, cond_false] at ok
   generalize partF n.labels n.props = P at hp ok
   repeat' (first | refine yz ?_ | refine yp b120 hp ?_)
   cases c9 : P != 0 with
   | true =>
    rw [c9, cond_true] at ok
    rw [ok, c9, cond_true]
    repeat' (first | refine yz ?_ | exact zD)
   | false =>
    rw [c9, cond_false] at ok
    repeat' (refine yz ?_)
    refine go_stop ?_
    exact ⟨⟨0 + 1, by omega, ok⟩, by dsimp only; omega, (zle 1)⟩
  | succ j =>
   have g2 := yT (((j + 1 : Nat) : Int) > 0) (by omega)
   obtain ⟨p, hy0⟩ : ∃ p, g.nodes[j]? = some p := ⟨_, List.getElem?_eq_getElem (by omega)⟩
   have hy : (g.nodes.map encNd)[(((j + 1 : Nat) : Int) - 1).toNat]? = some (encNd p) := by
    rw [show (((j + 1 : Nat) : Int) - 1) = (j : Int) by omega]; exact map_at (f := encNd) hy0
   have hpv : prevN g.nodes (j + 1) = some p.id := by rw [prevN, hy0]; rfl
   rw [hpv] at ok
   simp only [okNd] at ok
   repeat' (first | refine yz ?_ | refine yi (encNd n) hx ?_ | refine yi (encNd p) hy ?_ | refine yx ?_)
   cases c0 : decide (n.id ≤ p.id) with
   | true =>
    rw [c0] at ok
    rw [show R = 26 from ok]
    repeat' (first | refine yz ?_ | exact zD)
   | false =>
   rw [c0, cond_false] at ok
   repeat' (refine yz ?_)
   cases c7 : decide (n.id < 1) with
   | true =>
    rw [c7] at ok
    rw [show R = 1 from ok]
    repeat' (first | refine yz ?_ | exact zD)
   | false =>
   repeat' (refine yz ?_)
   cases c8 : decide (n.id ≥ g.nn) with
   | true =>
    rw [c7, c8] at ok
    rw [show R = 1 from ok]
    repeat' (first | refine yz ?_ | exact zD)
   | false =>
   rw [c7, c8] at ok
   simp only [Bool.or_false, cond_false] at ok
   generalize partF n.labels n.props = P at hp ok
   repeat' (first | refine yz ?_ | refine yp b120 hp ?_)
   cases c9 : P != 0 with
   | true =>
    rw [c9, cond_true] at ok
    rw [ok, c9, cond_true]
    repeat' (first | refine yz ?_ | exact zD)
   | false =>
    rw [c9, cond_false] at ok
    repeat' (refine yz ?_)
    refine go_stop ?_
    exact ⟨⟨j + 1 + 1, by omega, ok⟩, by dsimp only; omega, (zle 1)⟩
 ·have g1 : decide ((i : Int) < ((g.nodes.map encNd).length : Int)) = false := by rw [hnn]; simp; omega
  rw [List.drop_eq_nil_of_le hge] at ok
  rw [show R = 0 from ok]
  simp only [bne_self_eq_false, cond_false]
  generalize hR2 : edgesC g none g.edges = R2
  repeat' (refine yz ?_)
  refine go_loop_ (α := SCe g R2) (fun p => ⟨[(1, .ptr 0 0), (79, .d (.sl (g.edges.map encEd))), (80, .d (.int (g.edges.map encEd).length)), (81, .d (.int p.i))], [oGr g]⟩) (fun p => g.edges.length - p.i) ⟨0, by omega, hR2.symm⟩ (zle 1) ?_
  rintro ⟨k, hk, ok2⟩
  dsimp only
  rcases Nat.lt_or_ge k g.edges.length with hlt | hge2
  ·have g1 : decide ((k : Int) < ((g.edges.map encEd).length : Int)) = true := by rw [hen]; simpa using hlt
   have hx0 := List.getElem?_eq_getElem hlt
   generalize g.edges[k] = e at hx0
   have hx := map_at (f := encEd) hx0
   have hp := partsG_ev [] e.props
   have h1 := ghas_ev g.nodes e.src (by omega)
   have h2 := ghas_ev g.nodes e.dst (by omega)
   have h3 := name_ev e.ty
   rw [edgesC_at hx0] at ok2
   cases k with
   | zero =>
    have g2 : decide (((0 : Nat) : Int) > 0) = false := rfl
    simp only [okEd, prevE, cond_false] at ok2
    repeat' (first | refine yz ?_ | refine yi (encEd e) hx ?_)
    cases c7 : decide (e.id < 1) with
    | true =>
     rw [c7] at ok2
     rw [show R2 = 1 from ok2]
     repeat' (first | refine yz ?_ | exact zD)
    | false =>
    repeat' (refine yz ?_)
    cases c8 : decide (e.id ≥ g.ne) with
    | true =>
     rw [c7, c8] at ok2
     rw [show R2 = 1 from ok2]
     repeat' (first | refine yz ?_ | exact zD)
    | false =>
    rw [c7, c8] at ok2
    simp only [Bool.or_false, cond_false] at ok2
    repeat' (first | refine yz ?_ | refine yp b121 h1 ?_)
    cases d1 : hasI g.nodes e.src with
    | false =>
     rw [d1] at ok2
     rw [show R2 = 10 from ok2]
     repeat' (first | refine yz ?_ | exact zD)
    | true =>
    repeat' (first | refine yz ?_ | refine yp b121 h2 ?_)
    cases d2 : hasI g.nodes e.dst with
    | false =>
     rw [d1, d2] at ok2
     rw [show R2 = 10 from ok2]
     repeat' (first | refine yz ?_ | exact zD)
    | true =>
    rw [d1, d2] at ok2
    simp only [Bool.not_true, Bool.or_false, cond_false] at ok2
    repeat' (first | refine yz ?_ | refine yp b122 h3 ?_)
    cases d3 : nameF e.ty with
    | false =>
     rw [d3] at ok2
     rw [show R2 = 6 from ok2]
     repeat' (first | refine yz ?_ | exact zD)
    | true =>
    rw [d3] at ok2
    simp only [Bool.not_true, cond_false] at ok2
    generalize partF [] e.props = P at hp ok2
    repeat' (first | refine yz ?_ | refine yp b120 hp ?_)
    cases c9 : P != 0 with
    | true =>
     rw [c9, cond_true] at ok2
     rw [ok2]
     repeat' (first | refine yz ?_ | exact zD)
    | false =>
     rw [c9, cond_false] at ok2
     repeat' (refine yz ?_)
     refine go_stop ?_
     exact ⟨⟨0 + 1, by omega, ok2⟩, by dsimp only; omega, (zle 1)⟩
   | succ j =>
    have g2 := yT (((j + 1 : Nat) : Int) > 0) (by omega)
    obtain ⟨p, hy0⟩ : ∃ p, g.edges[j]? = some p := ⟨_, List.getElem?_eq_getElem (by omega)⟩
    have hy : (g.edges.map encEd)[(((j + 1 : Nat) : Int) - 1).toNat]? = some (encEd p) := by
     rw [show (((j + 1 : Nat) : Int) - 1) = (j : Int) by omega]; exact map_at (f := encEd) hy0
    have hpv : prevE g.edges (j + 1) = some p.id := by rw [prevE, hy0]; rfl
    rw [hpv] at ok2
    simp only [okEd] at ok2
    repeat' (first | refine yz ?_ | refine yi (encEd e) hx ?_ | refine yi (encEd p) hy ?_ | refine yx ?_)
    cases c0 : decide (e.id ≤ p.id) with
    | true =>
     rw [c0] at ok2
     rw [show R2 = 26 from ok2]
     repeat' (first | refine yz ?_ | exact zD)
    | false =>
    rw [c0, cond_false] at ok2
    repeat' (refine yz ?_)
    cases c7 : decide (e.id < 1) with
    | true =>
     rw [c7] at ok2
     rw [show R2 = 1 from ok2]
     repeat' (first | refine yz ?_ | exact zD)
    | false =>
    repeat' (refine yz ?_)
    cases c8 : decide (e.id ≥ g.ne) with
    | true =>
     rw [c7, c8] at ok2
     rw [show R2 = 1 from ok2]
     repeat' (first | refine yz ?_ | exact zD)
    | false =>
    rw [c7, c8] at ok2
    simp only [Bool.or_false, cond_false] at ok2
    repeat' (first | refine yz ?_ | refine yp b121 h1 ?_)
    cases d1 : hasI g.nodes e.src with
    | false =>
     rw [d1] at ok2
     rw [show R2 = 10 from ok2]
     repeat' (first | refine yz ?_ | exact zD)
    | true =>
    repeat' (first | refine yz ?_ | refine yp b121 h2 ?_)
    cases d2 : hasI g.nodes e.dst with
    | false =>
     rw [d1, d2] at ok2
     rw [show R2 = 10 from ok2]
     repeat' (first | refine yz ?_ | exact zD)
    | true =>
    rw [d1, d2] at ok2
    simp only [Bool.not_true, Bool.or_false, cond_false] at ok2
    repeat' (first | refine yz ?_ | refine yp b122 h3 ?_)
    cases d3 : nameF e.ty with
    | false =>
     rw [d3] at ok2
     rw [show R2 = 6 from ok2]
     repeat' (first | refine yz ?_ | exact zD)
    | true =>
    rw [d3] at ok2
    simp only [Bool.not_true, cond_false] at ok2
    generalize partF [] e.props = P at hp ok2
    repeat' (first | refine yz ?_ | refine yp b120 hp ?_)
    cases c9 : P != 0 with
    | true =>
     rw [c9, cond_true] at ok2
     rw [ok2]
     repeat' (first | refine yz ?_ | exact zD)
    | false =>
     rw [c9, cond_false] at ok2
     repeat' (refine yz ?_)
     refine go_stop ?_
     exact ⟨⟨j + 1 + 1, by omega, ok2⟩, by dsimp only; omega, (zle 1)⟩
  ·have g1 : decide ((k : Int) < ((g.edges.map encEd).length : Int)) = false := by rw [hen]; simp; omega
   rw [List.drop_eq_nil_of_le hge2] at ok2
   rw [show R2 = 0 from ok2]
   repeat' (first | refine yz ?_ | exact zD)
end Go.Proofs.YtenpjlghikohmaaGreatDoor
