/- The library's stable sort on lists: what it does to a list, that the result is the list in another order, that it is sorted, and that such a list is unique; The library's merge in place, its stable sort: sorted, the same list in another order; uniqueness; the specification's sort by insertion; Rows of encoded elements: what a swap leaves; Sorting by insertion under a map of the elements; a sorted list without repeated elements; what removing them in place leaves; Rows of integers in lexicographic order: compared, merged, sorted, each once; rising rows with the same members are one list; Walks . Conditions: each part's own, as it says. -/
import Derived.Test.YtenpjlghikohmaaGreatDoorGB
import Derived.Test.YtenpjlghikohmaaGreatDoorGC
import Derived.Test.YtenpjlghikohmaaGreatDoorGG
import Derived.Test.YtenpjlghikohmaaGreatDoorLA
import Derived.Test.YtenpjlghikohmaaGreatDoorLD
import Derived.Test.YtenpjlghikohmaaGreatDoorGS
import Derived.Sort.OwnSortedInts
import Derived.Test.YtenpjlghikohmaaGreatDoorMA
set_option linter.unusedVariables false
set_option linter.unusedSimpArgs false
namespace Go.Proofs.YtenpjlghikohmaaGreatDoor
set_option maxRecDepth 4000
section
variable {α : Type} [Inhabited α]
def atS (l : List α) (k : Nat) : α := l.getD k default
theorem dt8 {l : List α} {k : Nat} (h : k < l.length) : l[k]? = some (atS l k) := by
 unfold atS;rw [fb9, ez5 h];rfl
structure Rch (lo hi : Nat) (l l' : List α) : Prop where
 len : l'.length = l.length
 per : l'.Perm l
 out : ∀ k, k < lo ∨ hi ≤ k → atS l' k = atS l k
 inn : ∀ k, lo ≤ k → k < hi → ∃ k', lo ≤ k' ∧ k' < hi ∧ atS l' k = atS l k'
theorem Rch.refl (lo hi : Nat) (l : List α) : Rch lo hi l l := ⟨rfl, List.Perm.refl _, fun _ _ => rfl, fun k h1 h2 => ⟨k, h1, h2, rfl⟩⟩
theorem Rch.trans {lo hi : Nat} {l l' l'' : List α} (h : Rch lo hi l l') (h' : Rch lo hi l' l'') : Rch lo hi l l'' := by
 refine ⟨by rw [h'.len, h.len], h'.per.trans h.per, fun k hk => by rw [h'.out k hk, h.out k hk], fun k h1 h2 => ?_⟩;obtain ⟨k', a1, a2, a3⟩ := h'.inn k h1 h2;obtain ⟨k'', b1, b2, b3⟩ := h.inn k' a1 a2;exact ⟨k'', b1, b2, by rw [a3, b3]⟩
theorem Rch.mono {lo hi lo' hi' : Nat} {l l' : List α} (h : Rch lo hi l l') (h1 : lo' ≤ lo) (h2 : hi ≤ hi') : Rch lo' hi' l l' := by
 refine ⟨h.len, h.per, fun k hk => h.out k (by omega), fun k a1 a2 => ?_⟩
 by_cases hk : lo ≤ k ∧ k < hi
 ·obtain ⟨k', b1, b2, b3⟩ := h.inn k hk.1 hk.2;exact ⟨k', by omega, by omega, b3⟩
 ·exact ⟨k, a1, a2, h.out k (by omega)⟩
def Srt (c : α → α → Int) (l : List α) (a b : Nat) : Prop := ∀ p q, a ≤ p → p < q → q < b → c (atS l p) (atS l q) ≤ 0
theorem Srt.sub {c : α → α → Int} {l : List α} {a b a' b' : Nat} (h : Srt c l a b) (h1 : a ≤ a') (h2 : b' ≤ b) : Srt c l a' b' := fun p q g1 g2 g3 => h p q (by omega) g2 (by omega)
theorem Srt.out {c : α → α → Int} {l l' : List α} {a b lo hi : Nat} (h : Srt c l a b) (hr : Rch lo hi l l') (hd : b ≤ lo ∨ hi ≤ a) : Srt c l' a b := fun p q g1 g2 g3 => by
 rw [hr.out p (by omega), hr.out q (by omega)];exact h p q g1 g2 g3
omit [Inhabited α] in
def bsF (P : Nat → Bool) (i j : Nat) : Nat := if i < j then bif P ((i + j) / 2) then bsF P ((i + j) / 2 + 1) j else bsF P i ((i + j) / 2) else i
 termination_by j - i
end
end Go.Proofs.YtenpjlghikohmaaGreatDoor
namespace Go.Proofs.YtenpjlghikohmaaGreatDoor
set_option maxRecDepth 4000
section
variable {α : Type} [Inhabited α]
omit [Inhabited α] in
end
end Go.Proofs.YtenpjlghikohmaaGreatDoor
namespace Go.Proofs.YtenpjlghikohmaaGreatDoor
set_option maxRecDepth 4000
open Go Go.Abs Go.RowKit Go.Proofs.Tryz
section
variable {α : Type} [Inhabited α] {en : α → D}
theorem dt9 {l : List α} {i : Int} {p : Nat} (hp : p < l.length) (hi : i.toNat = p) : (l.map en)[i.toNat]? = some (en (atS l p)) := by
 rw [hi, ez8, dt8 hp];rfl
omit [Inhabited α] in
end
end Go.Proofs.YtenpjlghikohmaaGreatDoor
namespace Go.Proofs.YtenpjlghikohmaaGreatDoor
set_option maxRecDepth 4000
section
variable {α β : Type} [Inhabited α] [Inhabited β]
end
section
variable {α : Type} [Inhabited α]
def du0 (c : α → α → Int) : α → List α → List α
 | _, [] => []
 | p, x :: r => if c p x = 0 then du0 c x r else x :: du0 c x r
def du1 (c : α → α → Int) : List α → List α
 | [] => []
 | x :: r => x :: du0 c x r
theorem du2 {l : List α} {k : Nat} (h : k < l.length) : l.drop k = atS l k :: l.drop (k + 1) := by
 rw [fk7 h];congr 1;unfold atS;rw [fb9, ez5 h];rfl
omit [Inhabited α] in
theorem du3 {l : List α} {k : Nat} {x : α} (h : k < l.length) : (l.set k x).take (k + 1) = l.take k ++ [x] := by
 rw [fg0, List.getElem?_set_self h, fi2 (fa4 _)];rfl
theorem du4 {l : List α} {k : Nat} (h : k < l.length) : l.take (k + 1) = l.take k ++ [atS l k] := by
 rw [fg0, ez5 h];unfold atS;rw [fb9, ez5 h];rfl
theorem du5 {c : α → α → Int} {l : List α} (h : 1 ≤ l.length) : du1 c l = l.take 1 ++ du0 c (atS l 0) (l.drop 1) := by
 cases l with
 | nil => simp at h
 | cons x r => simp [du1, atS]
omit [Inhabited α] in
theorem du6 {c : α → α → Int} {l : List α} (h : l.length < 2) : du1 c l = l := by
 match l, h with
 | [], _ => rfl
 | [x], _ => rfl
 | _ :: _ :: _, h => simp at h; omega
structure CpT (c : α → α → Int) (l : List α) where
 k : Nat
 h1 : 1 ≤ k
 hk : k ≤ l.length
 ht : du1 c l = l.take k ++ du0 c (atS l (k - 1)) (l.drop k)
structure CqT (c : α → α → Int) (l : List α) (k0 : Nat) where
 k : Nat
 k2 : Nat
 l1 : List α
 hl : l1.length = l.length
 hk2 : 1 ≤ k2
 hb : k0 + k2 ≤ l.length
 hkk : k + 1 ≤ k0 + k2
 ha : ∀ q, k0 + k2 ≤ q + 1 → atS l1 q = atS l q
 ht : du1 c l = l1.take k ++ du0 c (atS l (k0 + k2 - 1)) (l.drop (k0 + k2))
def CpT.next {c : α → α → Int} {l : List α} (p : CpT c l) (h : p.k < l.length) (hc : c (atS l (p.k - 1)) (atS l p.k) ≠ 0) : CpT c l :=
 ⟨p.k + 1, by omega, by omega, by
  rw [p.ht, du2 h, du0, if_neg hc, du4 h];simp⟩
def CpT.start {c : α → α → Int} {l : List α} (h : 1 ≤ l.length) : CpT c l := ⟨1, fa4 _, h, du5 h⟩
theorem CpT.done {c : α → α → Int} {l : List α} (p : CpT c l) (h : l.length ≤ p.k) : du1 c l = l := by
 rw [p.ht, fa1 h, fe9 h, du0, fg4]
def CqT.start {c : α → α → Int} {l : List α} (p : CpT c l) (h : p.k < l.length) (hc : c (atS l (p.k - 1)) (atS l p.k) = 0) : CqT c l p.k :=
 ⟨p.k, 1, l, rfl, fa4 _, by omega, fa4 _, fun _ _ => rfl, by
  rw [p.ht, du2 h, du0, if_pos hc];rfl⟩
def CqT.keep {c : α → α → Int} {l : List α} {k0 : Nat} (p : CqT c l k0) (h : k0 + p.k2 < l.length) (hc : c (atS l (k0 + p.k2 - 1)) (atS l (k0 + p.k2)) ≠ 0) : CqT c l k0 :=
 ⟨p.k + 1, p.k2 + 1, p.l1.set p.k (atS l (k0 + p.k2)), by rw [List.length_set, p.hl], by omega, by omega, by have := p.hkk; omega, fun q hq => by
  have := p.hkk;rw [← p.ha q (by omega)];unfold atS;simp only [fb9];rw [fk2 (by omega)], by
  have h1 := p.hkk;have h2 := p.hl;rw [p.ht, du2 h, du0, if_neg hc, du3 (by omega), show k0 + (p.k2 + 1) - 1 = k0 + p.k2 by omega];simp [fh6]⟩
def CqT.drop {c : α → α → Int} {l : List α} {k0 : Nat} (p : CqT c l k0) (h : k0 + p.k2 < l.length) (hc : c (atS l (k0 + p.k2 - 1)) (atS l (k0 + p.k2)) = 0) : CqT c l k0 :=
 ⟨p.k, p.k2 + 1, p.l1, p.hl, by omega, by omega, by have := p.hkk; omega, fun q hq => p.ha q (by omega), by
  rw [p.ht, du2 h, du0, if_pos hc, show k0 + (p.k2 + 1) - 1 = k0 + p.k2 by omega, ← fh6]⟩
theorem CqT.done {c : α → α → Int} {l : List α} {k0 : Nat} (p : CqT c l k0) (h : l.length ≤ k0 + p.k2) : du1 c l = p.l1.take p.k := by
 rw [p.ht, fa1 h, du0, fg4]
omit [Inhabited α] in
omit [Inhabited α] in
omit [Inhabited α] in
omit [Inhabited α] in
end
end Go.Proofs.YtenpjlghikohmaaGreatDoor
namespace Go.Proofs.YtenpjlghikohmaaGreatDoor
set_option maxRecDepth 4000
def du7 : List Int → List Int → Int
 | [], [] => 0
 | [], _ :: _ => -1
 | _ :: _, [] => 1
 | x :: a, y :: b => bif decide (x < y) then -1 else bif decide (x > y) then 1 else du7 a b
theorem du8 (x y : Int) (a b : List Int) : du7 (x :: a) (y :: b) = bif decide (x < y) then -1 else bif decide (x > y) then 1 else du7 a b := by rw [du7]
theorem du9 {x y : Int} (h : x < y) (a b : List Int) : du7 (x :: a) (y :: b) = -1 := by rw [du8, decide_eq_true h]; rfl
theorem dv0 {x y : Int} (h : y < x) (a b : List Int) : du7 (x :: a) (y :: b) = 1 := by
 rw [du8, decide_eq_false (show ¬ x < y by omega), decide_eq_true (show x > y from h)]; rfl
theorem dv1 (x : Int) (a b : List Int) : du7 (x :: a) (x :: b) = du7 a b := by
 rw [du8, decide_eq_false (show ¬ x < x by omega)]; rfl
theorem dv2 : ∀ a b : List Int, du7 b a = - du7 a b
 | [], [] => rfl
 | [], _ :: _ => rfl
 | _ :: _, [] => rfl
 | x :: a, y :: b => by
  rcases fk5 x y with h | h | h
  ·rw [du9 h, dv0 h]; rfl
  ·subst h; rw [dv1, dv1, dv2 a b]
  ·rw [du9 h, dv0 h]
theorem dv3 : ∀ a b : List Int, du7 a b = 0 → a = b
 | [], [], _ => rfl
 | [], _ :: _, h => by simp [du7] at h
 | _ :: _, [], h => by simp [du7] at h
 | x :: a, y :: b, h => by
  rcases fk5 x y with k | k | k
  ·rw [du9 k] at h; simp at h
  ·subst k; rw [dv1] at h; rw [dv3 a b h]
  ·rw [dv0 k] at h; simp at h
theorem dv4 (a : List Int) : du7 a a = 0 := by have := dv2 a a; omega
theorem dv5 : ∀ a b c : List Int, du7 a b ≤ 0 → du7 b c ≤ 0 → du7 a c ≤ 0
 | [], _, [], _, _ => by simp [du7]
 | [], _, _ :: _, _, _ => by simp [du7]
 | _ :: _, [], _, h, _ => by simp [du7] at h
 | _ :: _, _ :: _, [], _, h => by simp [du7] at h
 | x :: a, y :: b, z :: c, h1, h2 => by
  rcases fk5 x y with k | k | k
  ·rcases fk5 y z with q | q | q
   ·rw [du9 (show x < z by omega)]; omega
   ·rw [du9 (show x < z by omega)]; omega
   ·rw [dv0 q] at h2; omega
  ·subst k;rw [dv1] at h1;rcases fk5 x z with q | q | q
   ·rw [du9 q]; omega
   ·subst q; rw [dv1] at h2 ⊢; exact dv5 a b c h1 h2
   ·rw [dv0 q] at h2; omega
  ·rw [dv0 k] at h1; omega
theorem dv6 {a b c : List Int} (h1 : du7 a b < 0) (h2 : du7 b c ≤ 0) : du7 a c < 0 := by
 have h3 := dv5 a b c (by omega) h2;rcases Int.lt_or_le (du7 a c) 0 with h | h
 ·exact h
 ·have e := dv3 a c (by omega);subst e;have := dv2 a b;omega
def dv7 (l : List (List Int)) : Prop := l.Pairwise fun a b => du7 a b < 0
theorem dv8 : ∀ (a b : List (List Int)), dv7 a → dv7 b → (∀ z, z ∈ a ↔ z ∈ b) → a = b
 | [], [], _, _, _ => rfl
 | [], y :: b, _, _, h => absurd ((h y).2 (by simp)) (by simp)
 | x :: a, [], _, _, h => absurd ((h x).1 (by simp)) (by simp)
 | x :: a, y :: b, ha, hb, h => by
  have ha' := fd7.1 ha;have hb' := fd7.1 hb
  have e : x = y := by
   rcases fa6.1 ((h x).1 (by simp)) with e | e
   ·exact e
   ·rcases fa6.1 ((h y).2 (by simp)) with f | f
    ·exact f.symm
    ·have h1 := hb'.1 x e;have h2 := ha'.1 y f;have := dv2 x y;omega
  subst e;rw [dv8 a b ha'.2 hb'.2 fun z => ?_];constructor
  ·intro hz;rcases fa6.1 ((h z).1 (by simp [hz])) with f | f
   ·subst f; have := ha'.1 z hz; rw [dv4] at this; omega
   ·exact f
  ·intro hz;rcases fa6.1 ((h z).2 (by simp [hz])) with f | f
   ·subst f; have := hb'.1 z hz; rw [dv4] at this; omega
   ·exact f
def dv9 : List (List Int) → List (List Int) → List (List Int)
 | [], [] => []
 | [], y :: b => y :: dv9 [] b
 | x :: a, [] => x :: dv9 a []
 | x :: a, y :: b => if du7 x y < 0 then x :: dv9 a (y :: b) else if du7 x y = 0 then x :: dv9 a b else y :: dv9 (x :: a) b
termination_by a b => a.length + b.length
theorem dw0 (a b : List (List Int)) : ∀ z, z ∈ dv9 a b ↔ z ∈ a ∨ z ∈ b := by
 induction a, b using dv9.induct with
 | case1 => intro z; simp [dv9]
 | case2 y b ih => intro z; rw [dv9, fa6, ih]; simp
 | case3 x a ih => intro z; rw [dv9, fa6, ih]; simp
 | case4 x a y b h ih =>
  intro z; rw [dv9, if_pos h, fa6, ih]; simp only [fa6, or_assoc]
 | case5 x a y b h1 h2 ih =>
  intro z; rw [dv9, if_neg h1, if_pos h2, fa6, ih];have e := dv3 x y h2;subst e;simp only [fa6];constructor
  ·rintro (h | h | h)
   ·exact .inl (.inl h)
   ·exact .inl (.inr h)
   ·exact .inr (.inr h)
  ·rintro ((h | h) | (h | h))
   ·exact .inl h
   ·exact .inr (.inl h)
   ·exact .inl h
   ·exact .inr (.inr h)
 | case6 x a y b h1 h2 ih =>
  intro z; rw [dv9, if_neg h1, if_neg h2, fa6, ih];simp only [fa6];constructor
  ·rintro (h | (h | h) | h)
   ·exact .inr (.inl h)
   ·exact .inl (.inl h)
   ·exact .inl (.inr h)
   ·exact .inr (.inr h)
  ·rintro ((h | h) | (h | h))
   ·exact .inr (.inl (.inl h))
   ·exact .inr (.inl (.inr h))
   ·exact .inl h
   ·exact .inr (.inr h)
theorem dw1 (a b : List (List Int)) : dv7 a → dv7 b → dv7 (dv9 a b) := by
 induction a, b using dv9.induct with
 | case1 => intro _ _; simp [dv9, dv7]
 | case2 y b ih =>
  intro h1 h2;have h2' := fd7.1 h2;rw [dv9];exact fd7.2 ⟨fun z hz => by rcases (dw0 _ _ z).1 hz with h | h; (cases h); exact h2'.1 z h, ih h1 h2'.2⟩
 | case3 x a ih =>
  intro h1 h2;have h1' := fd7.1 h1;rw [dv9];exact fd7.2 ⟨fun z hz => by rcases (dw0 _ _ z).1 hz with h | h; exact h1'.1 z h; (cases h), ih h1'.2 h2⟩
 | case4 x a y b h ih =>
  intro h1 h2;have h1' := fd7.1 h1;have h2' := fd7.1 h2;rw [dv9, if_pos h];refine fd7.2 ⟨fun z hz => ?_, ih h1'.2 h2⟩;rcases (dw0 _ _ z).1 hz with k | k
  ·exact h1'.1 z k
  ·rcases fa6.1 k with k | k
   ·rw [k]; exact h
   ·exact dv6 h (by have := h2'.1 z k; omega)
 | case5 x a y b h1 h2 ih =>
  intro g1 g2;have h1' := fd7.1 g1;have h2' := fd7.1 g2;have e := dv3 x y h2;subst e;rw [dv9, if_neg h1, if_pos h2];refine fd7.2 ⟨fun z hz => ?_, ih h1'.2 h2'.2⟩;rcases (dw0 _ _ z).1 hz with k | k
  ·exact h1'.1 z k
  ·exact h2'.1 z k
 | case6 x a y b h1 h2 ih =>
  intro g1 g2;have h1' := fd7.1 g1;have h2' := fd7.1 g2;have hyx : du7 y x < 0 := by have := dv2 x y; omega
  rw [dv9, if_neg h1, if_neg h2];refine fd7.2 ⟨fun z hz => ?_, ih g1 h2'.2⟩;rcases (dw0 _ _ z).1 hz with k | k
  ·rcases fa6.1 k with k | k
   ·rw [k]; exact hyx
   ·exact dv6 hyx (by have := h1'.1 z k; omega)
  ·exact h2'.1 z k
def dw2 (l : List (List Int)) : List (List Int) :=
 if h : l.length ≤ 1 then l else dv9 (dw2 (l.take (l.length / 2))) (dw2 (l.drop (l.length / 2)))
termination_by l.length
decreasing_by all_goals simp; omega
theorem dw3 {l : List (List Int)} (h : l.length ≤ 1) : dw2 l = l := by rw [dw2, dif_pos h]
theorem dw4 {l : List (List Int)} (h : ¬ l.length ≤ 1) : dw2 l = dv9 (dw2 (l.take (l.length / 2))) (dw2 (l.drop (l.length / 2))) := by rw [dw2, dif_neg h]
theorem dw5 : ∀ (n : Nat) (l : List (List Int)), l.length ≤ n → dv7 (dw2 l) ∧ ∀ z, z ∈ dw2 l ↔ z ∈ l
 | 0, l, h => by
  obtain rfl : l = [] := fl3 (by omega);rw [dw3 (by simp)];exact ⟨List.Pairwise.nil, fun _ => Iff.rfl⟩
 | n + 1, l, h => by
  by_cases h1 : l.length ≤ 1
  ·rw [dw3 h1];refine ⟨?_, fun _ => Iff.rfl⟩
   match l, h1 with
   | [], _ => exact List.Pairwise.nil
   | [x], _ => exact List.pairwise_singleton _ _
   | _ :: _ :: _, h1 => simp at h1
  ·rw [dw4 h1];obtain ⟨a1, a2⟩ := dw5 n (l.take (l.length / 2)) (by simp; omega);obtain ⟨b1, b2⟩ := dw5 n (l.drop (l.length / 2)) (by simp; omega);refine ⟨dw1 _ _ a1 b1, fun z => ?_⟩;rw [dw0, a2, b2, ← fb7, fj5]
theorem dw6 : ∀ (l : List (List Int)) (p : List Int), (p :: l).Pairwise (fun a b => du7 a b ≤ 0) → dv7 (p :: du0 du7 p l) ∧ ∀ z, z ∈ p :: du0 du7 p l ↔ z ∈ p :: l
 | [], p, _ => by simp [du0, dv7]
 | x :: r, p, h => by
  have h1 := fd7.1 h;have h2 := fd7.1 h1.2;unfold du0
  by_cases hc : du7 p x = 0
  ·have e := dv3 p x hc;subst e;rw [if_pos hc];obtain ⟨k1, k2⟩ := dw6 r p h1.2;refine ⟨k1, fun z => ?_⟩;rw [k2];simp
  ·rw [if_neg hc];obtain ⟨k1, k2⟩ := dw6 r x h1.2;have hpx : du7 p x < 0 := by have := h1.1 x (by simp); omega
   refine ⟨fd7.2 ⟨fun z hz => ?_, k1⟩, fun z => ?_⟩
   ·rcases fa6.1 ((k2 z).1 hz) with e | e
    ·rw [e]; exact hpx
    ·exact dv6 hpx (h2.1 z e)
   ·rw [fa6, k2, ← fa6]
theorem dw7 {l : List (List Int)} (h : l.Pairwise fun a b => du7 a b ≤ 0) : dv7 (du1 du7 l) ∧ ∀ z, z ∈ du1 du7 l ↔ z ∈ l := by
 cases l with
 | nil => simp [du1, dv7]
 | cons p r => exact dw6 r p h
theorem dw8 {l m : List (List Int)} (hp : m.Perm l) (h : m.Pairwise fun a b => du7 a b ≤ 0) : du1 du7 m = dw2 l := by
 obtain ⟨a1, a2⟩ := dw7 h;obtain ⟨b1, b2⟩ := dw5 l.length l (fa4 _);refine dv8 _ _ a1 b1 fun z => ?_
 rw [a2, b2];exact hp.mem_iff
theorem dw9 : ∀ (n : Nat) (l : List (List Int)), l.length ≤ n → (dw2 l).length ≤ l.length
 | 0, l, h => by rw [dw3 (by omega)]; exact fa4 _
 | n + 1, l, h => by
  have merl : ∀ a b : List (List Int), (dv9 a b).length ≤ a.length + b.length := fun a b => by
   induction a, b using dv9.induct with
   | case1 => simp [dv9]
   | case2 y b ih => rw [dv9]; simp only [fa8, fd1] at *; omega
   | case3 x a ih => rw [dv9]; simp only [fa8, fd1] at *; omega
   | case4 x a y b h ih => rw [dv9, if_pos h]; simp only [fa8] at *; omega
   | case5 x a y b h1 h2 ih => rw [dv9, if_neg h1, if_pos h2]; simp only [fa8] at *; omega
   | case6 x a y b h1 h2 ih => rw [dv9, if_neg h1, if_neg h2]; simp only [fa8] at *; omega
  by_cases h1 : l.length ≤ 1
  ·rw [dw3 h1]; exact fa4 _
  ·rw [dw4 h1];have a := dw9 n (l.take (l.length / 2)) (by simp; omega);have b := dw9 n (l.drop (l.length / 2)) (by simp; omega);have c := merl (dw2 (l.take (l.length / 2))) (dw2 (l.drop (l.length / 2)));simp at a b;omega
open Go Go.Abs Go.Val Go.Proofs.Tryz
attribute [local irreducible] Ev EvO EvS aw2 an2 SGo go
abbrev oGr (g : Gr) : aa5 := .var 38 (.w (.d (cy2 g)))
abbrev kdI : TypeDesc := .int .i64
end Go.Proofs.YtenpjlghikohmaaGreatDoor
namespace Go.Proofs.YtenpjlghikohmaaGreatDoor
set_option maxRecDepth 4000
open Go Go.Abs Go.Val Go.RowKit Go.Sort Go.Proofs Go.Proofs.Tryz
theorem dx0 {w w' : World} {F : Nat → Prop} {σ : Sg} {te : TypeId} {us ys : List D} {b c n : Nat} (hi : ab2 E ⟨fun _ => False, 0, []⟩ F σ [.row te 1 us] w) (e1 : σ[0]? = some (b, c, n)) (hgb : w.grownBy w' (some b)) (cs' : List Value) (hh : w'.heap[b]? = some (.cells cs'.toArray te (0, 0)))
  (hcl : cs'.length = c * 1) (hn : n = ys.length) (hnc : n ≤ c) (hc : c ≤ maxLen) (z1 : ∀ x ∈ ys, x.cells.length = 1) (z2 : ∀ x ∈ ys, ∀ c ∈ x.cells, c.one = true)
  (hrd : ∀ (i : Nat) (x : D) (j : Nat) (cd : D), ys[i]? = some x → x.cells[j]? = some cd → ∃ v, cs'[i * 1 + j]? = some v ∧ Rd w' F cd v) :
  ∃ v F' σ', Ending.returned (.tuple #[]) = Ending.returned v ∧ aa7 (bb1 w [.row te 1 us] σ) w w' ∧ (∀ b, F b → F' b) ∧ (∀ b, F' b → F b ∨ ¬ bb1 w [.row te 1 us] σ b) ∧ (∀ (i : Nat) p, i < [aa5.row te 1 us].length → σ[i]? = some p → σ'[i]? = some p) ∧ ab2 E ⟨bb1 w [.row te 1 us] σ, 0, []⟩ F' σ' [.row te 1 ys] w' ∧ RdX w' F' σ' (.tup []) v := by
 have hσ : σ.length = 1 := hi.len;obtain ⟨cs, g1, g2, g3, g4, g5, g6, g7, g8, g9, g10⟩ := hi.obs 0 _ _ rfl e1;have hlb : ¬ bb1 w [.row te 1 us] σ b := fun hh => hh.2 ⟨0, _, _, rfl, rfl, e1, rfl⟩
 have hob : aa6 w' F (σ ++ [(b, c, n)]) (bb1 w [.row te 1 us] σ) (.row te 1 ys) (b, c, n) := ⟨cs', hh, hcl, hn, hnc, hc, z1, z2, hrd, hlb, g10⟩
 have hw := (ab2.lend hi).regrow (ob0 := [.dead]) (row := some b) (fun o x hx hl => by
   cases o with
   | zero => simp at hx; subst hx; cases hl
   | succ o => simp at hx) rfl hgb (fun k hk => by cases hk; exact g10) _ b c _ (.inl rfl) hob
 have h2 := hw.ren2 [1] rfl rfl;refine ⟨_, F, _, rfl, ⟨hgb.os, hgb.tape, hgb.output, hgb.size, fun k hk => hgb.block k hk.1 (fun e => hlb (by cases e; exact hk)), fun k hk => hk.1⟩, fun _ h => h, fun _ h => .inl h, fun i p hi hp => ?_, h2, ⟨[], rfl, rfl, fun i x u hx => by simp at hx⟩⟩
 match i, hi with
 | 0, _ =>
  rw [e1] at hp
  cases hp
  match σ, hσ with
  | [q], _ => rfl
end Go.Proofs.YtenpjlghikohmaaGreatDoor
namespace Go.Proofs.YtenpjlghikohmaaGreatDoor
set_option maxRecDepth 4000
open Go Go.Abs Go.Val Go.Proofs.Tryz
attribute [local irreducible] go SGo an2 Ev aw2 EvO EvS
def idAt (l : List Nd) (i : Nat) : Int := (l[i]?.getD nd0).id
def bsP (l : List Nd) (n : Int) (h : Nat) : Bool := decide (Lib.compareInt (idAt l h) n < 0)
def bsR (l : List Nd) (n : Int) : Nat := bsF (bsP l n) 0 l.length
def dx1 (l : List Nd) (n : Int) : Bool := decide (((bsR l n : Nat) : Int) < l.length) && Lib.compareInt (idAt l (bsR l n)) n == 0
structure BnZ (l : List Nd) (n : Int) where
 i : Int
 j : Int
 hi : 0 ≤ i
 hij : i ≤ j
 hj : j ≤ l.length
 ht : bsF (bsP l n) i.toNat j.toNat = bsR l n
theorem dx2 (x : Nd) (n : Int) : Ev E 215 [cy0 x, .int n] (.d (.int (Lib.compareInt x.id n))) := by
 have h := cb5 x.id n;refine ye2 func215 ntmps215 fun _ _ _=>?_
 repeat' (first | refine yz ?_ | refine yp b52 h ?_ | exact zD)
theorem dx3 {l : List Nd} {i : Int} {p : Nat} (hp : i.toNat = p) (h : p < l.length) : ∃ x, l[p]? = some x ∧ idAt l p = x.id ∧ (l.map cy0)[i.toNat]? = some (cy0 x) := by
 refine ⟨l[p], ez5 h, ?_, ?_⟩
 ·unfold idAt; rw [ez5 h]; rfl
 ·rw [hp, ez8, ez5 h]; rfl
theorem dx4 (l : List Nd) (n : Int) (hl : l.length ≤ 1000000) : Ev E 214 [.sl (l.map cy0), .int n, .imm (.func (.func 215) #[] #[])] (.tup [.int (bsR l n : Nat), .bool (dx1 l n)]) := by
 have hle : (l.map cy0).length = l.length := by simp
 have hb : an2 E 215 := b215;refine ye3 func214 ntmps214 fun _ _ _=>?_
 repeat' (refine yz ?_)
 refine ac7 (α := BnZ l n) (fun p => ⟨[(0, .d (.sl (l.map cy0))), (1, .d (.int n)), (2, .d (.imm (.func (.func 215) #[] #[]))), (8, .d (.int (l.map cy0).length)), (9, .d (.int p.i)), (10, .d (.int p.j))], []⟩) (fun p => (p.j - p.i).toNat) ⟨0, l.length, fg2 _, by omega, fg2 _, rfl⟩ (by rw [hle]; exact (zle 0)) ?_;rintro ⟨i, j, hi, hij, hj, ht⟩;dsimp only
 by_cases hlt : i < j
 ·have g1 := yT (i < j) hlt;obtain ⟨x, -, hid, hx⟩ := dx3 (l := l) (i := (i + j) / 2) (p := (i.toNat + j.toNat) / 2) (by omega) (by omega);have q := dx2 x n;rw [bsF, if_pos (by omega)] at ht;have hP : bsP l n ((i.toNat + j.toNat) / 2) = decide (Lib.compareInt x.id n < 0) := by unfold bsP; rw [hid]
  rw [hP] at ht
  cases hc : decide (Lib.compareInt x.id n < 0) with
  | true =>
   rw [hc, cond_true] at ht
   repeat' (first | refine bm8 _ rfl rfl rfl rfl rfl rfl rfl (by omega) (by omega) ?_ | refine yz ?_ | refine yi (cy0 x) hx ?_ | refine yp hb q ?_)
   refine ac1 ?_;exact ⟨⟨(i + j) / 2 + 1, j, by omega, by omega, hj, by rw [← ht, show ((i + j) / 2 + 1).toNat = (i.toNat + j.toNat) / 2 + 1 by omega]⟩, by dsimp only; omega, (zle 0)⟩
  | false =>
   rw [hc, cond_false] at ht
   repeat' (first | refine bm8 _ rfl rfl rfl rfl rfl rfl rfl (by omega) (by omega) ?_ | refine yz ?_ | refine yi (cy0 x) hx ?_ | refine yp hb q ?_)
   refine ac1 ?_;exact ⟨⟨i, (i + j) / 2, hi, by omega, by omega, by rw [← ht, show ((i + j) / 2).toNat = (i.toNat + j.toNat) / 2 by omega]⟩, by dsimp only; omega, (zle 0)⟩
 ·have g1 := yF (i < j) hlt;rw [bsF, if_neg (by omega)] at ht;obtain ⟨k, rfl⟩ := fi3 hi;simp only [fb4] at ht;unfold dx1;rw [← ht];have hnn : decide ((k : Int) < (l.map cy0).length) = decide ((k : Int) < l.length) := by rw [hle]
  cases hc : decide ((k : Int) < (l.length : Int)) with
  | true =>
   rw [hc] at hnn;obtain ⟨x, -, hid, hx⟩ := dx3 (l := l) (i := (k : Int)) (p := k) (by omega) (by have := of_decide_eq_true hc; omega);have q := dx2 x n;rw [hid]
   repeat' (first | refine yz ?_ | refine yi (cy0 x) hx ?_ | refine yp hb q ?_ | refine yx ?_ | exact zL)
  | false =>
   rw [hc] at hnn
   repeat' (first | refine yz ?_ | refine yx ?_ | exact zL)
theorem dx5 (l : List Nd) (n : Int) (hl : l.length ≤ 1000000) : Ev E 121 [.sl (l.map cy0), .int n] (.d (.bool (dx1 l n))) := by
 have h := dx4 l n hl;refine ye2 func121 ntmps121 fun _ _ _=>?_
 repeat' (first | refine yz ?_ | refine yp b214 h ?_ | exact zD)
attribute [local irreducible] PGo RGo
theorem dx6 (l : List ByteArray) : Ev E 213 [.sl (l.map .str)] (.d (.bool (do5 l))) := Ev.fit fun hfit => by
 have hmax := (cy4 (hfit (.sl (l.map .str)) (by simp))).1;have hle : (l.map D.str).length = l.length := by simp
 by_cases h0 : l = []
 ·subst h0;refine ye1 func213 ntmps213 fun _ _ _=>?_
  repeat' (refine yz ?_)
  refine ac7 (α := Unit) (fun p => ⟨[(0, .d (.sl [])), (3, .d (.int 1))], []⟩) (fun p => 0) () (zle 0) ?_;rintro -;have g1 : decide ((1 : Int) < (([] : List D).length : Int)) = false := rfl
  repeat' (first | refine yz ?_ | exact zD)
 have hp := fj2.2 h0;refine ye1 func213 ntmps213 fun _ _ _=>?_
 repeat' (refine yz ?_)
 refine ac7 (α := SRs l) (fun p => ⟨[(0, .d (.sl (l.map .str))), (3, .d (.int ((p.i + 1 : Nat) : Int)))], []⟩) (fun p => l.length - p.i) ⟨0, by omega, rfl⟩ (zle 0) ?_;rintro ⟨i, hi, ok⟩;dsimp only;rcases ez6 (i + 1) l.length with hlt | hge
 ·have g1 : decide (((i + 1 : Nat) : Int) < ((l.map D.str).length : Int)) = true := by rw [hle]; simp; omega
  have ha0 := ez5 (show i < l.length by omega);have hb0 := ez5 hlt;generalize l[i] = a at ha0;generalize l[i + 1] = b at hb0;have hb := cy3 (f := D.str) hb0
  have ha : (l.map D.str)[(((i + 1 : Nat) : Int) - 1).toNat]? = some (.str a) := by
   rw [show (((i + 1 : Nat) : Int) - 1) = (i : Int) by omega]; exact cy3 (f := D.str) ha0
  have g2 := do7 a b;rw [ok, do8 ha0 hb0]
  cases hc : Op.bytesLess a.toList b.toList with
  | true =>
   rw [hc] at g2
   repeat' (first | refine yz ?_ | refine yi (.str b) hb ?_ | refine yi (.str a) ha ?_)
   refine ac1 ?_;exact ⟨⟨i + 1, hlt, by rw [ok, do8 ha0 hb0, hc]; rfl⟩, by dsimp only; omega, (zle 0)⟩
  | false =>
   rw [hc] at g2
   repeat' (first | refine yz ?_ | refine yi (.str b) hb ?_ | refine yi (.str a) ha ?_ | exact zD)
 ·have g1 : decide (((i + 1 : Nat) : Int) < ((l.map D.str).length : Int)) = false := by rw [hle]; simp; omega
  rw [ok, do9 (by omega)]
  repeat' (first | refine yz ?_ | exact zD)
theorem dx7 (s : ByteArray) : Ev E 212 [.str s] (.d (.bool (!cr0 s))) := by
 have h := cr5 s;refine ye1 func212 ntmps212 fun _ _ _=>?_
 repeat' (first | refine yz ?_ | refine yp bu4 h ?_ | exact zD)
def dx8 (l : List Pr) : List ByteArray := l.map Pr.key
def dx9 (labels : List ByteArray) (props : List Pr) : Int :=
 bif decide (labels.length > 8) || decide (props.length > 16) then 4 else
 bif (labels.any fun s => !cr0 s) || ((dx8 props).any fun s => !cr0 s) then 6 else
 bif !do5 labels || !do5 (dx8 props) then 26 else
 bif props.any fun p => !bt4 p.v then 8 else 0
structure SKl (l : List Pr) where
 i : Nat
 hi : i ≤ l.length
structure SAn {α : Type} (l : List α) (f : α → Bool) where
 i : Nat
 hi : i ≤ l.length
 ok : l.any f = (l.drop i).any f
theorem dy0 {α : Type} {l : List α} {f : α → Bool} {i : Nat} {x : α} (h : l[i]? = some x) : (l.drop i).any f = (f x || (l.drop (i + 1)).any f) := by rw [bz2 h, fe6]
theorem dy1 {l : List Pr} {i : Nat} {x : Pr} (h : l[i]? = some x) : (dx8 (l.take (i + 1))).map D.str = (dx8 (l.take i)).map D.str ++ [.str x.key] := by
 rw [fg0, h];simp [dx8]
set_option maxHeartbeats 2000000 in
theorem dy2 (labels : List ByteArray) (props : List Pr) : Ev E 120 [.sl (labels.map .str), .sl (props.map cx9)] (.d (.int (dx9 labels props))) := by
 have hl1 : (labels.map D.str).length = labels.length := by simp
 have hl2 : (props.map cx9).length = props.length := by simp
 have e1 : decide (((labels.map D.str).length : Int) > 8) = decide (labels.length > 8) := by rw [hl1, decide_eq_decide]; omega
 have e2 : decide (((props.map cx9).length : Int) > 16) = decide (props.length > 16) := by rw [hl2, decide_eq_decide]; omega
 have h1 := dq3 212 b212 (fun s => !cr0 s) labels fun x _ => dx7 x
 have h2 := dq3 212 b212 (fun s => !cr0 s) (dx8 props) fun x _ => dx7 x
 have h3 := dx6 labels;have h4 := dx6 (dx8 props);unfold dx9;rw [← e1, ← e2]
 cases c1 : decide (((labels.map D.str).length : Int) > 8) with
 | true =>
  refine ye2 func120 ntmps120 fun _ _ _=>?_
  repeat' (first | refine yz ?_ | refine yx ?_ | exact zD)
 | false =>
 cases c2 : decide (((props.map cx9).length : Int) > 16) with
 | true =>
  refine ye2 func120 ntmps120 fun _ _ _=>?_
  repeat' (first | refine yz ?_ | refine yx ?_ | exact zD)
 | false =>
 have hpl : props.length ≤ 16 := by have := of_decide_eq_false c2; omega
 simp only [fc2, cond_false];refine ye2 func120 ntmps120 fun _ _ _=>?_
 repeat' (first | refine yz ?_ | refine yx ?_)
 refine ac7 (α := SKl props) (fun p => ⟨[(5, bi1 0 ((dx8 (props.take p.i)).map .str)), (0, .d (.sl (labels.map .str))), (1, .d (.sl (props.map cx9))), (18, .d (.sl (props.map cx9))), (19, .d (.int (props.map cx9).length)), (20, .d (.int p.i))], ay6 9 1 ((dx8 (props.take p.i)).map .str)⟩) (fun p => props.length - p.i) ⟨0, by omega⟩ (zle 0) ?_;rintro ⟨i, hi⟩;dsimp only;have hol : ((dx8 (props.take i)).map D.str).length ≤ 1000000 := by simp [dx8]; omega
 rcases ez6 i props.length with hlt | hge
 ·have g1 : decide ((i : Int) < ((props.map cx9).length : Int)) = true := by rw [hl2]; simpa using hlt
  have hx0 := ez5 hlt;generalize props[i] = x at hx0;have hx := cy3 (f := cx9) hx0;have hnx := dy1 hx0;generalize (dx8 (props.take i)).map D.str = o at *
  match o, hol with
  | [], hol =>
   dsimp only [bi1, ay6]
   repeat' (first | refine yz ?_ | refine yi (cx9 x) hx ?_ | (refine qS rfl ⟨by simp, fun d hd => by (obtain rfl := fa0.1 hd; rfl), by (show (0 + 1) * 16 ≤ 140737488355328; omega), by (show 0 + 1 ≤ 9223372036854775807; omega)⟩ ?_))
   refine ac1 ?_;refine ⟨⟨i + 1, by omega⟩, by dsimp only; omega, ?_⟩;dsimp only;rw [hnx];exact (bi5 [1])
  | a :: q, hol =>
   dsimp only [bi1, ay6]
   repeat' (first | refine yz ?_ | refine yi (cx9 x) hx ?_ | (refine qS rfl ⟨by simp, fun d hd => by (obtain rfl := fa0.1 hd; rfl), by (show ((a :: q).length + 1) * 16 ≤ 140737488355328; omega), by (show (a :: q).length + 1 ≤ 9223372036854775807; omega)⟩ ?_))
   refine ac1 ?_;refine ⟨⟨i + 1, by omega⟩, by dsimp only; omega, ?_⟩;dsimp only;rw [hnx];exact (bi5 [2])
 ·have g1 : decide ((i : Int) < ((props.map cx9).length : Int)) = false := by rw [hl2]; simp; omega
  rw [fe9 hge];refine qA ?_;refine bi4 (ob := []) rfl rfl (by repeat (first | exact trivial | refine ⟨rfl, ?_⟩)) (by repeat (first | exact trivial | refine ⟨rfl, ?_⟩)) ?_
  cases a1 : labels.any fun s => !cr0 s with
  | true =>
   rw [a1] at h1
   repeat' (first | refine yz ?_ | refine yp bv0 h1 ?_ | exact zD)
  | false =>
  cases a2 : (dx8 props).any fun s => !cr0 s with
  | true =>
   rw [a1] at h1;rw [a2] at h2
   repeat' (first | refine yz ?_ | refine yp bv0 h1 ?_ | refine yp bv0 h2 ?_ | exact zD)
  | false =>
  cases a3 : do5 labels with
  | false =>
   rw [a1] at h1;rw [a2] at h2;rw [a3] at h3
   repeat' (first | refine yz ?_ | refine yp bv0 h1 ?_ | refine yp bv0 h2 ?_ | refine yp bv6 h3 ?_ | exact zD)
  | true =>
  cases a4 : do5 (dx8 props) with
  | false =>
   rw [a1] at h1;rw [a2] at h2;rw [a3] at h3;rw [a4] at h4
   repeat' (first | refine yz ?_ | refine yp bv0 h1 ?_ | refine yp bv0 h2 ?_ | refine yp bv6 h3 ?_ | refine yp bv6 h4 ?_ | exact zD)
  | true =>
   rw [a1] at h1;rw [a2] at h2;rw [a3] at h3;rw [a4] at h4;simp only [fc2, ff7, cond_false]
   repeat' (first | refine yz ?_ | refine yp bv0 h1 ?_ | refine yp bv0 h2 ?_ | refine yp bv6 h3 ?_ | refine yp bv6 h4 ?_)
   refine ac7 (α := SAn props fun p => !bt4 p.v) (fun p => ⟨[(44, .d (.sl (props.map cx9))), (45, .d (.int (props.map cx9).length)), (46, .d (.int p.i))], []⟩) (fun p => props.length - p.i) ⟨0, by omega, rfl⟩ (zle 0) ?_;rintro ⟨j, hj, ok⟩;dsimp only;rcases ez6 j props.length with hlt | hge2
   ·have g1 : decide ((j : Int) < ((props.map cx9).length : Int)) = true := by rw [hl2]; simpa using hlt
    have hx0 := ez5 hlt;generalize props[j] = x at hx0;obtain ⟨xk, ⟨vk, vn, vd, vS, vl⟩⟩ := x;have hx := cy3 (f := cx9) hx0;have h5 := ca7 cc1 (.mk vk vn vd vS vl);rw [ok, dy0 hx0]
    cases a5 : bt4 (.mk vk vn vd vS vl) with
    | false =>
     rw [a5] at h5
     repeat' (first | refine yz ?_ | refine yi _ hx ?_ | refine yp b147 h5 ?_ | exact zD)
    | true =>
     rw [a5] at h5
     repeat' (first | refine yz ?_ | refine yi _ hx ?_ | refine yp b147 h5 ?_)
     refine ac1 ?_;exact ⟨⟨j + 1, by omega, by rw [ok, dy0 hx0, a5]; rfl⟩, by dsimp only; omega, (zle 0)⟩
   ·have g1 : decide ((j : Int) < ((props.map cx9).length : Int)) = false := by rw [hl2]; simp; omega
    rw [ok, fa1 hge2]
    repeat' (first | refine yz ?_ | exact zD)
def dy3 (prev : Option Int) (nn : Int) (n : Nd) : Int :=
 bif (match prev with | some p => decide (n.id ≤ p) | none => false) then 26 else
 bif decide (n.id < 1) || decide (n.id ≥ nn) then 1 else dx9 n.labels n.props
def dy4 (nn : Int) : Option Int → List Nd → Int
 | _, [] => 0
 | prev, n :: r => bif dy3 prev nn n != 0 then dy3 prev nn n else dy4 nn (some n.id) r
def dy5 (prev : Option Int) (g : Gr) (e : Ed) : Int :=
 bif (match prev with | some p => decide (e.id ≤ p) | none => false) then 26 else
 bif decide (e.id < 1) || decide (e.id ≥ g.ne) then 1 else
 bif !dx1 g.nodes e.src || !dx1 g.nodes e.dst then 10 else
 bif !cr0 e.ty then 6 else dx9 [] e.props
def dy6 (g : Gr) : Option Int → List Ed → Int
 | _, [] => 0
 | prev, e :: r => bif dy5 prev g e != 0 then dy5 prev g e else dy6 g (some e.id) r
def dy7 (g : Gr) : Int :=
 bif decide (g.nodes.length > 2000) || decide (g.edges.length > 4000) then 4 else
 bif decide (g.nn < 1) || decide (g.nn > 1000001) || (decide (g.ne < 1) || decide (g.ne > 1000001)) then 1 else
 bif dy4 g.nn none g.nodes != 0 then dy4 g.nn none g.nodes else dy6 g none g.edges
def dy8 (l : List Nd) : Nat → Option Int
 | 0 => none
 | j + 1 => (l[j]?).map Nd.id
def dy9 (l : List Ed) : Nat → Option Int
 | 0 => none
 | j + 1 => (l[j]?).map Ed.id
structure SCk (g : Gr) (R : Int) where
 i : Nat
 hi : i ≤ g.nodes.length
 ok : R = dy4 g.nn (dy8 g.nodes i) (g.nodes.drop i)
structure SCe (g : Gr) (R : Int) where
 i : Nat
 hi : i ≤ g.edges.length
 ok : R = dy6 g (dy9 g.edges i) (g.edges.drop i)
theorem dz0 {l : List Nd} {i : Nat} {n : Nd} {nn : Int} (h : l[i]? = some n) : dy4 nn (dy8 l i) (l.drop i) = bif dy3 (dy8 l i) nn n != 0 then dy3 (dy8 l i) nn n else dy4 nn (dy8 l (i + 1)) (l.drop (i + 1)) := by
 rw [bz2 h, dy4, dy8, h]; rfl
theorem dz1 {g : Gr} {i : Nat} {e : Ed} (h : g.edges[i]? = some e) : dy6 g (dy9 g.edges i) (g.edges.drop i) = bif dy5 (dy9 g.edges i) g e != 0 then dy5 (dy9 g.edges i) g e else dy6 g (dy9 g.edges (i + 1)) (g.edges.drop (i + 1)) := by
 rw [bz2 h, dy6, dy9, h]; rfl
set_option maxRecDepth 20000 in
set_option maxHeartbeats 8000000 in
theorem dz2 (g : Gr) : Ev E 41 [cy2 g] (.d (.int (dy7 g))) := by
 have hnn : (g.nodes.map cy0).length = g.nodes.length := by simp
 have hen : (g.edges.map cy1).length = g.edges.length := by simp
 have e1 : decide (((g.nodes.map cy0).length : Int) > 2000) = decide (g.nodes.length > 2000) := by rw [hnn, decide_eq_decide]; omega
 have e2 : decide (((g.edges.map cy1).length : Int) > 4000) = decide (g.edges.length > 4000) := by rw [hen, decide_eq_decide]; omega
 unfold dy7;rw [← e1, ← e2];refine ye1 func41 ntmps41 fun _ _ _=>?_
 repeat' (refine yz ?_)
 cases c1 : decide (((g.nodes.map cy0).length : Int) > 2000) with
 | true =>
  repeat' (first | refine yz ?_ | exact zD)
 | false =>
 repeat' (refine yz ?_)
 cases c2 : decide (((g.edges.map cy1).length : Int) > 4000) with
 | true =>
  repeat' (first | refine yz ?_ | exact zD)
 | false =>
 repeat' (refine yz ?_)
 cases c3 : decide (g.nn < 1) with
 | true =>
  repeat' (first | refine yz ?_ | exact zD)
 | false =>
 repeat' (refine zS rfl ?_)
 cases c4 : decide (g.nn > 1000001) with
 | true =>
  repeat' (first | refine yz ?_ | exact zD)
 | false =>
 repeat' (refine zS rfl ?_)
 cases c5 : decide (g.ne < 1) with
 | true =>
  repeat' (first | refine yz ?_ | exact zD)
 | false =>
 repeat' (refine yz ?_)
 cases c6 : decide (g.ne > 1000001) with
 | true =>
  repeat' (first | refine yz ?_ | exact zD)
 | false =>
 repeat' (refine yz ?_)
 have hn2 : g.nodes.length ≤ 2000 := by have := of_decide_eq_false c1; omega
 have he2 : g.edges.length ≤ 4000 := by have := of_decide_eq_false c2; omega
 simp only [fc2, cond_false];generalize hR : dy4 g.nn none g.nodes = R;refine ac7 (α := SCk g R) (fun p => ⟨[(1, .ptr 0 0), (38, .d (.sl (g.nodes.map cy0))), (39, .d (.int (g.nodes.map cy0).length)), (40, .d (.int p.i))], [oGr g]⟩) (fun p => g.nodes.length - p.i) ⟨0, by omega, hR.symm⟩ (zle 1) ?_;rintro ⟨i, hi, ok⟩;dsimp only;rcases ez6 i g.nodes.length with hlt | hge
 ·have g1 : decide ((i : Int) < ((g.nodes.map cy0).length : Int)) = true := by rw [hnn]; simpa using hlt
  have hx0 := ez5 hlt;generalize g.nodes[i] = n at hx0;have hx := cy3 (f := cy0) hx0;have hp := dy2 n.labels n.props;rw [dz0 hx0] at ok
  cases i with
  | zero =>
   have g2 : decide (((0 : Nat) : Int) > 0) = false := rfl;simp only [dy3, dy8, cond_false] at ok
   repeat' (first | refine yz ?_ | refine yi (cy0 n) hx ?_)
   cases c7 : decide (n.id < 1) with
   | true =>
    rw [c7] at ok;rw [show R = 1 from ok]
    repeat' (first | refine yz ?_ | exact zD)
   | false =>
   repeat' (refine yz ?_)
   cases c8 : decide (n.id ≥ g.nn) with
   | true =>
    rw [c7, c8] at ok;rw [show R = 1 from ok]
    repeat' (first | refine yz ?_ | exact zD)
   | false =>
   rw [c7, c8] at ok;simp only [fc2, cond_false] at ok;generalize dx9 n.labels n.props = P at hp ok
   repeat' (first | refine yz ?_ | refine yp b120 hp ?_)
   cases c9 : P != 0 with
   | true =>
    rw [c9, cond_true] at ok;rw [ok, c9, cond_true]
    repeat' (first | refine yz ?_ | exact zD)
   | false =>
    rw [c9, cond_false] at ok
    repeat' (refine yz ?_)
    refine ac1 ?_;exact ⟨⟨0 + 1, by omega, ok⟩, by dsimp only; omega, (zle 1)⟩
  | succ j =>
   have g2 := yT (((j + 1 : Nat) : Int) > 0) (by omega);obtain ⟨p, hy0⟩ : ∃ p, g.nodes[j]? = some p := ⟨_, ez5 (by omega)⟩
   have hy : (g.nodes.map cy0)[(((j + 1 : Nat) : Int) - 1).toNat]? = some (cy0 p) := by
    rw [show (((j + 1 : Nat) : Int) - 1) = (j : Int) by omega]; exact cy3 (f := cy0) hy0
   have hpv : dy8 g.nodes (j + 1) = some p.id := by rw [dy8, hy0]; rfl
   rw [hpv] at ok;simp only [dy3] at ok
   repeat' (first | refine yz ?_ | refine yi (cy0 n) hx ?_ | refine yi (cy0 p) hy ?_ | refine yx ?_)
   cases c0 : decide (n.id ≤ p.id) with
   | true =>
    rw [c0] at ok;rw [show R = 26 from ok]
    repeat' (first | refine yz ?_ | exact zD)
   | false =>
   rw [c0, cond_false] at ok
   repeat' (refine yz ?_)
   cases c7 : decide (n.id < 1) with
   | true =>
    rw [c7] at ok;rw [show R = 1 from ok]
    repeat' (first | refine yz ?_ | exact zD)
   | false =>
   repeat' (refine yz ?_)
   cases c8 : decide (n.id ≥ g.nn) with
   | true =>
    rw [c7, c8] at ok;rw [show R = 1 from ok]
    repeat' (first | refine yz ?_ | exact zD)
   | false =>
   rw [c7, c8] at ok;simp only [fc2, cond_false] at ok;generalize dx9 n.labels n.props = P at hp ok
   repeat' (first | refine yz ?_ | refine yp b120 hp ?_)
   cases c9 : P != 0 with
   | true =>
    rw [c9, cond_true] at ok;rw [ok, c9, cond_true]
    repeat' (first | refine yz ?_ | exact zD)
   | false =>
    rw [c9, cond_false] at ok
    repeat' (refine yz ?_)
    refine ac1 ?_;exact ⟨⟨j + 1 + 1, by omega, ok⟩, by dsimp only; omega, (zle 1)⟩
 ·have g1 : decide ((i : Int) < ((g.nodes.map cy0).length : Int)) = false := by rw [hnn]; simp; omega
  rw [fa1 hge] at ok;rw [show R = 0 from ok];simp only [bne_self_eq_false, cond_false];generalize hR2 : dy6 g none g.edges = R2
  repeat' (refine yz ?_)
  refine ac7 (α := SCe g R2) (fun p => ⟨[(1, .ptr 0 0), (79, .d (.sl (g.edges.map cy1))), (80, .d (.int (g.edges.map cy1).length)), (81, .d (.int p.i))], [oGr g]⟩) (fun p => g.edges.length - p.i) ⟨0, by omega, hR2.symm⟩ (zle 1) ?_;rintro ⟨k, hk, ok2⟩;dsimp only;rcases ez6 k g.edges.length with hlt | hge2
  ·have g1 : decide ((k : Int) < ((g.edges.map cy1).length : Int)) = true := by rw [hen]; simpa using hlt
   have hx0 := ez5 hlt;generalize g.edges[k] = e at hx0;have hx := cy3 (f := cy1) hx0;have hp := dy2 [] e.props;have h1 := dx5 g.nodes e.src (by omega);have h2 := dx5 g.nodes e.dst (by omega);have h3 := cr5 e.ty;rw [dz1 hx0] at ok2
   cases k with
   | zero =>
    have g2 : decide (((0 : Nat) : Int) > 0) = false := rfl;simp only [dy5, dy9, cond_false] at ok2
    repeat' (first | refine yz ?_ | refine yi (cy1 e) hx ?_)
    cases c7 : decide (e.id < 1) with
    | true =>
     rw [c7] at ok2;rw [show R2 = 1 from ok2]
     repeat' (first | refine yz ?_ | exact zD)
    | false =>
    repeat' (refine yz ?_)
    cases c8 : decide (e.id ≥ g.ne) with
    | true =>
     rw [c7, c8] at ok2;rw [show R2 = 1 from ok2]
     repeat' (first | refine yz ?_ | exact zD)
    | false =>
    rw [c7, c8] at ok2;simp only [fc2, cond_false] at ok2
    repeat' (first | refine yz ?_ | refine yp b121 h1 ?_)
    cases d1 : dx1 g.nodes e.src with
    | false =>
     rw [d1] at ok2;rw [show R2 = 10 from ok2]
     repeat' (first | refine yz ?_ | exact zD)
    | true =>
    repeat' (first | refine yz ?_ | refine yp b121 h2 ?_)
    cases d2 : dx1 g.nodes e.dst with
    | false =>
     rw [d1, d2] at ok2;rw [show R2 = 10 from ok2]
     repeat' (first | refine yz ?_ | exact zD)
    | true =>
    rw [d1, d2] at ok2;simp only [ff7, fc2, cond_false] at ok2
    repeat' (first | refine yz ?_ | refine yp bu4 h3 ?_)
    cases d3 : cr0 e.ty with
    | false =>
     rw [d3] at ok2;rw [show R2 = 6 from ok2]
     repeat' (first | refine yz ?_ | exact zD)
    | true =>
    rw [d3] at ok2;simp only [ff7, cond_false] at ok2;generalize dx9 [] e.props = P at hp ok2
    repeat' (first | refine yz ?_ | refine yp b120 hp ?_)
    cases c9 : P != 0 with
    | true =>
     rw [c9, cond_true] at ok2;rw [ok2]
     repeat' (first | refine yz ?_ | exact zD)
    | false =>
     rw [c9, cond_false] at ok2
     repeat' (refine yz ?_)
     refine ac1 ?_;exact ⟨⟨0 + 1, by omega, ok2⟩, by dsimp only; omega, (zle 1)⟩
   | succ j =>
    have g2 := yT (((j + 1 : Nat) : Int) > 0) (by omega);obtain ⟨p, hy0⟩ : ∃ p, g.edges[j]? = some p := ⟨_, ez5 (by omega)⟩
    have hy : (g.edges.map cy1)[(((j + 1 : Nat) : Int) - 1).toNat]? = some (cy1 p) := by
     rw [show (((j + 1 : Nat) : Int) - 1) = (j : Int) by omega]; exact cy3 (f := cy1) hy0
    have hpv : dy9 g.edges (j + 1) = some p.id := by rw [dy9, hy0]; rfl
    rw [hpv] at ok2;simp only [dy5] at ok2
    repeat' (first | refine yz ?_ | refine yi (cy1 e) hx ?_ | refine yi (cy1 p) hy ?_ | refine yx ?_)
    cases c0 : decide (e.id ≤ p.id) with
    | true =>
     rw [c0] at ok2;rw [show R2 = 26 from ok2]
     repeat' (first | refine yz ?_ | exact zD)
    | false =>
    rw [c0, cond_false] at ok2
    repeat' (refine yz ?_)
    cases c7 : decide (e.id < 1) with
    | true =>
     rw [c7] at ok2;rw [show R2 = 1 from ok2]
     repeat' (first | refine yz ?_ | exact zD)
    | false =>
    repeat' (refine yz ?_)
    cases c8 : decide (e.id ≥ g.ne) with
    | true =>
     rw [c7, c8] at ok2;rw [show R2 = 1 from ok2]
     repeat' (first | refine yz ?_ | exact zD)
    | false =>
    rw [c7, c8] at ok2;simp only [fc2, cond_false] at ok2
    repeat' (first | refine yz ?_ | refine yp b121 h1 ?_)
    cases d1 : dx1 g.nodes e.src with
    | false =>
     rw [d1] at ok2;rw [show R2 = 10 from ok2]
     repeat' (first | refine yz ?_ | exact zD)
    | true =>
    repeat' (first | refine yz ?_ | refine yp b121 h2 ?_)
    cases d2 : dx1 g.nodes e.dst with
    | false =>
     rw [d1, d2] at ok2;rw [show R2 = 10 from ok2]
     repeat' (first | refine yz ?_ | exact zD)
    | true =>
    rw [d1, d2] at ok2;simp only [ff7, fc2, cond_false] at ok2
    repeat' (first | refine yz ?_ | refine yp bu4 h3 ?_)
    cases d3 : cr0 e.ty with
    | false =>
     rw [d3] at ok2;rw [show R2 = 6 from ok2]
     repeat' (first | refine yz ?_ | exact zD)
    | true =>
    rw [d3] at ok2;simp only [ff7, cond_false] at ok2;generalize dx9 [] e.props = P at hp ok2
    repeat' (first | refine yz ?_ | refine yp b120 hp ?_)
    cases c9 : P != 0 with
    | true =>
     rw [c9, cond_true] at ok2;rw [ok2]
     repeat' (first | refine yz ?_ | exact zD)
    | false =>
     rw [c9, cond_false] at ok2
     repeat' (refine yz ?_)
     refine ac1 ?_;exact ⟨⟨j + 1 + 1, by omega, ok2⟩, by dsimp only; omega, (zle 1)⟩
  ·have g1 : decide ((k : Int) < ((g.edges.map cy1).length : Int)) = false := by rw [hen]; simp; omega
   rw [fa1 hge2] at ok2;rw [show R2 = 0 from ok2]
   repeat' (first | refine yz ?_ | exact zD)
end Go.Proofs.YtenpjlghikohmaaGreatDoor
