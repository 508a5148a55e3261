/- Walks in a graph, counted: plain sums; The library's binary search over nodes, membership of ids; Degree sequences: the program's count in a map, gathered and sorted; The library's sorts in place, of texts and of integers, and its removal of repeats, as the engine's contracts; The library's sorts at nil; all labels and all types of a graph. Conditions: each part's own, as it says. -/
import Derived.Test.YtkjebcnlmanhlaaGreatDoorMB
import Derived.Test.YtkjebcnlmanhlaaGreatDoorMA
import Derived.Test.YtkjebcnlmanhlaaGreatDoorGC
import Derived.Test.YtkjebcnlmanhlaaGreatDoorLA
import Derived.Test.YtkjebcnlmanhlaaGreatDoorLD
import Derived.Test.YtkjebcnlmanhlaaGreatDoorGS
import Derived.Sort.OwnSortedInts
set_option linter.unusedVariables false
set_option linter.unusedSimpArgs false
/- Walks in a graph, counted: plain sums. Conditions: none. -/
namespace Go.Proofs.YtkjebcnlmanhlaaGreatDoor
open Go Go.Abs Go.Val
/-- The sum of a list. -/
def smI : List Int → Int
  | [] => 0
  | x :: r => x + smI r
theorem smI_nn : ∀ {l : List Int}, (∀ x ∈ l, 0 ≤ x) → 0 ≤ smI l
  | [], _ => Int.le_refl _
  | x :: r, h => by
    have h1 := h x (by simp)
    have h2 := smI_nn (l := r) fun y hy => h y (by simp [hy])
    simp only [smI]; omega
theorem smI_mem : ∀ {l : List Int} {x : Int}, (∀ x ∈ l, 0 ≤ x) → x ∈ l → x ≤ smI l
  | y :: r, x, h, hx => by
    have h1 := h y (by simp)
    have h2 := smI_nn (l := r) fun z hz => h z (by simp [hz])
    simp only [smI]
    rcases List.mem_cons.1 hx with e | e
    · omega
    · have := smI_mem (l := r) (fun z hz => h z (by simp [hz])) e
      omega
theorem smI_set : ∀ {l : List Int} {i : Nat} {x y : Int}, l[i]? = some x → smI (l.set i y) = smI l - x + y
  | a :: r, 0, x, y, h => by
    simp at h
    simp only [List.set_cons_zero, smI]; omega
  | a :: r, i + 1, x, y, h => by
    have := smI_set (l := r) (i := i) (y := y) (by simpa using h)
    simp only [List.set_cons_succ, smI]; omega
theorem smI_rep (n : Nat) (x : Int) : smI (List.replicate n x) = n * x := by
  induction n with
  | zero => simp [smI]
  | succ n ih => simp only [List.replicate_succ, smI, ih]; rw [show ((n + 1 : Nat) : Int) = n + 1 by omega, Int.add_mul]; omega
theorem smI_take {l : List Int} {i : Nat} {x : Int} (h : l[i]? = some x) : smI (l.take (i + 1)) = smI (l.take i) + x := by
  induction l generalizing i with
  | nil => simp at h
  | cons a r ih =>
    cases i with
    | zero => simp at h; subst h; simp [smI]
    | succ i => have := ih (i := i) (by simpa using h); simp only [List.take_succ_cons, smI, this]; omega
/-- What stands beside an id. -/
def pkI (id : Int) : List Int → List Int → Int
  | i :: is, x :: xs => (if i = id then x else 0) + pkI id is xs
  | _, _ => 0
theorem pkI_none {id : Int} : ∀ {is xs : List Int}, (∀ i ∈ is, i ≠ id) → pkI id is xs = 0
  | [], xs, _ => by simp [pkI]
  | i :: is, [], _ => by simp [pkI]
  | i :: is, x :: xs, h => by
    have h1 := h i (by simp)
    simp only [pkI, if_neg h1, pkI_none (is := is) (xs := xs) fun j hj => h j (by simp [hj])]
    omega
theorem pkI_one {id : Int} : ∀ {is xs : List Int}, is.Pairwise (· < ·) → (∀ x ∈ xs, 0 ≤ x ∧ x ≤ 1) → pkI id is xs ≤ 1
  | [], xs, _, _ => by simp [pkI]
  | i :: is, [], _, _ => by simp [pkI]
  | i :: is, x :: xs, hp, h => by
    obtain ⟨p1, p2⟩ := List.pairwise_cons.1 hp
    have h1 := h x (by simp)
    simp only [pkI]
    by_cases e : i = id
    · rw [if_pos e, pkI_none fun j hj => by have := p1 j hj; omega]; omega
    · rw [if_neg e]
      have := pkI_one (id := id) p2 (xs := xs) fun y hy => h y (by simp [hy])
      omega
theorem pkI_take {id : Int} : ∀ {is xs : List Int} {i : Nat} {u x : Int}, is[i]? = some u → xs[i]? = some x → pkI id (is.take (i + 1)) (xs.take (i + 1)) = pkI id (is.take i) (xs.take i) + (if u = id then x else 0)
  | a :: is, b :: xs, 0, u, x, h1, h2 => by
    simp at h1 h2; subst h1 h2; simp [pkI]
  | a :: is, b :: xs, i + 1, u, x, h1, h2 => by
    have := pkI_take (id := id) (is := is) (xs := xs) (i := i) (by simpa using h1) (by simpa using h2)
    simp only [List.take_succ_cons, pkI, this]; omega
/-- How many ids ahead of a place are this one. -/
def ctI (id : Int) : List Int → Int
  | [] => 0
  | i :: is => (if i = id then 1 else 0) + ctI id is
theorem ctI_nn (id : Int) : ∀ (is : List Int), 0 ≤ ctI id is
  | [] => Int.le_refl _
  | i :: is => by
    have := ctI_nn id is
    simp only [ctI]; split <;> omega
theorem ctI_none {id : Int} : ∀ {is : List Int}, (∀ i ∈ is, i ≠ id) → ctI id is = 0
  | [], _ => rfl
  | i :: is, h => by simp only [ctI, if_neg (h i (by simp)), ctI_none (is := is) fun j hj => h j (by simp [hj])]; omega
theorem ctI_one {id : Int} : ∀ {is : List Int}, is.Pairwise (· < ·) → ctI id is ≤ 1
  | [], _ => by simp [ctI]
  | i :: is, hp => by
    obtain ⟨p1, p2⟩ := List.pairwise_cons.1 hp
    simp only [ctI]
    by_cases e : i = id
    · rw [if_pos e, ctI_none fun j hj => by have := p1 j hj; omega]; omega
    · rw [if_neg e]; have := ctI_one (id := id) p2; omega
theorem ctI_take {id : Int} : ∀ {is : List Int} {i : Nat} {u : Int}, is[i]? = some u → ctI id (is.take (i + 1)) = ctI id (is.take i) + (if u = id then 1 else 0)
  | a :: is, 0, u, h => by simp at h; subst h; simp [ctI]
  | a :: is, i + 1, u, h => by
    have := ctI_take (id := id) (is := is) (i := i) (by simpa using h)
    simp only [List.take_succ_cons, ctI, this]; omega
def tyB (t : ByteArray) (e : Ed) : Bool := e.ty.toList == t.toList
/-- What all edges of a type bring. -/
def egI (t : ByteArray) (is xs : List Int) : List Ed → Int
  | [] => 0
  | e :: r => (bif tyB t e then pkI e.src is xs else 0) + egI t is xs r
theorem egI_take {t : ByteArray} {is xs : List Int} : ∀ {l : List Ed} {i : Nat} {e : Ed}, l[i]? = some e → egI t is xs (l.take (i + 1)) = egI t is xs (l.take i) + (bif tyB t e then pkI e.src is xs else 0)
  | a :: l, 0, e, h => by simp at h; subst h; simp [egI]
  | a :: l, i + 1, e, h => by
    have := egI_take (t := t) (is := is) (xs := xs) (l := l) (i := i) (by simpa using h)
    simp only [List.take_succ_cons, egI, this]; omega
/-- How many edges of a type there are. -/
def cntE (t : ByteArray) : List Ed → Int
  | [] => 0
  | e :: r => (bif tyB t e then 1 else 0) + cntE t r
/-- .. that leave a node. -/
def outE (t : ByteArray) (id : Int) : List Ed → Int
  | [] => 0
  | e :: r => (bif tyB t e && e.src == id then 1 else 0) + outE t id r
theorem cntE_rng (t : ByteArray) : ∀ (l : List Ed), 0 ≤ cntE t l ∧ cntE t l ≤ l.length
  | [] => by simp [cntE]
  | e :: r => by
    have := cntE_rng t r
    simp only [cntE, List.length_cons]
    cases tyB t e <;> simp <;> omega
theorem outE_rng (t : ByteArray) (id : Int) : ∀ (l : List Ed), 0 ≤ outE t id l ∧ outE t id l ≤ l.length
  | [] => by simp [outE]
  | e :: r => by
    have := outE_rng t id r
    simp only [outE, List.length_cons]
    cases tyB t e && e.src == id <;> simp <;> omega
theorem egI_cnt {t : ByteArray} {is xs : List Int} (hp : is.Pairwise (· < ·)) (hx : ∀ x ∈ xs, 0 ≤ x ∧ x ≤ 1) : ∀ (l : List Ed), egI t is xs l ≤ cntE t l
  | [] => by simp [egI, cntE]
  | e :: r => by
    have h1 := egI_cnt (t := t) hp hx r
    have h2 := pkI_one (id := e.src) hp hx
    simp only [egI, cntE]
    cases tyB t e <;> simp <;> omega
/-- A sum over all places, each with a factor. -/
def dtI (f : Int → Int) : List Int → List Int → Int
  | i :: is, x :: xs => f i * x + dtI f is xs
  | _, _ => 0
theorem dtI_zero : ∀ (is xs : List Int), dtI (fun _ => 0) is xs = 0
  | [], xs => by simp [dtI]
  | i :: is, [] => by simp [dtI]
  | i :: is, x :: xs => by simp [dtI, dtI_zero is xs]
theorem dtI_add (f g : Int → Int) : ∀ (is xs : List Int), dtI (fun i => f i + g i) is xs = dtI f is xs + dtI g is xs
  | [], xs => by simp [dtI]
  | i :: is, [] => by simp [dtI]
  | i :: is, x :: xs => by
    simp only [dtI, dtI_add f g is xs, Int.add_mul]; omega
theorem dtI_pk (id : Int) : ∀ (is xs : List Int), dtI (fun i => if i = id then 1 else 0) is xs = pkI id is xs
  | [], xs => by simp [dtI, pkI]
  | i :: is, [] => by simp [dtI, pkI]
  | i :: is, x :: xs => by
    simp only [dtI, pkI, dtI_pk id is xs]
    split <;> simp
theorem egI_dt (t : ByteArray) (is xs : List Int) : ∀ (l : List Ed), egI t is xs l = dtI (fun i => outE t i l) is xs
  | [] => by simp only [egI, outE, dtI_zero]
  | e :: r => by
    have h1 := egI_dt t is xs r
    simp only [egI, outE]
    rw [dtI_add (fun i => bif tyB t e && e.src == i then 1 else 0) (fun i => outE t i r), ← h1]
    cases hc : tyB t e with
    | false => simp only [cond_false, Bool.false_and]; rw [dtI_zero]
    | true =>
      simp only [cond_true, Bool.true_and]
      congr 1
      rw [← dtI_pk]
      congr 1
      funext i
      by_cases h : i = e.src
      · rw [if_pos h, show (e.src == i) = true by simpa using h.symm]; rfl
      · rw [if_neg h, show (e.src == i) = false by simpa using fun e => h e.symm]; rfl
theorem dtI_le {f : Int → Int} {M : Int} : ∀ {is xs : List Int}, (∀ i ∈ is, f i ≤ M) → (∀ x ∈ xs, 0 ≤ x) → 0 ≤ M → dtI f is xs ≤ M * smI xs
  | [], xs, _, hx, hM => by
    simp only [dtI]
    exact Int.mul_nonneg hM (smI_nn hx)
  | i :: is, [], _, _, _ => by simp [dtI, smI]
  | i :: is, x :: xs, hf, hx, hM => by
    have h1 := dtI_le (is := is) (xs := xs) (fun j hj => hf j (by simp [hj])) (fun y hy => hx y (by simp [hy])) hM
    have h2 := Int.mul_le_mul_of_nonneg_right (hf i (by simp)) (hx x (by simp))
    simp only [dtI, smI, Int.mul_add]; omega
theorem egI_le {t : ByteArray} {is xs : List Int} {M : Int} {l : List Ed} (hf : ∀ i ∈ is, outE t i l ≤ M) (hx : ∀ x ∈ xs, 0 ≤ x) (hM : 0 ≤ M) : egI t is xs l ≤ M * smI xs := by
  rw [egI_dt]; exact dtI_le hf hx hM
end Go.Proofs.YtkjebcnlmanhlaaGreatDoor

/- The library's binary search over nodes, membership of ids. Conditions: at most a million nodes. -/
namespace Go.Proofs.YtkjebcnlmanhlaaGreatDoor
open Go Go.Abs Go.Val
attribute [local irreducible] go SGo HasBody Ev ExtEv EvO EvS

def idAt (l : List Nd) (i : Nat) : Int := (l[i]?.getD nd0).id
def bsP (l : List Nd) (n : Int) (h : Nat) : Bool := decide (Lib.compareInt (idAt l h) n < 0)
def bsR (l : List Nd) (n : Int) : Nat := bsF (bsP l n) 0 l.length
def hasI (l : List Nd) (n : Int) : Bool := decide (((bsR l n : Nat) : Int) < l.length) && Lib.compareInt (idAt l (bsR l n)) n == 0
structure BnZ (l : List Nd) (n : Int) where
  i : Int
  j : Int
  hi : 0 ≤ i
  hij : i ≤ j
  hj : j ≤ l.length
  ht : bsF (bsP l n) i.toNat j.toNat = bsR l n
theorem has1_ev (x : Nd) (n : Int) : Ev E 52 [encNd x, .int n] (.d (.int (Lib.compareInt x.id n))) := by
  have h := compare_ev x.id n
  refine enter2 Tryz.func52 Tryz.ntmps52 rfl rfl fun w0 F0 O => ?_
  repeat' (first | refine zS rfl ?_ | refine qA ?_ | refine qB rfl ?_ | refine qC (by kernel_rfl) ?_ | refine qD ?_ | refine qE ?_ | refine qF ?_ | refine qG ?_ | refine qH rfl ?_ | refine qP rfl rfl rfl rfl rfl rfl b22 (h) ?_ | refine zT rfl ?_ | refine zU rfl ?_ | refine qL rfl rfl ?_ | refine qM rfl rfl rfl ?_ | refine qO rfl rfl rfl ?_ | refine zX rfl rfl rfl rfl ?_ | refine zW rfl rfl rfl rfl ?_ | (refine qY rfl rfl rfl rfl ?_ ?_ <;> intro _) | exact zD | exact zL)
theorem nd_at {l : List Nd} {i : Int} {p : Nat} (hp : i.toNat = p) (h : p < l.length) : ∃ x, l[p]? = some x ∧ idAt l p = x.id ∧ (l.map encNd)[i.toNat]? = some (encNd x) := by
  refine ⟨l[p], List.getElem?_eq_getElem h, ?_, ?_⟩
  · unfold idAt; rw [List.getElem?_eq_getElem h]; rfl
  · rw [hp, List.getElem?_map, List.getElem?_eq_getElem h]; rfl
theorem bsearch_ev (l : List Nd) (n : Int) (hl : l.length ≤ 1000000) : Ev E 51 [.sl (l.map encNd), .int n, .imm (.func (.func 52) #[] #[])] (.tup [.int (bsR l n : Nat), .bool (hasI l n)]) := by
  have hle : (l.map encNd).length = l.length := by simp
  have hb : HasBody E 52 := b52
  refine enter3 Tryz.func51 Tryz.ntmps51 rfl rfl fun w0 F0 O => ?_
  repeat' (first | refine zS rfl ?_ | refine qA ?_ | refine qB rfl ?_ | refine qC (by kernel_rfl) ?_ | refine qD ?_ | refine qE ?_ | refine qF ?_ | refine qG ?_ | refine qH rfl ?_ | refine zT rfl ?_ | refine zU rfl ?_ | refine qL rfl rfl ?_ | refine qM rfl rfl rfl ?_ | refine qO rfl rfl rfl ?_ | refine zX rfl rfl rfl rfl ?_ | refine zW rfl rfl rfl rfl ?_ | (refine qY rfl rfl rfl rfl ?_ ?_ <;> intro _) | exact zD | exact zL)
  refine go_loop_ (α := BnZ l n) (fun p => ⟨[(0, .d (.sl (l.map encNd))), (1, .d (.int n)), (2, .d (.imm (.func (.func 52) #[] #[]))), (8, .d (.int (l.map encNd).length)), (9, .d (.int p.i)), (10, .d (.int p.j))], []⟩) (fun p => (p.j - p.i).toNat) ⟨0, l.length, Int.le_refl _, by omega, Int.le_refl _, rfl⟩ (by rw [hle]; exact (zle 0)) ?_
  rintro ⟨i, j, hi, hij, hj, ht⟩
  dsimp only
  by_cases hlt : i < j
  · have g1 : decide (i < j) = true := decide_eq_true hlt
    obtain ⟨x, -, hid, hx⟩ := nd_at (l := l) (i := (i + j) / 2) (p := (i.toNat + j.toNat) / 2) (by omega) (by omega)
    have q := has1_ev x n
    rw [bsF, if_pos (by omega)] at ht
    have hP : bsP l n ((i.toNat + j.toNat) / 2) = decide (Lib.compareInt x.id n < 0) := by unfold bsP; rw [hid]
    rw [hP] at ht
    cases hc : decide (Lib.compareInt x.id n < 0) with
    | true =>
      rw [hc, cond_true] at ht
      repeat' (first | refine go_half _ rfl rfl rfl rfl rfl rfl rfl (by omega) (by omega) ?_ | refine zS rfl ?_ | refine qA ?_ | refine qB rfl ?_ | refine qC (by kernel_rfl) ?_ | refine qD ?_ | refine qE ?_ | refine qF ?_ | refine qG ?_ | refine qH rfl ?_ | refine qI (encNd x) rfl (guardX_ok rfl) rfl rfl rfl rfl rfl rfl (by first | omega | decide) hx ?_ | refine qP rfl rfl rfl rfl rfl rfl hb (q) ?_ | refine zT rfl ?_ | refine zU rfl ?_ | refine qL rfl rfl ?_ | refine qM rfl rfl rfl ?_ | refine qO rfl rfl rfl ?_ | refine zX rfl rfl rfl rfl ?_ | refine zW rfl rfl rfl rfl ?_ | (refine qY rfl rfl rfl rfl ?_ ?_ <;> intro _) | exact zD | exact zL)
      refine go_stop ?_
      exact ⟨⟨(i + j) / 2 + 1, j, by omega, by omega, hj, by rw [← ht, show ((i + j) / 2 + 1).toNat = (i.toNat + j.toNat) / 2 + 1 by omega]⟩, by dsimp only; omega, (zle 0)⟩
    | false =>
      rw [hc, cond_false] at ht
      repeat' (first | refine go_half _ rfl rfl rfl rfl rfl rfl rfl (by omega) (by omega) ?_ | refine zS rfl ?_ | refine qA ?_ | refine qB rfl ?_ | refine qC (by kernel_rfl) ?_ | refine qD ?_ | refine qE ?_ | refine qF ?_ | refine qG ?_ | refine qH rfl ?_ | refine qI (encNd x) rfl (guardX_ok rfl) rfl rfl rfl rfl rfl rfl (by first | omega | decide) hx ?_ | refine qP rfl rfl rfl rfl rfl rfl hb (q) ?_ | refine zT rfl ?_ | refine zU rfl ?_ | refine qL rfl rfl ?_ | refine qM rfl rfl rfl ?_ | refine qO rfl rfl rfl ?_ | refine zX rfl rfl rfl rfl ?_ | refine zW rfl rfl rfl rfl ?_ | (refine qY rfl rfl rfl rfl ?_ ?_ <;> intro _) | exact zD | exact zL)
      refine go_stop ?_
      exact ⟨⟨i, (i + j) / 2, hi, by omega, by omega, by rw [← ht, show ((i + j) / 2).toNat = (i.toNat + j.toNat) / 2 by omega]⟩, by dsimp only; omega, (zle 0)⟩
  · have g1 : decide (i < j) = false := decide_eq_false hlt
    rw [bsF, if_neg (by omega)] at ht
    obtain ⟨k, rfl⟩ := Int.eq_ofNat_of_zero_le hi
    simp only [Int.toNat_natCast] at ht
    unfold hasI
    rw [← ht]
    have hnn : decide ((k : Int) < (l.map encNd).length) = decide ((k : Int) < l.length) := by rw [hle]
    cases hc : decide ((k : Int) < (l.length : Int)) with
    | true =>
      rw [hc] at hnn
      obtain ⟨x, -, hid, hx⟩ := nd_at (l := l) (i := (k : Int)) (p := k) (by omega) (by have := of_decide_eq_true hc; omega)
      have q := has1_ev x n
      rw [hid]
      repeat' (first | refine zS rfl ?_ | refine qA ?_ | refine qB rfl ?_ | refine qC (by kernel_rfl) ?_ | refine qD ?_ | refine qE ?_ | refine qF ?_ | refine qG ?_ | refine qH rfl ?_ | refine qI (encNd x) rfl (guardX_ok rfl) rfl rfl rfl rfl rfl rfl (by first | omega | decide) hx ?_ | refine qP rfl rfl rfl rfl rfl rfl hb (q) ?_ | refine zT rfl ?_ | refine zU rfl ?_ | refine qL rfl rfl ?_ | refine qM rfl rfl rfl ?_ | refine qO rfl rfl rfl ?_ | refine zX rfl rfl rfl rfl ?_ | refine zW rfl rfl rfl rfl ?_ | (refine qY rfl rfl rfl rfl ?_ ?_ <;> intro _) | exact zD | exact zL)
    | false =>
      rw [hc] at hnn
      repeat' (first | refine zS rfl ?_ | refine qA ?_ | refine qB rfl ?_ | refine qC (by kernel_rfl) ?_ | refine qD ?_ | refine qE ?_ | refine qF ?_ | refine qG ?_ | refine qH rfl ?_ | refine zT rfl ?_ | refine zU rfl ?_ | refine qL rfl rfl ?_ | refine qM rfl rfl rfl ?_ | refine qO rfl rfl rfl ?_ | refine zX rfl rfl rfl rfl ?_ | refine zW rfl rfl rfl rfl ?_ | (refine qY rfl rfl rfl rfl ?_ ?_ <;> intro _) | exact zD | exact zL)
theorem ghas_ev (l : List Nd) (n : Int) (hl : l.length ≤ 1000000) : Ev E 24 [.sl (l.map encNd), .int n] (.d (.bool (hasI l n))) := by
  have h := bsearch_ev l n hl
  refine enter2 Tryz.func24 Tryz.ntmps24 rfl rfl fun w0 F0 O => ?_
  repeat' (first | refine zS rfl ?_ | refine qA ?_ | refine qB rfl ?_ | refine qC (by kernel_rfl) ?_ | refine qD ?_ | refine qE ?_ | refine qF ?_ | refine qG ?_ | refine qH rfl ?_ | refine qP rfl rfl rfl rfl rfl rfl b51 (h) ?_ | refine zT rfl ?_ | refine zU rfl ?_ | refine qL rfl rfl ?_ | refine qM rfl rfl rfl ?_ | refine qO rfl rfl rfl ?_ | refine zX rfl rfl rfl rfl ?_ | refine zW rfl rfl rfl rfl ?_ | (refine qY rfl rfl rfl rfl ?_ ?_ <;> intro _) | exact zD | exact zL)
end Go.Proofs.YtkjebcnlmanhlaaGreatDoor

/- Degree sequences: the program's count in a map, gathered and sorted. Conditions: at most 2000 nodes and 4000 edges; the library's sort by its contract. -/
namespace Go.Proofs.YtkjebcnlmanhlaaGreatDoor
open Go Go.Abs Go.Val
attribute [local irreducible] go SGo HasBody Ev ExtEv EvO EvS

abbrev oGr (g : Gr) : AObj := .var 25 (.w (.d (encGr g)))
abbrev kdI : TypeDesc := .int .i64
def seB (t : ByteArray) (e : Ed) : Bool := t.toList == (⟨#[]⟩ : ByteArray).toList || e.ty.toList == t.toList
def nbI (dir : Int) (e : Ed) : Int := bif dir == 1 then e.src else e.dst
/-- How many edges of a type leave (reach) a node. -/
def cntM (t : ByteArray) (dir id : Int) : List Ed → Int
  | [] => 0
  | e :: r => (bif seB t e && nbI dir e == id then 1 else 0) + cntM t dir id r
theorem cntM_take {t : ByteArray} {dir id : Int} : ∀ {l : List Ed} {i : Nat} {e : Ed}, l[i]? = some e → cntM t dir id (l.take (i + 1)) = cntM t dir id (l.take i) + (bif seB t e && nbI dir e == id then 1 else 0)
  | a :: l, 0, e, h => by simp at h; subst h; simp [cntM]
  | a :: l, i + 1, e, h => by
    have := cntM_take (t := t) (dir := dir) (id := id) (l := l) (i := i) (by simpa using h)
    simp only [List.take_succ_cons, cntM, this]; omega
theorem cntM_rng (t : ByteArray) (dir id : Int) : ∀ (l : List Ed), 0 ≤ cntM t dir id l ∧ cntM t dir id l ≤ l.length
  | [] => by simp [cntM]
  | e :: r => by
    have := cntM_rng t dir id r
    simp only [cntM, List.length_cons]
    cases seB t e && nbI dir e == id <;> simp <;> omega
/-- The degrees in the order of the nodes. -/
def degL (g : Gr) (t : ByteArray) (dir : Int) (l : List Nd) : List Int := (l.map fun n => cntM t dir n.id g.edges).filter fun d => decide (d > 0)
structure SqM (g : Gr) (t : ByteArray) (dir : Int) where
  i : Nat
  xs : List (Value × D)
  hi : i ≤ g.edges.length
  hx : ∀ id, mGet (.int .i64 id) xs (.int 0) = .int (cntM t dir id (g.edges.take i))
structure SqN (g : Gr) where
  i : Nat
  hi : i ≤ g.nodes.length
theorem degL_next {g : Gr} {t : ByteArray} {dir : Int} {l : List Nd} {i : Nat} {n : Nd} (h : l[i]? = some n) : degL g t dir (l.take (i + 1)) = degL g t dir (l.take i) ++ (bif decide (cntM t dir n.id g.edges > 0) then [cntM t dir n.id g.edges] else []) := by
  unfold degL
  rw [List.take_add_one, h, List.map_append, List.filter_append]
  cases hc : decide (cntM t dir n.id g.edges > 0) <;> simp [hc]
theorem degL_len (g : Gr) (t : ByteArray) (dir : Int) (l : List Nd) : (degL g t dir l).length ≤ l.length := by
  unfold degL
  exact Nat.le_trans (List.length_filter_le _ _) (by simp)
theorem seq_ev (P : List Int → List Int) (hP : ∀ x r, (x :: r).length ≤ 2000 → EvS E 29 [.own 0, .d (.imm (.func (.func 30) #[] #[]))] [.row 3 1 (iL (x :: r))] (.tup []) [.row 3 1 (iL (P (x :: r)))])
    (hN : EvS E 29 [.d (.sl []), .d (.imm (.func (.func 30) #[] #[]))] [] (.tup []) []) (g : Gr) (t : ByteArray) (dir : Int) (hn : g.nodes.length ≤ 2000) (he : g.edges.length ≤ 4000) :
    Ev E 13 [encGr g, .str t, .int dir] (.d (.sl (iL (match degL g t dir g.nodes with | [] => [] | x :: r => P (x :: r))))) := by
  have hen : (g.edges.map encEd).length = g.edges.length := by simp
  have hnn : (g.nodes.map encNd).length = g.nodes.length := by simp
  refine enter3 Tryz.func13 Tryz.ntmps13 rfl rfl fun w0 F0 O => ?_
  repeat' (first | refine zS rfl ?_ | refine qA ?_ | refine qB rfl ?_ | refine qC (by kernel_rfl) ?_ | refine qD ?_ | refine qE ?_ | refine qF ?_ | refine qG ?_ | refine qH rfl ?_ | refine go_makeMap rfl rfl rfl rfl rfl rfl ?_ | refine zT rfl ?_ | refine zU rfl ?_ | refine qL rfl rfl ?_ | refine qM rfl rfl rfl ?_ | refine qO rfl rfl rfl ?_ | refine zX rfl rfl rfl rfl ?_ | refine zW rfl rfl rfl rfl ?_ | (refine qY rfl rfl rfl rfl ?_ ?_ <;> intro _) | exact zD | exact zL)
  refine go_loop_ (α := SqM g t dir) (fun p => ⟨[(1, .d (.str t)), (2, .d (.int dir)), (3, .ptr 0 0), (7, .mp 1), (16, .d (.sl (g.edges.map encEd))), (17, .d (.int (g.edges.map encEd).length)), (18, .d (.int p.i))], [oGr g, .map kdI p.xs]⟩) (fun p => g.edges.length - p.i) ⟨0, [], by omega, fun id => rfl⟩ ((zle 2)) ?_
  rintro ⟨i, xs, hi, hx⟩
  dsimp only at hx ⊢
  rcases Nat.lt_or_ge i g.edges.length with hlt | hge
  · have g1 : decide ((i : Int) < ((g.edges.map encEd).length : Int)) = true := by rw [hen]; simpa using hlt
    have hx0 := List.getElem?_eq_getElem hlt
    generalize g.edges[i] = e at hx0
    have hxx := map_at (f := encEd) hx0
    have hz := hx (nbI dir e)
    obtain ⟨r1, r2⟩ := cntM_rng t dir (nbI dir e) (g.edges.take i)
    have r3 : (g.edges.take i).length ≤ 4000 := by rw [List.length_take]; omega
    have htk : ∀ id, cntM t dir id (g.edges.take (i + 1)) = cntM t dir id (g.edges.take i) + (bif seB t e && nbI dir e == id then 1 else 0) := fun id => cntM_take hx0
    have stay : seB t e = false → ∀ id, mGet (.int .i64 id) xs (.int 0) = .int (cntM t dir id (g.edges.take (i + 1))) := fun h id => by rw [htk, h, hx]; simp
    have step : seB t e = true → ∀ id, mGet (.int .i64 id) (mPut (.int .i64 (nbI dir e)) (.int (cntM t dir (nbI dir e) (g.edges.take i) + 1)) xs) (.int 0) = .int (cntM t dir id (g.edges.take (i + 1))) := fun h id => by
      rw [mGet_put, htk, h, hx]
      cases hc : id == nbI dir e with
      | true =>
        obtain rfl := eq_of_beq hc
        simp
      | false =>
        rw [show (nbI dir e == id) = false by rw [← Bool.not_eq_true, beq_iff_eq]; rintro rfl; simp at hc]
        simp
    unfold nbI at hz step r1 r2
    unfold seB at stay step
    cases c1 : t.toList == (⟨#[]⟩ : ByteArray).toList <;> cases c2 : e.ty.toList == t.toList <;> cases c3 : dir == 1 <;> rw [c1, c2] at stay step <;> rw [c3] at hz step r1 r2 <;> simp only [cond_true, cond_false] at hz step r1 r2 <;> simp only [Bool.or_true, Bool.or_false, Bool.true_or, Bool.false_or] at stay step
    all_goals have n1 := congrArg not c1
    all_goals have n2 := congrArg not c2
    all_goals
      repeat' (first | refine zS rfl ?_ | refine qA ?_ | refine qB rfl ?_ | refine qC (by kernel_rfl) ?_ | refine qD ?_ | refine qE ?_ | refine qF ?_ | refine qG ?_ | refine qH rfl ?_ | refine qI (encEd e) rfl (guardX_ok rfl) rfl rfl rfl rfl rfl rfl (by first | omega | decide) hxx ?_ | refine go_lookupE hz ?_ | refine go_mapUpdate ?_ | refine zT rfl ?_ | refine zU rfl ?_ | refine qL rfl rfl ?_ | refine qM rfl rfl rfl ?_ | refine qO rfl rfl rfl ?_ | refine zX rfl rfl rfl rfl ?_ | refine zW rfl rfl rfl rfl ?_ | (refine qY rfl rfl rfl rfl ?_ ?_ <;> intro _) | exact zD | exact zL)
    all_goals (refine go_stop ?_)
    all_goals first
    | exact ⟨⟨i + 1, _, by omega, stay (by first | rfl | trivial)⟩, by dsimp only; omega, (zle 2)⟩
    | exact ⟨⟨i + 1, _, by omega, step (by first | rfl | trivial)⟩, by dsimp only; omega, (zle 2)⟩
  · have g1 : decide ((i : Int) < ((g.edges.map encEd).length : Int)) = false := by rw [hen]; simp; omega
    rw [List.take_of_length_le hge] at hx
    repeat' (first | refine zS rfl ?_ | refine qA ?_ | refine qB rfl ?_ | refine qC (by kernel_rfl) ?_ | refine qD ?_ | refine qE ?_ | refine qF ?_ | refine qG ?_ | refine qH rfl ?_ | refine zT rfl ?_ | refine zU rfl ?_ | refine qL rfl rfl ?_ | refine qM rfl rfl rfl ?_ | refine qO rfl rfl rfl ?_ | refine zX rfl rfl rfl rfl ?_ | refine zW rfl rfl rfl rfl ?_ | (refine qY rfl rfl rfl rfl ?_ ?_ <;> intro _) | exact zD | exact zL)
    refine go_loop_ (α := SqN g) (fun p => ⟨[(3, .ptr 0 0), (7, .mp 1), (10, rowK 2 (iL (degL g t dir (g.nodes.take p.i)))), (44, .d (.sl (g.nodes.map encNd))), (45, .d (.int (g.nodes.map encNd).length)), (46, .d (.int p.i))], [oGr g, .map kdI xs] ++ rowO 3 1 (iL (degL g t dir (g.nodes.take p.i)))⟩) (fun p => g.nodes.length - p.i) ⟨0, by omega⟩ ((zle 2)) ?_
    rintro ⟨j, hj⟩
    dsimp only
    have hol : (iL (degL g t dir (g.nodes.take j))).length ≤ 2000 := by
      have := degL_len g t dir (g.nodes.take j)
      rw [List.length_take] at this
      rw [iL_len]; omega
    rcases Nat.lt_or_ge j g.nodes.length with hlt | hge2
    · have g2 : decide ((j : Int) < ((g.nodes.map encNd).length : Int)) = true := by rw [hnn]; simpa using hlt
      have hx0 := List.getElem?_eq_getElem hlt
      generalize g.nodes[j] = n at hx0
      have hxx := map_at (f := encNd) hx0
      have hz := hx n.id
      have hnx : iL (degL g t dir (g.nodes.take (j + 1))) = iL (degL g t dir (g.nodes.take j)) ++ iL (bif decide (cntM t dir n.id g.edges > 0) then [cntM t dir n.id g.edges] else []) := by rw [degL_next hx0, iL_app]
      generalize iL (degL g t dir (g.nodes.take j)) = o at *
      cases c : decide (cntM t dir n.id g.edges > 0) with
      | false =>
        rw [c, cond_false, show iL [] = [] from rfl, List.append_nil] at hnx
        match o, hol with
        | [], hol =>
          dsimp only [rowK, rowO]
          repeat' (first | refine zS rfl ?_ | refine qA ?_ | refine qB rfl ?_ | refine qC (by kernel_rfl) ?_ | refine qD ?_ | refine qE ?_ | refine qF ?_ | refine qG ?_ | refine qH rfl ?_ | refine qI (encNd n) rfl (guardX_ok rfl) rfl rfl rfl rfl rfl rfl (by first | omega | decide) hxx ?_ | refine go_lookupE hz ?_ | refine zT rfl ?_ | refine zU rfl ?_ | refine qL rfl rfl ?_ | refine qM rfl rfl rfl ?_ | refine qO rfl rfl rfl ?_ | refine zX rfl rfl rfl rfl ?_ | refine zW rfl rfl rfl rfl ?_ | (refine qY rfl rfl rfl rfl ?_ ?_ <;> intro _) | exact zD | exact zL)
          refine go_stop ?_
          refine ⟨⟨j + 1, by omega⟩, by dsimp only; omega, ?_⟩
          dsimp only
          rw [hnx]
          exact (zle 2)
        | a :: q, hol =>
          dsimp only [rowK, rowO]
          repeat' (first | refine zS rfl ?_ | refine qA ?_ | refine qB rfl ?_ | refine qC (by kernel_rfl) ?_ | refine qD ?_ | refine qE ?_ | refine qF ?_ | refine qG ?_ | refine qH rfl ?_ | refine qI (encNd n) rfl (guardX_ok rfl) rfl rfl rfl rfl rfl rfl (by first | omega | decide) hxx ?_ | refine go_lookupE hz ?_ | refine zT rfl ?_ | refine zU rfl ?_ | refine qL rfl rfl ?_ | refine qM rfl rfl rfl ?_ | refine qO rfl rfl rfl ?_ | refine zX rfl rfl rfl rfl ?_ | refine zW rfl rfl rfl rfl ?_ | (refine qY rfl rfl rfl rfl ?_ ?_ <;> intro _) | exact zD | exact zL)
          refine go_stop ?_
          refine ⟨⟨j + 1, by omega⟩, by dsimp only; omega, ?_⟩
          dsimp only
          rw [hnx]
          exact (zle 3)
      | true =>
        rw [c, cond_true, show iL [cntM t dir n.id g.edges] = [D.int (cntM t dir n.id g.edges)] from rfl] at hnx
        match o, hol with
        | [], hol =>
          dsimp only [rowK, rowO]
          repeat' (first | refine zS rfl ?_ | refine qA ?_ | refine qB rfl ?_ | refine qC (by kernel_rfl) ?_ | refine qD ?_ | refine qE ?_ | refine qF ?_ | refine qG ?_ | refine qH rfl ?_ | refine qI (encNd n) rfl (guardX_ok rfl) rfl rfl rfl rfl rfl rfl (by first | omega | decide) hxx ?_ | refine go_lookupE hz ?_ | (refine qS rfl ⟨by simp, fun d hd => by (obtain rfl := List.mem_singleton.1 hd; rfl), by (show (0 + 1) * 8 ≤ 140737488355328; omega), by (show 0 + 1 ≤ 9223372036854775807; omega)⟩ ?_) | refine zT rfl ?_ | refine zU rfl ?_ | refine qL rfl rfl ?_ | refine qM rfl rfl rfl ?_ | refine qO rfl rfl rfl ?_ | refine zX rfl rfl rfl rfl ?_ | refine zW rfl rfl rfl rfl ?_ | (refine qY rfl rfl rfl rfl ?_ ?_ <;> intro _) | exact zD | exact zL)
          refine go_stop ?_
          refine ⟨⟨j + 1, by omega⟩, by dsimp only; omega, ?_⟩
          dsimp only
          rw [hnx]
          exact (zren [0, 1, 3])
        | a :: q, hol =>
          dsimp only [rowK, rowO]
          repeat' (first | refine zS rfl ?_ | refine qA ?_ | refine qB rfl ?_ | refine qC (by kernel_rfl) ?_ | refine qD ?_ | refine qE ?_ | refine qF ?_ | refine qG ?_ | refine qH rfl ?_ | refine qI (encNd n) rfl (guardX_ok rfl) rfl rfl rfl rfl rfl rfl (by first | omega | decide) hxx ?_ | refine go_lookupE hz ?_ | (refine qS rfl ⟨by simp, fun d hd => by (obtain rfl := List.mem_singleton.1 hd; rfl), by (show ((a :: q).length + 1) * 8 ≤ 140737488355328; omega), by (show (a :: q).length + 1 ≤ 9223372036854775807; omega)⟩ ?_) | refine zT rfl ?_ | refine zU rfl ?_ | refine qL rfl rfl ?_ | refine qM rfl rfl rfl ?_ | refine qO rfl rfl rfl ?_ | refine zX rfl rfl rfl rfl ?_ | refine zW rfl rfl rfl rfl ?_ | (refine qY rfl rfl rfl rfl ?_ ?_ <;> intro _) | exact zD | exact zL)
          refine go_stop ?_
          refine ⟨⟨j + 1, by omega⟩, by dsimp only; omega, ?_⟩
          dsimp only
          rw [hnx]
          exact (zren [0, 1, 4])
    · have g2 : decide ((j : Int) < ((g.nodes.map encNd).length : Int)) = false := by rw [hnn]; simp; omega
      rw [List.take_of_length_le hge2]
      have hol := degL_len g t dir g.nodes
      generalize degL g t dir g.nodes = o at *
      match o, hol with
      | [], hol =>
        dsimp only [rowK, rowO, iL, List.map, List.append]
        repeat' (first | refine zS rfl ?_ | refine qA ?_ | refine qB rfl ?_ | refine qC (by kernel_rfl) ?_ | refine qD ?_ | refine qE ?_ | refine qF ?_ | refine qG ?_ | refine qH rfl ?_ | refine go_callS [] rfl rfl rfl rfl (FnX.plain _) b29 (hN) rfl rfl rfl rfl rfl ?_ | refine zT rfl ?_ | refine zU rfl ?_ | refine qL rfl rfl ?_ | refine qM rfl rfl rfl ?_ | refine qO rfl rfl rfl ?_ | refine zX rfl rfl rfl rfl ?_ | refine zW rfl rfl rfl rfl ?_ | (refine qY rfl rfl rfl rfl ?_ ?_ <;> intro _) | exact zD | exact zL)
      | a :: q, hol =>
        have h := hP a q (by omega)
        dsimp only [rowK, rowO]
        show go _ _ ⟨[(3, .ptr 0 0), (7, .mp 1), (10, .own 2), (44, _), (45, _), (46, _)], [oGr g, .map kdI xs, .row 3 1 (iL (a :: q))]⟩ _
        repeat' (first | refine zS rfl ?_ | refine qA ?_ | refine qB rfl ?_ | refine qC (by kernel_rfl) ?_ | refine qD ?_ | refine qE ?_ | refine qF ?_ | refine qG ?_ | refine qH rfl ?_ | refine go_callS [2] rfl rfl rfl rfl (FnX.plain _) b29 (h) rfl rfl rfl rfl rfl ?_ | refine zT rfl ?_ | refine zU rfl ?_ | refine qL rfl rfl ?_ | refine qM rfl rfl rfl ?_ | refine qO rfl rfl rfl ?_ | refine zX rfl rfl rfl rfl ?_ | refine zW rfl rfl rfl rfl ?_ | (refine qY rfl rfl rfl rfl ?_ ?_ <;> intro _) | exact zD | exact zL)
        refine go_frz 2 rfl ?_
        repeat' (first | refine zS rfl ?_ | refine qA ?_ | refine qB rfl ?_ | refine qC (by kernel_rfl) ?_ | refine qD ?_ | refine qE ?_ | refine qF ?_ | refine qG ?_ | refine qH rfl ?_ | refine zT rfl ?_ | refine zU rfl ?_ | refine qL rfl rfl ?_ | refine qM rfl rfl rfl ?_ | refine qO rfl rfl rfl ?_ | refine zX rfl rfl rfl rfl ?_ | refine zW rfl rfl rfl rfl ?_ | (refine qY rfl rfl rfl rfl ?_ ?_ <;> intro _) | exact zD | exact zL)
end Go.Proofs.YtkjebcnlmanhlaaGreatDoor

/- The library's sorts in place, of texts and of integers, and its removal of repeats, as the engine's contracts. Conditions: at most a million elements. -/
namespace Go.Proofs.YtkjebcnlmanhlaaGreatDoor
open Go Go.Abs Go.Val Go.RowKit Go.Sort Go.Proofs

/-- A row of the caller's that a call turns in place. -/
theorem row_turned {w w' : World} {F : Nat → Prop} {σ : Sg} {te : TypeId} {us ys : List D} {b c n : Nat} (hi : WInv E ⟨fun _ => False, 0, []⟩ F σ [.row te 1 us] w) (e1 : σ[0]? = some (b, c, n)) (hgb : w.grownBy w' (some b)) (cs' : List Value) (hh : w'.heap[b]? = some (.cells cs'.toArray te (0, 0)))
    (hcl : cs'.length = c * 1) (hn : n = ys.length) (hnc : n ≤ c) (hc : c ≤ maxLen) (z1 : ∀ x ∈ ys, x.cells.length = 1) (z2 : ∀ x ∈ ys, ∀ c ∈ x.cells, c.one = true)
    (hrd : ∀ (i : Nat) (x : D) (j : Nat) (cd : D), ys[i]? = some x → x.cells[j]? = some cd → ∃ v, cs'[i * 1 + j]? = some v ∧ Rd w' F cd v) :
    ∃ v F' σ', Ending.returned (.tuple #[]) = Ending.returned v ∧ Kept (Held w [.row te 1 us] σ) w w' ∧ (∀ b, F b → F' b) ∧ (∀ b, F' b → F b ∨ ¬ Held w [.row te 1 us] σ b) ∧ (∀ (i : Nat) p, i < [AObj.row te 1 us].length → σ[i]? = some p → σ'[i]? = some p) ∧ WInv E ⟨Held w [.row te 1 us] σ, 0, []⟩ F' σ' [.row te 1 ys] w' ∧ RdX w' F' σ' (.tup []) v := by
  have hσ : σ.length = 1 := hi.len
  obtain ⟨cs, g1, g2, g3, g4, g5, g6, g7, g8, g9, g10⟩ := hi.obs 0 _ _ rfl e1
  have hlb : ¬ Held w [.row te 1 us] σ b := fun hh => hh.2 ⟨0, _, _, rfl, rfl, e1, rfl⟩
  have hob : ObOK w' F (σ ++ [(b, c, n)]) (Held w [.row te 1 us] σ) (.row te 1 ys) (b, c, n) := ⟨cs', hh, hcl, hn, hnc, hc, z1, z2, hrd, hlb, g10⟩
  have hw := (WInv.lend hi).regrow (ob0 := [.dead]) (row := some b) (fun o x hx hl => by
      cases o with
      | zero => simp at hx; subst hx; cases hl
      | succ o => simp at hx) rfl hgb (fun k hk => by cases hk; exact g10) _ b c _ (.inl rfl) hob
  have h2 := hw.ren2 [1] rfl rfl
  refine ⟨_, F, _, rfl, ⟨hgb.os, hgb.tape, hgb.output, hgb.size, fun k hk => hgb.block k hk.1 (fun e => hlb (by cases e; exact hk)), fun k hk => hk.1⟩, fun _ h => h, fun _ h => .inl h, fun i p hi hp => ?_, h2, ⟨[], rfl, rfl, fun i x u hx => by simp at hx⟩⟩
  match i, hi with
  | 0, _ =>
    rw [e1] at hp
    cases hp
    match σ, hσ with
    | [q], _ => rfl
theorem sortS_evS (zs : List (List UInt8)) (hin : ∀ z ∈ zs, z.length ≤ maxLen) (hsz : zs.length ≤ 1000000) : EvS E 26 [.own 0] [.row 9 1 (strL zs)] (.tup []) [.row 9 1 (strL (sortU zs))] := by
  intro w F σ vs hi hl hr
  match vs, hl with
  | [v0], _ =>
    obtain ⟨b, c, n, e1, rfl⟩ := hr 0 _ _ rfl rfl
    obtain ⟨cs, g1, g2, g3, g4, g5, g6, g7, g8, g9, g10⟩ := hi.obs 0 _ _ rfl e1
    have hn : n = zs.length := by rw [g3]; simp [strL]
    subst hn
    have ht : cs.take zs.length = zs.map encStr := by
      refine List.ext_getElem? fun j => ?_
      rcases Nat.lt_or_ge j zs.length with hj | hj
      · obtain ⟨v, q1, q2⟩ := g8 j (.str ⟨zs[j].toArray⟩) 0 (.str ⟨zs[j].toArray⟩) (by simp [strL, hj]) rfl
        rw [Nat.mul_one, Nat.add_zero] at q1
        rw [List.getElem?_take_of_lt hj, q1, (Rd.imm_inv q2).1]
        simp [hj, encStr]
      · rw [List.getElem?_eq_none (by rw [List.length_take]; omega), List.getElem?_eq_none (by simpa using hj)]
    have hH : Holds encStr w b 0 zs.toArray := holds_of_block g1 (by simpa using ht)
    have hgl : b < w.heap.size := (Array.getElem?_eq_some_iff.1 g1).1
    have hsl : (sortU zs).length = zs.length := by simp [sortU]
    refine (Tryz.slices_Sort_string b 0 c zs w hH hgl (by omega)).mono ?_
    rintro e w' ⟨rfl, q, os, rfl⟩
    rw [show (zs.mergeSort fun x y => decide (x ≤ y)) = sortU zs from rfl]
    have hhp := heap_sorted (n := q) (os := os) (sortU zs).toArray g1
    have hgb := grownBy_sorted (w := w) (g := b) (n := q) (os := os) (sortU zs).toArray
    have htk := take_putCells cs.toArray (sortU zs) (by simp only [List.size_toArray]; omega)
    have hin2 : ∀ z ∈ sortU zs, z.length ≤ maxLen := fun z hz => hin z ((List.mergeSort_perm _ _).mem_iff.1 hz)
    obtain ⟨zc1, zc2⟩ := strL_cells (sortU zs)
    refine row_turned hi e1 hgb (putCells encStr 0 (sortU zs).toArray cs.toArray).toList (by simpa using hhp) (by simp [putCells, g2]) (by simp [strL, sortU]) g4 g5 zc1 zc2 fun i x j cd hx hc => ?_
    obtain ⟨v, r1, r2⟩ := strL_rd (F := F) hin2 i x j cd hx hc
    refine ⟨v, ?_, r2⟩
    have hlt : i * 1 + j < (sortU zs).length := by simpa using (List.getElem?_eq_some_iff.1 r1).1
    have h1 := congrArg (fun l => l[i * 1 + j]?) htk
    rw [List.getElem?_take_of_lt (by omega)] at h1
    rw [h1, r1]
/-- The falling comparison. -/
def cfD (x y : Int) : Int := Lib.compareInt y x
theorem ltD (x y : Int) : ltOf cfD x y = decide (y < x) := by
  unfold ltOf cfD Lib.compareInt
  by_cases h1 : y < x
  · simp [h1]
  · by_cases h2 : x < y <;> simp [h1, h2]
theorem swoD : SWO (ltOf cfD) where
  irrefl x := by rw [ltD]; simp
  trans x y z h1 h2 := by rw [ltD] at *; simp at *; omega
  ntrans x y z h1 h2 := by rw [ltD] at *; simp at *; omega
set_option maxRecDepth 100000 in
theorem falling_calls (x y : Int) (W : World) : Calls Tryz.prog 30 #[.int .i64 x, .int .i64 y] W fun e w' => e = .returned (.int .i64 (cfD x y)) ∧ ∃ q, w' = W.drewN q := by
  have hcon := Tryz.cmp_Compare_int y x W
  unfold cfD
  generalize Lib.compareInt y x = r at hcon ⊢
  go_enter Tryz.func30, Tryz.ntmps30
  go_wp2_with (go_at_call 22; refine hcon.mono ?_; rintro e w' ⟨rfl, rfl⟩)
  go_ret
  exact ⟨rfl, 0, rfl⟩
def pdF (l : List Int) : List Int := (pdq (ltOf cfD) l.toArray 0 l.length (Lib.bitLen l.length) true true).toList
theorem pdF_ok (l : List Int) : (pdF l).Perm l ∧ (pdF l).length = l.length ∧ ∀ i j, i < j → j < l.length → (pdF l).getD j 0 ≤ (pdF l).getD i 0 := by
  have h := pdq_sorts (ltOf cfD) swoD l.toArray 0 l.length (Lib.bitLen l.length) true true (Nat.zero_le _) (by simp) (Or.inl rfl)
  obtain ⟨⟨h1, -, h3⟩, h4⟩ := h
  have hs : (pdF l).length = l.length := by unfold pdF; rw [Array.length_toList, h1]; simp
  refine ⟨?_, hs, fun i j hij hj => ?_⟩
  · have e : ∀ (a : Array Int), a.size = l.length → (a.extract 0 l.length).toList = a.toList := fun a ha => by simp [← ha]
    rw [e _ (by rw [h1]; simp), e _ (by simp)] at h3
    exact h3
  · have := h4 i j (Nat.zero_le _) hij hj
    rw [ltD, decide_eq_false_iff_not] at this
    unfold pdF
    have g : ∀ k, k < l.length → ((pdq (ltOf cfD) l.toArray 0 l.length (Lib.bitLen l.length) true true).toList).getD k 0 = (pdq (ltOf cfD) l.toArray 0 l.length (Lib.bitLen l.length) true true)[k]! := fun k hk => by
      rw [List.getD_eq_getElem?_getD, Array.getElem?_toList, getElem!_pos _ k (by rw [h1]; simpa using hk), Array.getElem?_eq_getElem (by rw [h1]; simpa using hk)]
      rfl
    rw [g i (by omega), g j hj]
    omega
theorem sortI_evS (l : List Int) (hsz : l.length ≤ 1000000) : EvS E 29 [.own 0, .d (.imm (.func (.func 30) #[] #[]))] [.row 3 1 (iL l)] (.tup []) [.row 3 1 (iL (pdF l))] := by
  intro w F σ vs hi hl hr
  match vs, hl with
  | [v0, v1], _ =>
    obtain ⟨b, c, n, e1, rfl⟩ := hr 0 _ _ rfl rfl
    obtain ⟨rfl, -⟩ := Rd.imm_inv (hr 1 _ v1 rfl rfl)
    obtain ⟨cs, g1, g2, g3, g4, g5, g6, g7, g8, g9, g10⟩ := hi.obs 0 _ _ rfl e1
    have hn : n = l.length := by rw [g3]; simp [iL]
    subst hn
    have hrg : ∀ j (h : j < l.length), cs[j]? = some (.int .i64 l[j]) ∧ Go.Abs.okV (.int .i64 l[j]) = true := fun j hj => by
      obtain ⟨v, q1, q2⟩ := g8 j (.int l[j]) 0 (.int l[j]) (by simp [iL, hj]) rfl
      rw [Nat.mul_one, Nat.add_zero] at q1
      rw [q1, (Rd.imm_inv q2).1]
      exact ⟨rfl, (Rd.imm_inv q2).2⟩
    have ht : cs.take l.length = l.map (Value.int .i64) := by
      refine List.ext_getElem? fun j => ?_
      rcases Nat.lt_or_ge j l.length with hj | hj
      · rw [List.getElem?_take_of_lt hj, (hrg j hj).1]
        simp [hj]
      · rw [List.getElem?_eq_none (by rw [List.length_take]; omega), List.getElem?_eq_none (by simpa using hj)]
    have hH : Holds (Value.int .i64) w b 0 l.toArray := holds_of_blockI g1 (by simpa using ht)
    have hgl : b < w.heap.size := (Array.getElem?_eq_some_iff.1 g1).1
    obtain ⟨p1, p2, -⟩ := pdF_ok l
    have eg : ∀ args w, (callFunc 30 args).run Tryz.prog w = .ok (.enter 30 args) w := enters_of Tryz.func30 (by kernel_rfl) rfl
    have hcmp : CmpReads Tryz.prog 30 #[] (Value.int .i64) cfD b 0 l.toArray.size w := fun _ _ _ _ x y => falling_calls x y _
    have hcon := Any.slices_SortFunc_eq Tryz.sortInt (Value.int .i64) (fun _ => rfl) cfD swoD 30 #[] b 0 c l.toArray w eg hcmp.lays hH hgl (by simp; omega)
    change Calls Tryz.prog 29 _ _ _ at hcon
    simp only [List.size_toArray] at hcon
    refine hcon.mono ?_
    rintro e w' ⟨rfl, q, os, rfl⟩
    have hpd : pdq (ltOf cfD) l.toArray 0 l.length (Lib.bitLen l.length) true true = (pdF l).toArray := by unfold pdF; simp
    rw [hpd]
    unfold sortWorld
    have hhp := heap_sortedI (n := q) (os := os) (pdF l).toArray g1
    have hgb := grownBy_sortedI (w := w) (g := b) (n := q) (os := os) (pdF l).toArray
    have htk := take_putCellsI cs.toArray (pdF l) (by simp only [List.size_toArray]; omega)
    refine row_turned hi e1 hgb (putCells (Value.int .i64) 0 (pdF l).toArray cs.toArray).toList (by simpa using hhp) (by simp [putCells, g2]) (by rw [iL_len, p2]) g4 g5 (iL_cells _) (fun x hx c hc => ?_) fun i x j cd hx hc => ?_
    · obtain ⟨u, -, rfl⟩ := List.mem_map.1 hx
      rw [show (D.int u).cells = [D.int u] from rfl, List.mem_singleton] at hc
      subst hc
      rfl
    · rw [iL, List.getElem?_map, Option.map_eq_some_iff] at hx
      obtain ⟨u, hu, rfl⟩ := hx
      rw [show (D.int u).cells = [D.int u] from rfl] at hc
      cases j with
      | zero =>
        simp at hc
        subst hc
        have hm : u ∈ l := p1.mem_iff.1 (List.mem_of_getElem? hu)
        obtain ⟨k, hk, hk2⟩ := List.getElem_of_mem hm
        have h9 := (hrg k hk).2
        rw [hk2] at h9
        refine ⟨.int .i64 u, ?_, Rd.imm _ h9⟩
        have hlt : i < (pdF l).length := (List.getElem?_eq_some_iff.1 hu).1
        have h1 := congrArg (fun l => l[i]?) htk
        rw [List.getElem?_take_of_lt hlt, List.getElem?_map, hu] at h1
        rw [Nat.mul_one, Nat.add_zero]
        exact h1
      | succ j => simp at hc
end Go.Proofs.YtkjebcnlmanhlaaGreatDoor

/- The library's sorts at nil; all labels and all types of a graph. Conditions: a checked graph's size. -/
namespace Go.Proofs.YtkjebcnlmanhlaaGreatDoor
open Go Go.Abs Go.Val Go.RowKit Go.Sort Go.Proofs

theorem sortS0_evS : EvS E 26 [.d (.sl [])] [] (.tup []) [] := by
  intro w F σ vs hi hl hr
  match vs, hl with
  | [v0], _ =>
    have hrd : Rd w F (.sl []) v0 := hr 0 _ _ rfl rfl
    obtain ⟨p, c, rfl⟩ : ∃ p c, v0 = .slice p 0 c := by
      rcases Rd.sl_inv hrd with ⟨-, e⟩ | ⟨_, ad, cap, e, -⟩
      · exact ⟨_, _, e⟩
      · exact ⟨_, _, e⟩
    refine (Tryz.slices_Sort_string_none p c w).mono ?_
    rintro e w' ⟨rfl, rfl⟩
    exact ⟨_, F, σ, rfl, ⟨rfl, rfl, rfl, Nat.le_refl _, fun k _ => rfl, fun k hk => hk.1⟩, fun _ h => h, fun _ h => .inl h, fun i p hi _ => by simp at hi, WInv.lend hi, ⟨[], rfl, rfl, fun i x u hx => by simp at hx⟩⟩
theorem compact0_evS : EvS E 27 [.d (.sl [])] [] (.d (.sl [])) [] := by
  intro w F σ vs hi hl hr
  match vs, hl with
  | [v0], _ =>
    have hrd : Rd w F (.sl []) v0 := hr 0 _ _ rfl rfl
    obtain ⟨p, c, rfl⟩ : ∃ p c, v0 = .slice p 0 c := by
      rcases Rd.sl_inv hrd with ⟨-, e⟩ | ⟨_, ad, cap, e, -⟩
      · exact ⟨_, _, e⟩
      · exact ⟨_, _, e⟩
    refine (Tryz.slices_Compact_string_empty p c w).mono ?_
    rintro e w' ⟨rfl, rfl⟩
    exact ⟨_, F, σ, rfl, ⟨rfl, rfl, rfl, Nat.le_refl _, fun k _ => rfl, fun k hk => hk.1⟩, fun _ h => h, fun _ h => .inl h, fun i p hi _ => by simp at hi, WInv.lend hi, hrd⟩
theorem srt0 : strL (Lib.compact (sortU (bytL []))) = [] := by
  have : (Lib.compact (sortU (bytL []))).length = 0 := by
    have := compact_len (sortU (bytL []))
    have h : (sortU (bytL [])).length = 0 := by simp [sortU, bytL]
    omega
  rw [List.eq_nil_of_length_eq_zero this]; rfl
attribute [local irreducible] go SGo HasBody Ev ExtEv EvO EvS
theorem blen0_ev : Ev E 55 [.imm (.int .u64 0)] (.d (.int 0)) := by
  refine of_lib1 (by decide) fun w F _ _ => ?_
  refine (Tryz.bits_Len 0 w (by omega) (by omega)).mono ?_
  rintro e w' ⟨rfl, rfl⟩
  exact ⟨rfl, Below.refl _ _⟩
theorem ins0_evS (fv : Value) : EvS E 80 [.d (.sl []), .d (.int 0), .d (.int 0), .d (.imm fv)] [] (.tup []) [] := by
  refine EvS.enter Tryz.func80 Tryz.ntmps80 rfl rfl fun w0 F0 O σ0 => ?_
  dsimp only [List.range, List.range.loop, List.zip, List.zipWith, List.length]
  repeat' (first | refine zS rfl ?_ | refine qA ?_ | refine qB rfl ?_ | refine qC (by kernel_rfl) ?_ | refine qD ?_ | refine qE ?_ | refine qF ?_ | refine qG ?_ | refine qH rfl ?_ | refine zT rfl ?_ | refine zU rfl ?_ | refine qL rfl rfl ?_ | refine qM rfl rfl rfl ?_ | refine qO rfl rfl rfl ?_ | refine zX rfl rfl rfl rfl ?_ | refine zW rfl rfl rfl rfl ?_ | (refine qY rfl rfl rfl rfl ?_ ?_ <;> intro _) | exact zD | exact zL)
  refine go_loop_ (α := Unit) (fun p => ⟨[(2, .d (.int 0)), (8, .d (.int 1))], []⟩) (fun p => 0) () ((zle 0)) ?_
  rintro -
  repeat' (first | refine zS rfl ?_ | refine qA ?_ | refine qB rfl ?_ | refine qC (by kernel_rfl) ?_ | refine qD ?_ | refine qE ?_ | refine qF ?_ | refine qG ?_ | refine qH rfl ?_ | refine retS0 [] rfl rfl rfl rfl | refine endS0 [] rfl rfl rfl rfl | refine zT rfl ?_ | refine zU rfl ?_ | refine qL rfl rfl ?_ | refine qM rfl rfl rfl ?_ | refine qO rfl rfl rfl ?_ | refine zX rfl rfl rfl rfl ?_ | refine zW rfl rfl rfl rfl ?_ | (refine qY rfl rfl rfl rfl ?_ ?_ <;> intro _) | exact zD | exact zL)
theorem pdq0_evS (fv : Value) (n : Int) : EvS E 57 [.d (.sl []), .d (.int 0), .d (.int 0), .d (.int n), .d (.imm fv)] [] (.tup []) [] := by
  have h := ins0_evS fv
  refine EvS.enter Tryz.func57 Tryz.ntmps57 rfl rfl fun w0 F0 O σ0 => ?_
  dsimp only [List.range, List.range.loop, List.zip, List.zipWith, List.length]
  repeat' (first | refine zS rfl ?_ | refine qA ?_ | refine qB rfl ?_ | refine qC (by kernel_rfl) ?_ | refine qD ?_ | refine qE ?_ | refine qF ?_ | refine qG ?_ | refine qH rfl ?_ | refine zT rfl ?_ | refine zU rfl ?_ | refine qL rfl rfl ?_ | refine qM rfl rfl rfl ?_ | refine qO rfl rfl rfl ?_ | refine zX rfl rfl rfl rfl ?_ | refine zW rfl rfl rfl rfl ?_ | (refine qY rfl rfl rfl rfl ?_ ?_ <;> intro _) | exact zD | exact zL)
  refine go_loop_ (α := Unit) (fun p => ⟨[(0, .d (.sl [])), (1, .d (.int 0)), (2, .d (.int 0)), (4, .d (.imm fv))], []⟩) (fun p => 0) () ((zle 0)) ?_
  rintro -
  repeat' (first | refine zS rfl ?_ | refine qA ?_ | refine qB rfl ?_ | refine qC (by kernel_rfl) ?_ | refine qD ?_ | refine qE ?_ | refine qF ?_ | refine qG ?_ | refine qH rfl ?_ | refine go_callS [] rfl rfl rfl rfl (FnX.plain _) b80 (h) rfl rfl rfl rfl rfl ?_ | refine retS0 [] rfl rfl rfl rfl | refine endS0 [] rfl rfl rfl rfl | refine zT rfl ?_ | refine zU rfl ?_ | refine qL rfl rfl ?_ | refine qM rfl rfl rfl ?_ | refine qO rfl rfl rfl ?_ | refine zX rfl rfl rfl rfl ?_ | refine zW rfl rfl rfl rfl ?_ | (refine qY rfl rfl rfl rfl ?_ ?_ <;> intro _) | exact zD | exact zL)
theorem sortI0_evS (fv : Value) : EvS E 29 [.d (.sl []), .d (.imm fv)] [] (.tup []) [] := by
  have h := pdq0_evS fv 0
  have hz : (([] : List D).length : Int) = 0 := rfl
  refine EvS.enter Tryz.func29 Tryz.ntmps29 rfl rfl fun w0 F0 O σ0 => ?_
  dsimp only [List.range, List.range.loop, List.zip, List.zipWith, List.length]
  repeat' (first | refine zS rfl ?_ | refine qA ?_ | refine qB rfl ?_ | refine qC (by kernel_rfl) ?_ | refine qD ?_ | refine qE ?_ | refine qF ?_ | refine qG ?_ | refine qH rfl ?_ | refine qP rfl rfl rfl rfl rfl rfl b55 (blen0_ev) ?_ | refine go_callS [] rfl rfl rfl rfl (FnX.plain _) b57 (h) rfl rfl rfl rfl rfl ?_ | refine retS0 [] rfl rfl rfl rfl | refine endS0 [] rfl rfl rfl rfl | refine zT rfl ?_ | refine zU rfl ?_ | refine qL rfl rfl ?_ | refine qM rfl rfl rfl ?_ | refine qO rfl rfl rfl ?_ | refine zX rfl rfl rfl rfl ?_ | refine zW rfl rfl rfl rfl ?_ | (refine qY rfl rfl rfl rfl ?_ ?_ <;> intro _) | exact zD | exact zL)
def labL (l : List Nd) : List ByteArray := l.flatMap Nd.labels
def tyL (l : List Ed) : List ByteArray := l.map Ed.ty
/-- Sorted, without repeats. -/
def srtC (l : List ByteArray) : List ByteArray := (Lib.compact (sortU (bytL l))).map fun b => ⟨b.toArray⟩
theorem srtC_D (l : List ByteArray) : strL (Lib.compact (sortU (bytL l))) = (srtC l).map D.str := by
  simp [strL, srtC]
theorem bytL_in {l : List ByteArray} (h : ∀ s ∈ l, s.size ≤ maxLen) : ∀ z ∈ bytL l, z.length ≤ maxLen := by
  intro z hz
  obtain ⟨s, hs, rfl⟩ := List.mem_map.1 hz
  rw [Array.length_toList]
  exact h s hs
theorem sortU_len (l : List (List UInt8)) : (sortU l).length = l.length := by simp [sortU]
theorem sortU_mem {l : List (List UInt8)} {z : List UInt8} : z ∈ sortU l ↔ z ∈ l := (List.mergeSort_perm _ _).mem_iff
theorem labL_next {l : List Nd} {i : Nat} {n : Nd} (h : l[i]? = some n) : (labL (l.take (i + 1))).map D.str = (labL (l.take i)).map D.str ++ n.labels.map D.str := by
  unfold labL
  rw [List.take_add_one, h]
  simp
theorem labL_len : ∀ (l : List Nd), (∀ n ∈ l, n.labels.length ≤ 8) → (labL l).length ≤ 8 * l.length
  | [], _ => by simp [labL]
  | n :: r, h => by
    have h1 := h n (by simp)
    have h2 := labL_len r fun m hm => h m (by simp [hm])
    unfold labL at *
    simp only [List.flatMap_cons, List.length_append, List.length_cons]
    omega
theorem tyL_next {l : List Ed} {i : Nat} {e : Ed} (h : l[i]? = some e) : (tyL (l.take (i + 1))).map D.str = (tyL (l.take i)).map D.str ++ [.str e.ty] := by
  unfold tyL
  rw [List.take_add_one, h]
  simp
structure SLb (g : Gr) where
  i : Nat
  hi : i ≤ g.nodes.length
structure STy (g : Gr) where
  i : Nat
  hi : i ≤ g.edges.length
theorem str_cells (l : List ByteArray) : ∀ d ∈ l.map D.str, d.cells.length = 1 := fun d hd => by
  obtain ⟨u, -, rfl⟩ := List.mem_map.1 hd
  rfl
theorem str_size {l : List ByteArray} (h : Fit (.sl (l.map .str))) : ∀ s ∈ l, s.size ≤ maxLen := fun s hs => ((fit_map h).2 s hs).str
theorem labels_ev (g : Gr) (hn : g.nodes.length ≤ 2000) (h8 : ∀ n ∈ g.nodes, n.labels.length ≤ 8) : Ev E 10 [encGr g] (.d (.sl ((srtC (labL g.nodes)).map .str))) := Ev.fit fun hfit => by
  have hgn := (fit_map (fit_gr (hfit (encGr g) (by simp))).1).2
  have hsz : ∀ s ∈ labL g.nodes, s.size ≤ maxLen := fun s hs => by
    obtain ⟨n, h1, h2⟩ := List.mem_flatMap.1 hs
    exact str_size ((hgn n h1).aggs (.sl (n.labels.map .str)) (by simp)) s h2
  have hnn : (g.nodes.map encNd).length = g.nodes.length := by simp
  refine enter1 Tryz.func10 Tryz.ntmps10 rfl rfl fun w0 F0 O => ?_
  repeat' (first | refine zS rfl ?_ | refine qA ?_ | refine qB rfl ?_ | refine qC (by kernel_rfl) ?_ | refine qD ?_ | refine qE ?_ | refine qF ?_ | refine qG ?_ | refine qH rfl ?_ | refine zT rfl ?_ | refine zU rfl ?_ | refine qL rfl rfl ?_ | refine qM rfl rfl rfl ?_ | refine qO rfl rfl rfl ?_ | refine zX rfl rfl rfl rfl ?_ | refine zW rfl rfl rfl rfl ?_ | (refine qY rfl rfl rfl rfl ?_ ?_ <;> intro _) | exact zD | exact zL)
  refine go_loop_ (α := SLb g) (fun p => ⟨[(3, rowK 1 ((labL (g.nodes.take p.i)).map .str)), (7, .d (.sl (g.nodes.map encNd))), (8, .d (.int (g.nodes.map encNd).length)), (9, .d (.int p.i))], [oGr g] ++ rowO 9 1 ((labL (g.nodes.take p.i)).map .str)⟩) (fun p => g.nodes.length - p.i) ⟨0, by omega⟩ ((zle 1)) ?_
  rintro ⟨i, hi⟩
  dsimp only
  rcases Nat.lt_or_ge i g.nodes.length with hlt | hge
  · have g1 : decide ((i : Int) < ((g.nodes.map encNd).length : Int)) = true := by rw [hnn]; simpa using hlt
    have hol : ((labL (g.nodes.take i)).map D.str).length ≤ 16000 := by
      have := labL_len (g.nodes.take i) fun n h => h8 n (List.mem_of_mem_take h)
      rw [List.length_take] at this
      rw [List.length_map]; omega
    have hx0 := List.getElem?_eq_getElem hlt
    generalize g.nodes[i] = n at hx0
    have hx := map_at (f := encNd) hx0
    have hnl := h8 n (List.mem_of_getElem? hx0)
    have hnx := labL_next hx0
    generalize (labL (g.nodes.take i)).map D.str = o at *
    obtain ⟨nid, nls, nps⟩ := n
    dsimp only at hnl hnx
    match o, hol, nls, hnl with
    | [], hol, [], hnl =>
      dsimp only [rowK, rowO]
      repeat' (first | refine zS rfl ?_ | refine qA ?_ | refine qB rfl ?_ | refine qC (by kernel_rfl) ?_ | refine qD ?_ | refine qE ?_ | refine qF ?_ | refine qG ?_ | refine qH rfl ?_ | refine qI (encNd ⟨nid, [], nps⟩) rfl (guardX_ok rfl) rfl rfl rfl rfl rfl rfl (by first | omega | decide) hx ?_ | refine go_append0n ?_ | refine zT rfl ?_ | refine zU rfl ?_ | refine qL rfl rfl ?_ | refine qM rfl rfl rfl ?_ | refine qO rfl rfl rfl ?_ | refine zX rfl rfl rfl rfl ?_ | refine zW rfl rfl rfl rfl ?_ | (refine qY rfl rfl rfl rfl ?_ ?_ <;> intro _) | exact zD | exact zL)
      refine go_stop ?_
      refine ⟨⟨i + 1, by omega⟩, by dsimp only; omega, ?_⟩
      dsimp only
      rw [hnx]
      exact (zle 1)
    | [], hol, y :: ys, hnl =>
      have hl2 : (List.map D.str (y :: ys)).length = (y :: ys).length := by simp
      dsimp only [rowK, rowO]
      repeat' (first | refine zS rfl ?_ | refine qA ?_ | refine qB rfl ?_ | refine qC (by kernel_rfl) ?_ | refine qD ?_ | refine qE ?_ | refine qF ?_ | refine qG ?_ | refine qH rfl ?_ | refine qI (encNd ⟨nid, y :: ys, nps⟩) rfl (guardX_ok rfl) rfl rfl rfl rfl rfl rfl (by first | omega | decide) hx ?_ | (refine qS rfl ⟨by simp, str_cells (y :: ys), by (show (0 + (List.map D.str (y :: ys)).length) * 16 ≤ 140737488355328; omega), by (show 0 + (List.map D.str (y :: ys)).length ≤ 9223372036854775807; omega)⟩ ?_) | refine zT rfl ?_ | refine zU rfl ?_ | refine qL rfl rfl ?_ | refine qM rfl rfl rfl ?_ | refine qO rfl rfl rfl ?_ | refine zX rfl rfl rfl rfl ?_ | refine zW rfl rfl rfl rfl ?_ | (refine qY rfl rfl rfl rfl ?_ ?_ <;> intro _) | exact zD | exact zL)
      refine go_stop ?_
      refine ⟨⟨i + 1, by omega⟩, by dsimp only; omega, ?_⟩
      dsimp only
      rw [hnx]
      exact (zren [0, 2])
    | a :: q, hol, [], hnl =>
      dsimp only [rowK, rowO]
      repeat' (first | refine zS rfl ?_ | refine qA ?_ | refine qB rfl ?_ | refine qC (by kernel_rfl) ?_ | refine qD ?_ | refine qE ?_ | refine qF ?_ | refine qG ?_ | refine qH rfl ?_ | refine qI (encNd ⟨nid, [], nps⟩) rfl (guardX_ok rfl) rfl rfl rfl rfl rfl rfl (by first | omega | decide) hx ?_ | refine go_append0o rfl rfl rfl rfl rfl rfl rfl rfl rfl ?_ | refine zT rfl ?_ | refine zU rfl ?_ | refine qL rfl rfl ?_ | refine qM rfl rfl rfl ?_ | refine qO rfl rfl rfl ?_ | refine zX rfl rfl rfl rfl ?_ | refine zW rfl rfl rfl rfl ?_ | (refine qY rfl rfl rfl rfl ?_ ?_ <;> intro _) | exact zD | exact zL)
      refine go_stop ?_
      refine ⟨⟨i + 1, by omega⟩, by dsimp only; omega, ?_⟩
      dsimp only
      rw [hnx, List.map_nil, List.append_nil]
      exact (zle 2)
    | a :: q, hol, y :: ys, hnl =>
      have hl2 : (List.map D.str (y :: ys)).length = (y :: ys).length := by simp
      dsimp only [rowK, rowO]
      repeat' (first | refine zS rfl ?_ | refine qA ?_ | refine qB rfl ?_ | refine qC (by kernel_rfl) ?_ | refine qD ?_ | refine qE ?_ | refine qF ?_ | refine qG ?_ | refine qH rfl ?_ | refine qI (encNd ⟨nid, y :: ys, nps⟩) rfl (guardX_ok rfl) rfl rfl rfl rfl rfl rfl (by first | omega | decide) hx ?_ | (refine qS rfl ⟨by simp, str_cells (y :: ys), by (show ((a :: q).length + (List.map D.str (y :: ys)).length) * 16 ≤ 140737488355328; omega), by (show (a :: q).length + (List.map D.str (y :: ys)).length ≤ 9223372036854775807; omega)⟩ ?_) | refine zT rfl ?_ | refine zU rfl ?_ | refine qL rfl rfl ?_ | refine qM rfl rfl rfl ?_ | refine qO rfl rfl rfl ?_ | refine zX rfl rfl rfl rfl ?_ | refine zW rfl rfl rfl rfl ?_ | (refine qY rfl rfl rfl rfl ?_ ?_ <;> intro _) | exact zD | exact zL)
      refine go_stop ?_
      refine ⟨⟨i + 1, by omega⟩, by dsimp only; omega, ?_⟩
      dsimp only
      rw [hnx]
      exact (zren [0, 3])
  · have g1 : decide ((i : Int) < ((g.nodes.map encNd).length : Int)) = false := by rw [hnn]; simp; omega
    have hol := labL_len g.nodes h8
    rw [List.take_of_length_le hge, ← srtC_D]
    generalize labL g.nodes = o at *
    match o, hol with
    | [], hol =>
      rw [srt0]
      dsimp only [rowK, rowO, List.map]
      repeat' (first | refine zS rfl ?_ | refine qA ?_ | refine qB rfl ?_ | refine qC (by kernel_rfl) ?_ | refine qD ?_ | refine qE ?_ | refine qF ?_ | refine qG ?_ | refine qH rfl ?_ | refine go_callS [] rfl rfl rfl rfl (FnX.plain _) b26 (sortS0_evS) rfl rfl rfl rfl rfl ?_ | refine go_callS [] rfl rfl rfl rfl (FnX.plain _) b27 (compact0_evS) rfl rfl rfl rfl rfl ?_ | refine zT rfl ?_ | refine zU rfl ?_ | refine qL rfl rfl ?_ | refine qM rfl rfl rfl ?_ | refine qO rfl rfl rfl ?_ | refine zX rfl rfl rfl rfl ?_ | refine zW rfl rfl rfl rfl ?_ | (refine qY rfl rfl rfl rfl ?_ ?_ <;> intro _) | exact zD | exact zL)
    | a :: q, hol =>
      have h1 := sortS_evS (bytL (a :: q)) (bytL_in hsz) (by simp only [bytL, List.length_map]; omega)
      have h2 := compact_evS (sortU (bytL (a :: q))) fun z hz => bytL_in hsz z (sortU_mem.1 hz)
      rw [strL_bytL] at h1
      dsimp only [rowK, rowO, List.map]
      repeat' (first | refine zS rfl ?_ | refine qA ?_ | refine qB rfl ?_ | refine qC (by kernel_rfl) ?_ | refine qD ?_ | refine qE ?_ | refine qF ?_ | refine qG ?_ | refine qH rfl ?_ | refine go_callS [1] rfl rfl rfl rfl (FnX.plain _) b26 (h1) rfl rfl rfl rfl rfl ?_ | refine go_callS [1] rfl rfl rfl rfl (FnX.plain _) b27 (h2) rfl rfl rfl rfl rfl ?_ | refine zT rfl ?_ | refine zU rfl ?_ | refine qL rfl rfl ?_ | refine qM rfl rfl rfl ?_ | refine qO rfl rfl rfl ?_ | refine zX rfl rfl rfl rfl ?_ | refine zW rfl rfl rfl rfl ?_ | (refine qY rfl rfl rfl rfl ?_ ?_ <;> intro _) | exact zD | exact zL)
      refine go_frz 2 rfl ?_
      repeat' (first | refine zS rfl ?_ | refine qA ?_ | refine qB rfl ?_ | refine qC (by kernel_rfl) ?_ | refine qD ?_ | refine qE ?_ | refine qF ?_ | refine qG ?_ | refine qH rfl ?_ | refine zT rfl ?_ | refine zU rfl ?_ | refine qL rfl rfl ?_ | refine qM rfl rfl rfl ?_ | refine qO rfl rfl rfl ?_ | refine zX rfl rfl rfl rfl ?_ | refine zW rfl rfl rfl rfl ?_ | (refine qY rfl rfl rfl rfl ?_ ?_ <;> intro _) | exact zD | exact zL)
theorem types_ev (g : Gr) (hn : g.edges.length ≤ 4000) : Ev E 12 [encGr g] (.d (.sl ((srtC (tyL g.edges)).map .str))) := Ev.fit fun hfit => by
  have hgn := (fit_map (fit_gr (hfit (encGr g) (by simp))).2).2
  have hsz : ∀ s ∈ tyL g.edges, s.size ≤ maxLen := fun s hs => by
    obtain ⟨e, h1, rfl⟩ := List.mem_map.1 hs
    exact ((hgn e h1).aggs (.str e.ty) (by simp)).str
  have hnn : (g.edges.map encEd).length = g.edges.length := by simp
  refine enter1 Tryz.func12 Tryz.ntmps12 rfl rfl fun w0 F0 O => ?_
  repeat' (first | refine zS rfl ?_ | refine qA ?_ | refine qB rfl ?_ | refine qC (by kernel_rfl) ?_ | refine qD ?_ | refine qE ?_ | refine qF ?_ | refine qG ?_ | refine qH rfl ?_ | refine zT rfl ?_ | refine zU rfl ?_ | refine qL rfl rfl ?_ | refine qM rfl rfl rfl ?_ | refine qO rfl rfl rfl ?_ | refine zX rfl rfl rfl rfl ?_ | refine zW rfl rfl rfl rfl ?_ | (refine qY rfl rfl rfl rfl ?_ ?_ <;> intro _) | exact zD | exact zL)
  refine go_loop_ (α := STy g) (fun p => ⟨[(3, rowK 1 ((tyL (g.edges.take p.i)).map .str)), (7, .d (.sl (g.edges.map encEd))), (8, .d (.int (g.edges.map encEd).length)), (9, .d (.int p.i))], [oGr g] ++ rowO 9 1 ((tyL (g.edges.take p.i)).map .str)⟩) (fun p => g.edges.length - p.i) ⟨0, by omega⟩ ((zle 1)) ?_
  rintro ⟨i, hi⟩
  dsimp only
  rcases Nat.lt_or_ge i g.edges.length with hlt | hge
  · have g1 : decide ((i : Int) < ((g.edges.map encEd).length : Int)) = true := by rw [hnn]; simpa using hlt
    have hol : ((tyL (g.edges.take i)).map D.str).length ≤ 4000 := by
      rw [List.length_map, tyL, List.length_map, List.length_take]; omega
    have hx0 := List.getElem?_eq_getElem hlt
    generalize g.edges[i] = n at hx0
    have hx := map_at (f := encEd) hx0
    have hnx := tyL_next hx0
    generalize (tyL (g.edges.take i)).map D.str = o at *
    match o, hol with
    | [], hol =>
      dsimp only [rowK, rowO]
      repeat' (first | refine zS rfl ?_ | refine qA ?_ | refine qB rfl ?_ | refine qC (by kernel_rfl) ?_ | refine qD ?_ | refine qE ?_ | refine qF ?_ | refine qG ?_ | refine qH rfl ?_ | refine qI (encEd n) rfl (guardX_ok rfl) rfl rfl rfl rfl rfl rfl (by first | omega | decide) hx ?_ | (refine qS rfl ⟨by simp, fun d hd => by (obtain rfl := List.mem_singleton.1 hd; rfl), by (show (0 + 1) * 16 ≤ 140737488355328; omega), by (show 0 + 1 ≤ 9223372036854775807; omega)⟩ ?_) | refine zT rfl ?_ | refine zU rfl ?_ | refine qL rfl rfl ?_ | refine qM rfl rfl rfl ?_ | refine qO rfl rfl rfl ?_ | refine zX rfl rfl rfl rfl ?_ | refine zW rfl rfl rfl rfl ?_ | (refine qY rfl rfl rfl rfl ?_ ?_ <;> intro _) | exact zD | exact zL)
      refine go_stop ?_
      refine ⟨⟨i + 1, by omega⟩, by dsimp only; omega, ?_⟩
      dsimp only
      rw [hnx]
      exact (zren [0, 2])
    | a :: q, hol =>
      dsimp only [rowK, rowO]
      repeat' (first | refine zS rfl ?_ | refine qA ?_ | refine qB rfl ?_ | refine qC (by kernel_rfl) ?_ | refine qD ?_ | refine qE ?_ | refine qF ?_ | refine qG ?_ | refine qH rfl ?_ | refine qI (encEd n) rfl (guardX_ok rfl) rfl rfl rfl rfl rfl rfl (by first | omega | decide) hx ?_ | (refine qS rfl ⟨by simp, fun d hd => by (obtain rfl := List.mem_singleton.1 hd; rfl), by (show ((a :: q).length + 1) * 16 ≤ 140737488355328; omega), by (show (a :: q).length + 1 ≤ 9223372036854775807; omega)⟩ ?_) | refine zT rfl ?_ | refine zU rfl ?_ | refine qL rfl rfl ?_ | refine qM rfl rfl rfl ?_ | refine qO rfl rfl rfl ?_ | refine zX rfl rfl rfl rfl ?_ | refine zW rfl rfl rfl rfl ?_ | (refine qY rfl rfl rfl rfl ?_ ?_ <;> intro _) | exact zD | exact zL)
      refine go_stop ?_
      refine ⟨⟨i + 1, by omega⟩, by dsimp only; omega, ?_⟩
      dsimp only
      rw [hnx]
      exact (zren [0, 3])
  · have g1 : decide ((i : Int) < ((g.edges.map encEd).length : Int)) = false := by rw [hnn]; simp; omega
    have hol : (tyL g.edges).length ≤ 4000 := by rw [tyL, List.length_map]; omega
    rw [List.take_of_length_le hge, ← srtC_D]
    generalize tyL g.edges = o at *
    match o, hol with
    | [], hol =>
      rw [srt0]
      dsimp only [rowK, rowO, List.map]
      repeat' (first | refine zS rfl ?_ | refine qA ?_ | refine qB rfl ?_ | refine qC (by kernel_rfl) ?_ | refine qD ?_ | refine qE ?_ | refine qF ?_ | refine qG ?_ | refine qH rfl ?_ | refine go_callS [] rfl rfl rfl rfl (FnX.plain _) b26 (sortS0_evS) rfl rfl rfl rfl rfl ?_ | refine go_callS [] rfl rfl rfl rfl (FnX.plain _) b27 (compact0_evS) rfl rfl rfl rfl rfl ?_ | refine zT rfl ?_ | refine zU rfl ?_ | refine qL rfl rfl ?_ | refine qM rfl rfl rfl ?_ | refine qO rfl rfl rfl ?_ | refine zX rfl rfl rfl rfl ?_ | refine zW rfl rfl rfl rfl ?_ | (refine qY rfl rfl rfl rfl ?_ ?_ <;> intro _) | exact zD | exact zL)
    | a :: q, hol =>
      have h1 := sortS_evS (bytL (a :: q)) (bytL_in hsz) (by simp only [bytL, List.length_map]; omega)
      have h2 := compact_evS (sortU (bytL (a :: q))) fun z hz => bytL_in hsz z (sortU_mem.1 hz)
      rw [strL_bytL] at h1
      dsimp only [rowK, rowO, List.map]
      repeat' (first | refine zS rfl ?_ | refine qA ?_ | refine qB rfl ?_ | refine qC (by kernel_rfl) ?_ | refine qD ?_ | refine qE ?_ | refine qF ?_ | refine qG ?_ | refine qH rfl ?_ | refine go_callS [1] rfl rfl rfl rfl (FnX.plain _) b26 (h1) rfl rfl rfl rfl rfl ?_ | refine go_callS [1] rfl rfl rfl rfl (FnX.plain _) b27 (h2) rfl rfl rfl rfl rfl ?_ | refine zT rfl ?_ | refine zU rfl ?_ | refine qL rfl rfl ?_ | refine qM rfl rfl rfl ?_ | refine qO rfl rfl rfl ?_ | refine zX rfl rfl rfl rfl ?_ | refine zW rfl rfl rfl rfl ?_ | (refine qY rfl rfl rfl rfl ?_ ?_ <;> intro _) | exact zD | exact zL)
      refine go_frz 2 rfl ?_
      repeat' (first | refine zS rfl ?_ | refine qA ?_ | refine qB rfl ?_ | refine qC (by kernel_rfl) ?_ | refine qD ?_ | refine qE ?_ | refine qF ?_ | refine qG ?_ | refine qH rfl ?_ | refine zT rfl ?_ | refine zU rfl ?_ | refine qL rfl rfl ?_ | refine qM rfl rfl rfl ?_ | refine qO rfl rfl rfl ?_ | refine zX rfl rfl rfl rfl ?_ | refine zW rfl rfl rfl rfl ?_ | (refine qY rfl rfl rfl rfl ?_ ?_ <;> intro _) | exact zD | exact zL)
end Go.Proofs.YtkjebcnlmanhlaaGreatDoor
