/- Natural numbers as lists of limbs: the value, the canonical list, comparison; Natural numbers as lists of limbs: what one step of the products by rows does, and trimming; Natural numbers as lists of limbs: comparison from the top; The least product over all orders: the table over sets, the greedy order that attains it, and that no order does better; The order that attains the least product, and the product along any order; Sets as increasing lists; a list that has each of 0..n-1 and no more than n elements has each once; Statistics, atoms and conjunctive queries: how they are read in memory; w. Conditions: each part's own, as it says. -/
import Derived.Test.YtenpjlghikohmaaGreatDoorGC
set_option linter.unusedVariables false
set_option linter.unusedSimpArgs false
namespace Go.Proofs.YtenpjlghikohmaaGreatDoor
set_option maxRecDepth 4000
def vl : List Int → Nat
 | [] => 0
 | x :: r => x.toNat + 1000000000 * vl r
def limG : Nat → Nat → List Int
 | 0, _ => []
 | f + 1, n => bif n == 0 then [] else ((n % 1000000000 : Nat) : Int) :: limG f (n / 1000000000)
def lim (n : Nat) : List Int := limG n n
def okD (x : Int) : Prop := 0 ≤ x ∧ x < 1000000000
theorem limG_fuel : ∀ (f g n : Nat), n ≤ f → n ≤ g → limG f n = limG g n
 | 0, 0, _, _, _ => rfl
 | 0, g + 1, n, hf, _ => by
  obtain rfl : n = 0 := by omega
  rfl
 | f + 1, 0, n, _, hg => by
  obtain rfl : n = 0 := by omega
  rfl
 | f + 1, g + 1, n, hf, hg => by
  unfold limG
  cases h : n == 0 with
  | true => rfl
  | false =>
   have h0 : n ≠ 0 := by simpa using h
   have : n / 1000000000 < n := Nat.div_lt_self (by omega) (by omega)
   rw [cond_false, cond_false, limG_fuel f g _ (by omega) (by omega)]
theorem lim_zero : lim 0 = [] := rfl
theorem lim_pos {n : Nat} (h : 0 < n) : lim n = ((n % 1000000000 : Nat) : Int) :: lim (n / 1000000000) := by
 have hd : n / 1000000000 < n := Nat.div_lt_self h (by omega)
 unfold lim
 obtain ⟨m, rfl⟩ : ∃ m, n = m + 1 := ⟨n - 1, by omega⟩
 rw [limG, show ((m + 1) == 0) = false by simp, cond_false, limG_fuel m _ _ (by omega) (Nat.le_refl _)]
theorem vl_lim (n : Nat) : vl (lim n) = n := by
 induction n using Nat.strongRecOn with
 | ind n ih =>
  rcases Nat.eq_zero_or_pos n with rfl | h
  ·rfl
  ·have hd : n / 1000000000 < n := Nat.div_lt_self h (by omega)
   rw [lim_pos h, vl, ih _ hd, Int.toNat_natCast]
   omega
theorem lim_okD (n : Nat) : ∀ x ∈ lim n, okD x := by
 induction n using Nat.strongRecOn with
 | ind n ih =>
  rcases Nat.eq_zero_or_pos n with rfl | h
  ·intro x hx; simp [lim_zero] at hx
  ·have hd : n / 1000000000 < n := Nat.div_lt_self h (by omega)
   rw [lim_pos h]
   intro x hx
   rcases List.mem_cons.1 hx with rfl | hx
   ·unfold okD; omega
   ·exact ih _ hd x hx
def okT (l : List Int) : Prop := ∀ x, l.getLast? = some x → x ≠ 0
def okL (l : List Int) : Prop := (∀ x ∈ l, okD x) ∧ okT l
theorem lim_nil {n : Nat} : lim n = [] ↔ n = 0 := by
 constructor
 ·intro h; have := vl_lim n; rw [h] at this; exact this.symm
 ·rintro rfl; rfl
theorem lim_okT (n : Nat) : okT (lim n) := by
 induction n using Nat.strongRecOn with
 | ind n ih =>
  rcases Nat.eq_zero_or_pos n with rfl | h
  ·intro x hx; simp [lim_zero] at hx
  ·have hd : n / 1000000000 < n := Nat.div_lt_self h (by omega)
   rw [lim_pos h]
   intro x hx
   rcases Nat.eq_zero_or_pos (n / 1000000000) with h0 | h0
   ·rw [h0, lim_zero] at hx
    simp at hx
    subst hx
    omega
   ·have hne : lim (n / 1000000000) ≠ [] := fun e => by rw [lim_nil] at e; omega
    rw [List.getLast?_cons_of_ne_nil hne] at hx
    exact ih _ hd x hx
theorem lim_okL (n : Nat) : okL (lim n) := ⟨lim_okD n, lim_okT n⟩
theorem vl_lt : ∀ {l : List Int}, (∀ x ∈ l, okD x) → vl l < 1000000000 ^ l.length
 | [], _ => by simp [vl]
 | x :: r, h => by
  have h1 := vl_lt fun y hy => h y (List.mem_cons_of_mem _ hy)
  have h2 := h x (by simp)
  unfold okD at h2
  rw [vl, List.length_cons, Nat.pow_succ]
  omega
theorem vl_app : ∀ (p s : List Int), vl (p ++ s) = vl p + 1000000000 ^ p.length * vl s
 | [], s => by simp [vl]
 | x :: r, s => by
  rw [List.cons_append, vl, vl, vl_app r s, List.length_cons, Nat.pow_succ, Nat.mul_add, ← Nat.mul_assoc, Nat.mul_comm 1000000000 (1000000000 ^ r.length)]
  omega
theorem lim_vl {l : List Int} (h : okL l) : lim (vl l) = l := by
 induction l with
 | nil => rfl
 | cons x r ih =>
  have hx := h.1 x (by simp)
  unfold okD at hx
  have hr : okL r := ⟨fun y hy => h.1 y (List.mem_cons_of_mem _ hy), fun y hy => by
   refine h.2 y ?_
   have : r ≠ [] := by rintro rfl; simp at hy
   rw [List.getLast?_cons_of_ne_nil this]
   exact hy⟩
  have hpos : 0 < vl (x :: r) := by
   rw [vl]
   rcases Nat.eq_zero_or_pos (vl r) with h0 | h0
   ·have hrn : r = [] := by rw [← ih hr, h0]; rfl
    subst hrn
    have := h.2 x rfl
    omega
   ·omega
  rw [lim_pos hpos, vl, show (x.toNat + 1000000000 * vl r) % 1000000000 = x.toNat by omega, show (x.toNat + 1000000000 * vl r) / 1000000000 = vl r by omega, ih hr, Int.toNat_of_nonneg hx.1]
theorem vl_ge {l : List Int} (h : okL l) (hne : l ≠ []) : 1000000000 ^ (l.length - 1) ≤ vl l := by
 obtain ⟨p, x, rfl⟩ : ∃ p x, l = p ++ [x] := ⟨l.dropLast, l.getLast hne, (List.dropLast_concat_getLast hne).symm⟩
 have hx := h.1 x (by simp)
 have h0 := h.2 x (by simp)
 unfold okD at hx
 rw [vl_app, vl, vl]
 have hl : (p ++ [x]).length - 1 = p.length := by simp
 rw [hl]
 have : 1000000000 ^ p.length * 1 ≤ 1000000000 ^ p.length * (x.toNat + 1000000000 * 0) := Nat.mul_le_mul_left _ (by omega)
 omega
theorem vl_len {a b : List Int} (ha : okL a) (hb : okL b) (h : a.length < b.length) : vl a < vl b := by
 have h1 := vl_lt ha.1
 have h2 := vl_ge hb (by rintro rfl; simp at h)
 have h3 : 1000000000 ^ a.length ≤ 1000000000 ^ (b.length - 1) := Nat.pow_le_pow_right (by omega) (by omega)
 omega
theorem vl_top {p q s : List Int} {x y : Int} (hp : ∀ z ∈ p, okD z) (hl : p.length = q.length) (hx : okD x) (hy : okD y) (h : x < y) : vl (p ++ x :: s) < vl (q ++ y :: s) := by
 have h1 := vl_lt hp
 unfold okD at hx hy
 rw [vl_app, vl_app, vl, vl, hl]
 rw [hl] at h1
 have h2 : 1000000000 ^ q.length * (x.toNat + 1) ≤ 1000000000 ^ q.length * y.toNat := Nat.mul_le_mul_left _ (by omega)
 rw [Nat.mul_add, Nat.mul_add]
 rw [Nat.mul_add, Nat.mul_one] at h2
 omega
theorem lim_len {n k : Nat} : (lim n).length ≤ k ↔ n < 1000000000 ^ k := by
 have h1 := vl_lt (lim_okD n)
 rw [vl_lim] at h1
 constructor
 ·intro h
  exact Nat.lt_of_lt_of_le h1 (Nat.pow_le_pow_right (by omega) h)
 ·intro h
  rcases Nat.eq_zero_or_pos n with rfl | hp
  ·simp [lim_zero]
  ·have hne : lim n ≠ [] := fun e => by rw [lim_nil] at e; omega
   have h2 := vl_ge (lim_okL n) hne
   rw [vl_lim] at h2
   rcases Nat.lt_or_ge k (lim n).length with hk | hk
   ·have : 1000000000 ^ k ≤ 1000000000 ^ ((lim n).length - 1) := Nat.pow_le_pow_right (by omega) (by omega)
    omega
   ·exact hk
def cmpN (m n : Nat) : Int := if m < n then -1 else if n < m then 1 else 0
theorem vl_take {l : List Int} {k : Nat} {x : Int} (h : l[k]? = some x) : vl (l.take (k + 1)) = vl (l.take k) + 1000000000 ^ k * x.toNat := by
 have hk := (List.getElem?_eq_some_iff.1 h).1
 rw [List.getElem?_eq_getElem hk] at h
 cases h
 rw [List.take_succ_eq_append_getElem hk, vl_app, vl, vl, List.length_take, Nat.min_eq_left (by omega)]
 simp
theorem vl_set {l : List Int} {j : Nat} {x : Int} (h : l[j]? = some x) (v : Int) : vl (l.set j v) + 1000000000 ^ j * x.toNat = vl l + 1000000000 ^ j * v.toNat := by
 induction l generalizing j with
 | nil => simp at h
 | cons a r ih =>
  cases j with
  | zero =>
   simp at h
   subst h
   rw [List.set_cons_zero, vl, vl]
   omega
  | succ j =>
   have := ih (j := j) (by simpa using h)
   rw [List.set_cons_succ, vl, vl, Nat.pow_succ, Nat.mul_comm (1000000000 ^ j) 1000000000, Nat.mul_assoc, Nat.mul_assoc]
   omega
theorem okD_set {l : List Int} (h : ∀ x ∈ l, okD x) {j : Nat} {v : Int} (hv : okD v) : ∀ x ∈ l.set j v, okD x := by
 intro x hx
 rcases List.mem_or_eq_of_mem_set hx with hx | rfl
 ·exact h x hx
 ·exact hv
theorem mul_step {out b : List Int} {i k : Nat} {o x y c : Int} {V : Nat} (ho : out[i + k]? = some o) (hy : b[k]? = some y) (h1 : okD o) (h2 : okD x) (h3 : okD y) (h4 : okD c)
  (hv : vl out + 1000000000 ^ (i + k) * c.toNat = V + 1000000000 ^ i * (x.toNat * vl (b.take k))) :
  okD (Int.tmod (c + (o + x * y)) 1000000000) ∧ okD (Int.tdiv (c + (o + x * y)) 1000000000) ∧ (0 ≤ c + (o + x * y) ∧ c + (o + x * y) < 1000000000000000000) ∧ (0 ≤ x * y ∧ x * y < 1000000000000000000) ∧ (0 ≤ o + x * y ∧ o + x * y < 1000000000000000000) ∧
  vl (out.set (i + k) (Int.tmod (c + (o + x * y)) 1000000000)) + 1000000000 ^ (i + (k + 1)) * (Int.tdiv (c + (o + x * y)) 1000000000).toNat = V + 1000000000 ^ i * (x.toNat * vl (b.take (k + 1))) := by
 unfold okD at *
 have hs := vl_set ho (Int.tmod (c + (o + x * y)) 1000000000)
 have ht := vl_take hy
 have hxy0 : 0 ≤ x * y := Int.mul_nonneg h2.1 h3.1
 have hxy1 : x * y ≤ 999999999 * 999999999 := Int.mul_le_mul (by omega) (by omega) h3.1 (by omega)
 have hxyn : (x * y).toNat = x.toNat * y.toNat := by
  obtain ⟨m, rfl⟩ := Int.eq_ofNat_of_zero_le h2.1
  obtain ⟨n, rfl⟩ := Int.eq_ofNat_of_zero_le h3.1
  rw [← Int.natCast_mul]
  rfl
 generalize hP : x * y = P at *
 have hS : 0 ≤ c + (o + P) := by omega
 rw [Int.tmod_eq_emod_of_nonneg hS, Int.tdiv_eq_ediv_of_nonneg hS] at *
 refine ⟨by omega, by omega, by omega, by omega, by omega, ?_⟩
 rw [ht, Nat.mul_add x.toNat, Nat.mul_add (1000000000 ^ i), ← Nat.add_assoc V, ← hv]
 have e1 : 1000000000 ^ i * (x.toNat * (1000000000 ^ k * y.toNat)) = 1000000000 ^ (i + k) * P.toNat := by
  rw [hxyn, Nat.pow_add, Nat.mul_left_comm x.toNat, Nat.mul_assoc]
 have e2 : 1000000000 ^ (i + (k + 1)) * ((c + (o + P)) / 1000000000).toNat = 1000000000 ^ (i + k) * (1000000000 * ((c + (o + P)) / 1000000000).toNat) := by
  rw [← Nat.add_assoc, Nat.pow_succ, Nat.mul_assoc]
 rw [e1, e2]
 generalize 1000000000 ^ (i + k) = Z at *
 have e3 : c.toNat + (o.toNat + P.toNat) = ((c + (o + P)) % 1000000000).toNat + 1000000000 * ((c + (o + P)) / 1000000000).toNat := by omega
 have e4 : Z * c.toNat + (Z * o.toNat + Z * P.toNat) = Z * ((c + (o + P)) % 1000000000).toNat + Z * (1000000000 * ((c + (o + P)) / 1000000000).toNat) := by
  rw [← Nat.mul_add, ← Nat.mul_add, ← Nat.mul_add, e3]
 omega
theorem vl_zeros : ∀ n : Nat, vl (List.replicate n 0) = 0
 | 0 => rfl
 | n + 1 => by rw [List.replicate_succ, vl, vl_zeros n]; rfl
theorem trim_zero {l : List Int} {n : Nat} (h : l[n]? = some 0) : vl (l.take n) = vl (l.take (n + 1)) := by
 rw [vl_take h]; simp
theorem trim_done {l : List Int} {n : Nat} (hd : ∀ x ∈ l, okD x) (hn : n ≤ l.length) (hv : vl (l.take n) = vl l) (h : n = 0 ∨ ∃ x, l[n - 1]? = some x ∧ x ≠ 0) : l.take n = lim (vl l) := by
 rw [← hv]
 refine (lim_vl ⟨fun x hx => hd x (List.mem_of_mem_take hx), fun x hx => ?_⟩).symm
 rcases h with rfl | ⟨y, hy, h0⟩
 ·simp at hx
 ·rw [List.getLast?_take] at hx
  rcases Nat.eq_zero_or_pos n with rfl | hp
  ·simp at hx
  ·rw [if_neg (by omega), hy] at hx
   simp at hx
   exact hx ▸ h0
theorem cmp_at {a b : List Int} (ha : ∀ x ∈ a, okD x) (hb : ∀ x ∈ b, okD x) (hl : a.length = b.length) {k : Nat} {x y : Int} (hx : a[k]? = some x) (hy : b[k]? = some y) (hs : a.drop (k + 1) = b.drop (k + 1)) :
  (x < y → vl a < vl b) ∧ (y < x → vl b < vl a) ∧ (x = y → a.drop k = b.drop k) := by
 have ka := (List.getElem?_eq_some_iff.1 hx).1
 have kb := (List.getElem?_eq_some_iff.1 hy).1
 rw [List.getElem?_eq_getElem ka] at hx
 rw [List.getElem?_eq_getElem kb] at hy
 cases hx
 cases hy
 have ea : a.take k ++ a[k] :: a.drop (k + 1) = a := by rw [← List.drop_eq_getElem_cons ka, List.take_append_drop]
 have eb : b.take k ++ b[k] :: b.drop (k + 1) = b := by rw [← List.drop_eq_getElem_cons kb, List.take_append_drop]
 have ta : ∀ z ∈ a.take k, okD z := fun z hz => ha z (List.mem_of_mem_take hz)
 have tb : ∀ z ∈ b.take k, okD z := fun z hz => hb z (List.mem_of_mem_take hz)
 have hlt : (a.take k).length = (b.take k).length := by simp; omega
 have xa := ha a[k] (List.getElem_mem ka)
 have xb := hb b[k] (List.getElem_mem kb)
 refine ⟨fun h => ?_, fun h => ?_, fun h => ?_⟩
 ·have := vl_top (s := b.drop (k + 1)) (q := b.take k) ta hlt xa xb h
  rw [eb, ← hs, ea] at this
  exact this
 ·have := vl_top (s := a.drop (k + 1)) (q := a.take k) tb hlt.symm xb xa h
  rw [ea, hs, eb] at this
  exact this
 ·rw [List.drop_eq_getElem_cons ka, List.drop_eq_getElem_cons kb, hs, h]
theorem cmpN_lt {m n : Nat} (h : m < n) : cmpN m n = -1 := by unfold cmpN; rw [if_pos h]
theorem cmpN_gt {m n : Nat} (h : n < m) : cmpN m n = 1 := by unfold cmpN; rw [if_neg (by omega), if_pos h]
theorem cmpN_eq (n : Nat) : cmpN n n = 0 := by unfold cmpN; rw [if_neg (by omega), if_neg (by omega)]
theorem bit_add {x i : Nat} (h : x.testBit i = false) (j : Nat) : (x + 2 ^ i).testBit j = (x.testBit j || j == i) := by
 have hx : x / 2 ^ i % 2 = 0 := by
  rw [Nat.testBit_eq_decide_div_mod_eq] at h
  have := of_decide_eq_false h
  omega
 have hp : 0 < 2 ^ i := Nat.two_pow_pos i
 rcases Nat.lt_trichotomy j i with hj | rfl | hj
 ·rw [Nat.add_comm, Nat.testBit_two_pow_add_gt hj]
  have : (j == i) = false := by simp; omega
  rw [this, Bool.or_false]
 ·rw [Nat.add_comm, Nat.testBit_two_pow_add_eq, h]
  simp
 ·have e : (j == i) = false := by simp; omega
  rw [e, Bool.or_false, Nat.testBit_eq_decide_div_mod_eq, Nat.testBit_eq_decide_div_mod_eq]
  have hd : (x + 2 ^ i) / 2 ^ j = x / 2 ^ j := by
   obtain ⟨d, rfl⟩ : ∃ d, j = i + 1 + d := ⟨j - (i + 1), by omega⟩
   rw [Nat.pow_add, ← Nat.div_div_eq_div_mul, ← Nat.div_div_eq_div_mul, Nat.pow_succ, ← Nat.div_div_eq_div_mul, ← Nat.div_div_eq_div_mul, Nat.add_div_right _ hp]
   rw [show (x / 2 ^ i + 1) / 2 = x / 2 ^ i / 2 by omega]
  rw [hd]
theorem add_lt {x i n : Nat} (h : x.testBit i = false) (hx : x < 2 ^ n) (hi : i < n) : x + 2 ^ i < 2 ^ n := by
 refine Nat.lt_pow_two_of_testBit _ fun j hj => ?_
 rw [bit_add h, Nat.testBit_lt_two_pow (Nat.lt_of_lt_of_le hx (Nat.pow_le_pow_right (by omega) hj))]
 simp; omega
def minO : Option Nat → Nat → Nat
 | none, x => x
 | some y, x => if x < y then x else y
def stepT (g : Nat → Nat) (set : Nat) (o : Option Nat) (i : Nat) : Option Nat := bif set.testBit i then o else some (minO o (g i))
def tbG (f : Nat → Nat → Nat) (n : Nat) : Nat → Nat → Nat
 | 0, _ => 1
 | k + 1, set => ((List.range n).foldl (stepT (fun i => f set i * tbG f n k (set + 2 ^ i)) set) none).getD 1
def tb (f : Nat → Nat → Nat) (n set : Nat) : Nat := tbG f n (2 ^ n - set) set
theorem fold_cong {g g' : Nat → Nat} {set : Nat} : ∀ (l : List Nat) (o : Option Nat), (∀ i ∈ l, set.testBit i = false → g i = g' i) → l.foldl (stepT g set) o = l.foldl (stepT g' set) o
 | [], _, _ => rfl
 | i :: r, o, h => by
  have e : stepT g set o i = stepT g' set o i := by
   unfold stepT
   cases hb : set.testBit i with
   | true => rfl
   | false => rw [h i (by simp) hb]
  rw [List.foldl_cons, List.foldl_cons, e, fold_cong r _ fun j hj => h j (by simp [hj])]
theorem tbG_fuel {f : Nat → Nat → Nat} {n : Nat} : ∀ (k k' set : Nat), set < 2 ^ n → 2 ^ n - set ≤ k → 2 ^ n - set ≤ k' → tbG f n k set = tbG f n k' set
 | 0, _, set, h, hk, _ => by omega
 | _, 0, set, h, _, hk => by omega
 | k + 1, k' + 1, set, h, hk, hk' => by
  unfold tbG
  rw [fold_cong (g' := fun i => f set i * tbG f n k' (set + 2 ^ i)) _ none fun i hi hb => by
   have hp : 0 < 2 ^ i := Nat.two_pow_pos i
   have := add_lt hb h (List.mem_range.1 hi)
   rw [tbG_fuel k k' _ this (by omega) (by omega)]]
theorem tb_eq (f : Nat → Nat → Nat) {n set : Nat} (h : set < 2 ^ n) : tb f n set = ((List.range n).foldl (stepT (fun i => f set i * tb f n (set + 2 ^ i)) set) none).getD 1 := by
 unfold tb
 obtain ⟨k, hk⟩ : ∃ k, 2 ^ n - set = k + 1 := ⟨2 ^ n - set - 1, by omega⟩
 rw [hk, tbG]
 rw [fold_cong (g' := fun i => f set i * tbG f n (2 ^ n - (set + 2 ^ i)) (set + 2 ^ i)) _ none fun i hi hb => by
  have hp : 0 < 2 ^ i := Nat.two_pow_pos i
  have := add_lt hb h (List.mem_range.1 hi)
  rw [tbG_fuel k (2 ^ n - (set + 2 ^ i)) _ this (by omega) (by omega)]]
theorem fold_min (g : Nat → Nat) (set : Nat) : ∀ (l : List Nat) (o : Option Nat),
  ((o = none ∧ ∀ i ∈ l, set.testBit i = true) ∧ l.foldl (stepT g set) o = none) ∨
  ∃ m, l.foldl (stepT g set) o = some m ∧ (∀ y, o = some y → m ≤ y) ∧ (∀ i ∈ l, set.testBit i = false → m ≤ g i) ∧ (o = some m ∨ ∃ i ∈ l, set.testBit i = false ∧ g i = m)
 | [], none => .inl ⟨⟨rfl, by simp⟩, rfl⟩
 | [], some y => .inr ⟨y, rfl, fun z hz => by cases hz; exact Nat.le_refl _, by simp, .inl rfl⟩
 | i :: r, o => by
  rw [List.foldl_cons]
  cases hb : set.testBit i with
  | true =>
   have e : stepT g set o i = o := by unfold stepT; rw [hb]; rfl
   rw [e]
   rcases fold_min g set r o with ⟨⟨h1, h2⟩, h3⟩ | ⟨m, h1, h2, h3, h4⟩
   ·exact .inl ⟨⟨h1, fun j hj => by rcases List.mem_cons.1 hj with rfl | hj; exact hb; exact h2 j hj⟩, h3⟩
   ·refine .inr ⟨m, h1, h2, fun j hj hjb => ?_, ?_⟩
    ·rcases List.mem_cons.1 hj with rfl | hj
     ·rw [hb] at hjb; cases hjb
     ·exact h3 j hj hjb
    ·rcases h4 with h4 | ⟨j, hj, h4⟩
     ·exact .inl h4
     ·exact .inr ⟨j, by simp [hj], h4⟩
  | false =>
   have e : stepT g set o i = some (minO o (g i)) := by unfold stepT; rw [hb]; rfl
   have hle : minO o (g i) ≤ g i ∧ (∀ y, o = some y → minO o (g i) ≤ y) ∧ (minO o (g i) = g i ∨ o = some (minO o (g i))) := by
    cases o with
    | none => exact ⟨Nat.le_refl _, by simp, .inl rfl⟩
    | some y =>
     simp only [minO]
     by_cases h : g i < y
     ·rw [if_pos h]; exact ⟨Nat.le_refl _, fun z hz => by cases hz; omega, .inl rfl⟩
     ·rw [if_neg h]; exact ⟨by omega, fun z hz => by cases hz; exact Nat.le_refl _, .inr rfl⟩
   rw [e]
   rcases fold_min g set r (some (minO o (g i))) with ⟨⟨h1, -⟩, -⟩ | ⟨m, h1, h2, h3, h4⟩
   ·cases h1
   ·have hm := h2 _ rfl
    refine .inr ⟨m, h1, fun y hy => Nat.le_trans hm (hle.2.1 y hy), fun j hj hjb => ?_, ?_⟩
    ·rcases List.mem_cons.1 hj with rfl | hj
     ·exact Nat.le_trans hm hle.1
     ·exact h3 j hj hjb
    ·rcases h4 with h4 | ⟨j, hj, h4⟩
     ·cases h4
      rcases hle.2.2 with h5 | h5
      ·exact .inr ⟨i, by simp, hb, h5.symm⟩
      ·exact .inl h5
     ·exact .inr ⟨j, by simp [hj], h4⟩
theorem tb_le (f : Nat → Nat → Nat) {n set i : Nat} (h : set < 2 ^ n) (hi : i < n) (hb : set.testBit i = false) : tb f n set ≤ f set i * tb f n (set + 2 ^ i) := by
 rw [tb_eq f h]
 rcases fold_min (fun i => f set i * tb f n (set + 2 ^ i)) set (List.range n) none with ⟨⟨-, h2⟩, -⟩ | ⟨m, h1, -, h3, -⟩
 ·have := h2 i (List.mem_range.2 hi)
  rw [hb] at this
  cases this
 ·rw [h1]
  exact h3 i (List.mem_range.2 hi) hb
theorem tb_att (f : Nat → Nat → Nat) {n set i : Nat} (h : set < 2 ^ n) (hi : i < n) (hb : set.testBit i = false) : ∃ j, j < n ∧ set.testBit j = false ∧ f set j * tb f n (set + 2 ^ j) = tb f n set := by
 rw [tb_eq f h]
 rcases fold_min (fun i => f set i * tb f n (set + 2 ^ i)) set (List.range n) none with ⟨⟨-, h2⟩, -⟩ | ⟨m, h1, -, -, h4⟩
 ·have := h2 i (List.mem_range.2 hi)
  rw [hb] at this
  cases this
 ·rw [h1]
  rcases h4 with h4 | ⟨j, hj, hb', h4⟩
  ·cases h4
  ·exact ⟨j, List.mem_range.1 hj, hb', h4⟩
theorem tb_full (f : Nat → Nat → Nat) {n set : Nat} (h : set < 2 ^ n) (hf : ∀ i, i < n → set.testBit i = true) : tb f n set = 1 := by
 rw [tb_eq f h]
 rcases fold_min (fun i => f set i * tb f n (set + 2 ^ i)) set (List.range n) none with ⟨-, h3⟩ | ⟨m, -, -, -, h4⟩
 ·rw [h3]; rfl
 ·rcases h4 with h4 | ⟨j, hj, hb', -⟩
  ·cases h4
  ·rw [hf j (List.mem_range.1 hj)] at hb'; cases hb'
def missN (n set : Nat) : Nat := ((List.range n).filter fun i => !set.testBit i).length
theorem filter_drop {p q : Nat → Bool} {i : Nat} (hi : p i = true) (hq : ∀ j, q j = (p j && !(j == i))) : ∀ (l : List Nat), l.Nodup → i ∈ l → (l.filter p).length = (l.filter q).length + 1
 | a :: r, hn, hm => by
  rw [List.nodup_cons] at hn
  by_cases ha : a = i
  ·subst ha
   have hqa : q a = false := by rw [hq]; simp
   have he : r.filter p = r.filter q := List.filter_congr fun j hj => by
    rw [hq]
    have : (j == a) = false := by simp; rintro rfl; exact hn.1 hj
    rw [this]; simp
   rw [List.filter_cons_of_pos hi, List.filter_cons_of_neg (by rw [hqa]; simp), he]
   simp
  ·have hm' : i ∈ r := by
    rcases List.mem_cons.1 hm with h | h
    ·exact absurd h.symm ha
    ·exact h
   have ih := filter_drop hi hq r hn.2 hm'
   have hqa : q a = p a := by rw [hq, show (a == i) = false by simpa using ha]; simp
   cases hp : p a with
   | true => rw [List.filter_cons_of_pos hp, List.filter_cons_of_pos (by rw [hqa, hp]), List.length_cons, List.length_cons, ih]
   | false => rw [List.filter_cons_of_neg (by rw [hp]; simp), List.filter_cons_of_neg (by rw [hqa, hp]; simp), ih]
theorem miss_add {n set i : Nat} (hi : i < n) (hb : set.testBit i = false) : missN n set = missN n (set + 2 ^ i) + 1 := by
 unfold missN
 refine filter_drop (p := fun j => !set.testBit j) (i := i) (by rw [hb]; rfl) (fun j => ?_) _ List.nodup_range (List.mem_range.2 hi)
 rw [bit_add hb]
 cases set.testBit j <;> simp
theorem miss_zero {n set : Nat} (h : missN n set = 0) : ∀ i, i < n → set.testBit i = true := by
 intro i hi
 unfold missN at h
 have h0 := List.eq_nil_of_length_eq_zero h
 cases hb : set.testBit i with
 | true => rfl
 | false =>
  have : i ∈ (List.range n).filter fun i => !set.testBit i := List.mem_filter.2 ⟨List.mem_range.2 hi, by rw [hb]; rfl⟩
  rw [h0] at this
  simp at this
theorem miss_pos {n set k : Nat} (h : missN n set = k + 1) : ∃ i, i < n ∧ set.testBit i = false := by
 unfold missN at h
 cases hl : (List.range n).filter fun i => !set.testBit i with
 | nil => rw [hl] at h; simp at h
 | cons a r =>
  have : a ∈ (List.range n).filter fun i => !set.testBit i := by rw [hl]; simp
  rw [List.mem_filter] at this
  exact ⟨a, List.mem_range.1 this.1, by simpa using this.2⟩
def nextF (f : Nat → Nat → Nat) (n set p : Nat) : Option Nat := (List.range n).find? fun i => !set.testBit i && (p * f set i * tb f n (set + 2 ^ i) == tb f n 0)
def ordG (f : Nat → Nat → Nat) (n : Nat) : Nat → Nat → Nat → List Nat
 | 0, _, _ => []
 | k + 1, set, p => match nextF f n set p with
  | some i => i :: ordG f n k (set + 2 ^ i) (p * f set i)
  | none => ordG f n k set p
def costF (f : Nat → Nat → Nat) : Nat → List Nat → Nat
 | _, [] => 1
 | set, i :: r => f set i * costF f (set + 2 ^ i) r
def fills (n : Nat) : Nat → List Nat → Prop
 | set, [] => ∀ i, i < n → set.testBit i = true
 | set, i :: r => (i < n ∧ set.testBit i = false) ∧ fills n (set + 2 ^ i) r
theorem next_some {f : Nat → Nat → Nat} {n set p : Nat} (h : set < 2 ^ n) (hp : p * tb f n set = tb f n 0) {k : Nat} (hm : missN n set = k + 1) : ∃ i, nextF f n set p = some i ∧ i < n ∧ set.testBit i = false ∧ p * f set i * tb f n (set + 2 ^ i) = tb f n 0 := by
 obtain ⟨i, hi, hb⟩ := miss_pos hm
 obtain ⟨j, hj, hjb, he⟩ := tb_att f h hi hb
 have hs : (nextF f n set p).isSome := by
  unfold nextF
  rw [List.find?_isSome]
  refine ⟨j, List.mem_range.2 hj, ?_⟩
  rw [hjb, Nat.mul_assoc, he, hp]
  simp
 obtain ⟨q, hq⟩ := Option.isSome_iff_exists.1 hs
 have h1 := List.mem_of_find?_eq_some hq
 have h2 := List.find?_some hq
 simp only [Bool.and_eq_true, Bool.not_eq_true', beq_iff_eq] at h2
 exact ⟨q, hq, List.mem_range.1 h1, h2.1, h2.2⟩
theorem ord_att (f : Nat → Nat → Nat) {n : Nat} : ∀ (k set p : Nat), set < 2 ^ n → missN n set = k → p * tb f n set = tb f n 0 → fills n set (ordG f n k set p) ∧ p * costF f set (ordG f n k set p) = tb f n 0
 | 0, set, p, h, hm, hp => by
  have hf := miss_zero hm
  rw [tb_full f h hf] at hp
  exact ⟨hf, hp⟩
 | k + 1, set, p, h, hm, hp => by
  obtain ⟨i, h1, hi, hb, he⟩ := next_some h hp hm
  have := miss_add hi hb
  obtain ⟨r1, r2⟩ := ord_att f k _ (p * f set i) (add_lt hb h hi) (by omega) he
  rw [ordG, h1]
  exact ⟨⟨⟨hi, hb⟩, r1⟩, by show p * (f set i * _) = _; rw [← Nat.mul_assoc]; exact r2⟩
open Go Go.Abs Go.Val Go.Proofs.Tryz
structure CT where
 nm : ByteArray
 n : Int
structure STA where
 nodes : Int
 edges : Int
 lb : List CT
 ty : List CT
 outs : List (List Int)
 ins : List (List Int)
structure AT where
 k : Int
 vs : List Int
 nm : ByteArray
 ty : List ByteArray
 v : V
structure CJ where
 vs : List ByteArray
 aq : List AT
def intsD (l : List Int) : D := .sl (l.map .int)
def encCT (c : CT) : D := .agg [.str c.nm, .int c.n]
def encST (s : STA) : D := .agg [.int s.nodes, .int s.edges, .sl (s.lb.map encCT), .sl (s.ty.map encCT), .sl (s.outs.map intsD), .sl (s.ins.map intsD)]
def encAT (a : AT) : D := .agg [.int a.k, intsD a.vs, .str a.nm, .sl (a.ty.map .str), .int a.v.k, .int a.v.n, .int a.v.d, .str a.v.s, .sl (kids a.v)]
def encCJ (c : CJ) : D := .agg [.sl (c.vs.map .str), .sl (c.aq.map encAT)]
def cntF (l : List CT) (s : ByteArray) : Int := match l.find? fun c => c.nm.toList == s.toList with | some c => c.n | none => 0
def nodesF (s : STA) (nm : ByteArray) : Int := bif nm.toList == (⟨#[]⟩ : ByteArray).toList then s.nodes else cntF s.lb nm
def addW (a b : Int) : Int := IntKind.i64.wrap (a + b)
def edgesF (s : STA) (ty : List ByteArray) : Int := bif ty.length == 0 then s.edges else ty.foldl (fun n t => addW n (cntF s.ty t)) 0
def grtF (l : List (List Int)) (i : Nat) : Int := (l.getD i []).headD 0
def idxC (l : List CT) (s : ByteArray) : Option Nat := l.findIdx? fun c => c.nm.toList == s.toList
def dirF (s : STA) (dir : Int) : List (List Int) := bif dir == 1 then s.outs else bif dir == 2 then s.ins else []
def maxF (s : STA) (ty : List ByteArray) (dir : Int) : Int :=
 bif ty.length == 0 then (List.range s.ty.length).foldl (fun n i => addW n (grtF (dirF s dir) i)) 0 else
 ty.foldl (fun n t => match idxC s.ty t with | some i => addW n (grtF (dirF s dir) i) | none => n) 0
def atomF (s : STA) (a : AT) (bound : List Int) : Int :=
 bif !(decide (a.k ≥ 1) && decide (a.k ≤ 4)) || a.vs.length != (bif a.k == 3 then 3 else 1) then 0 else
 bif a.vs.all fun v => bound.contains v then 1 else
 bif a.k == 1 then nodesF s a.nm else
 bif a.k != 3 then nodesF s ⟨#[]⟩ else
 bif bound.contains (a.vs.getD 1 0) then 1 else
 bif bound.contains (a.vs.getD 0 0) && bound.contains (a.vs.getD 2 0) then min (maxF s a.ty 1) (maxF s a.ty 2) else
 bif bound.contains (a.vs.getD 0 0) then maxF s a.ty 1 else
 bif bound.contains (a.vs.getD 2 0) then maxF s a.ty 2 else edgesF s a.ty
def boundF (c : CJ) (set : Nat) : List Int := (List.range c.aq.length).flatMap fun i => bif set.testBit i then (match c.aq[i]? with | some a => a.vs | none => []) else []
def facF (s : STA) (c : CJ) (set i : Nat) : Nat := match c.aq[i]? with | some a => (atomF s a (boundF c set)).toNat | none => 0
def rowsF (s : STA) (c : CJ) : Nat := tb (facF s c) c.aq.length 0
def orderF (s : STA) (c : CJ) : List Nat := ordG (facF s c) c.aq.length c.aq.length 0 1
attribute [local irreducible] Ev EvO EvS ExtEv HasBody SGo go
def iL (l : List Int) : List D := l.map D.int
theorem iL_len (l : List Int) : (iL l).length = l.length := by simp [iL]
theorem iL_get {l : List Int} {i : Nat} {x : Int} (h : l[i]? = some x) : (iL l)[(i : Int).toNat]? = some (.int x) := by rw [Int.toNat_natCast, iL, List.getElem?_map, h]; rfl
theorem iL_set (l : List Int) (k : Nat) (x y : Int) : (iL l).set ((k : Int)).toNat (subD (.int x) 0 (.int y)) = iL (l.set k y) := by
 rw [Int.toNat_natCast]; show (iL l).set k (.int y) = _; simp [iL, List.map_set]
theorem iL_app (l m : List Int) : iL (l ++ m) = iL l ++ iL m := by simp [iL]
theorem iL_cells (l : List Int) : ∀ d ∈ iL l, d.cells.length = 1 := fun d hd => by
 obtain ⟨u, -, rfl⟩ := List.mem_map.1 hd
 rfl
abbrev natD (n : Nat) : D := .sl (iL (lim n))
theorem nvalid_ev (l : List Int) (h : okL l) (hl : l.length ≤ 64) : Ev E 136 [.sl (iL l)] (.d (.bool true)) := by
 have hle := iL_len l
 have g0 : decide (((iL l).length : Int) > 64) = false := by rw [hle]; simp; omega
 refine ye1 func136 ntmps136 fun _ _ _=>?_
 repeat' (first | refine yz ?_ | refine yx ?_ | (refine yy ?_ ?_ <;> intro _) | exact zD | exact zL)
 refine go_loop_ (α := Fin (l.length + 1)) (fun p => ⟨[(0, .d (.sl (iL l))), (8, .d (.sl (iL l))), (9, .d (.int (iL l).length)), (10, .d (.int p.val))], []⟩) (fun p => l.length - p.val) ⟨0, by omega⟩ (zle 0) ?_
 rintro ⟨i, hi⟩
 dsimp only
 rcases Nat.lt_or_ge i l.length with hlt | hge
 ·have g1 : decide ((i : Int) < ((iL l).length : Int)) = true := by rw [hle]; simpa using hlt
  have hx0 := List.getElem?_eq_getElem hlt
  generalize l[i] = x at hx0
  have hx := iL_get hx0
  obtain ⟨d1, d2⟩ := h.1 x (List.mem_of_getElem? hx0)
  have g2 : decide (x < 0) = false := by simpa using d1
  have g3 : decide (x ≥ 1000000000) = false := by simpa using d2
  repeat' (first | refine yz ?_ | refine yi (.int x) hx ?_ | refine yx ?_ | (refine yy ?_ ?_ <;> intro _) | exact zD | exact zL)
  refine go_stop ?_
  exact ⟨⟨i + 1, by omega⟩, by dsimp only; omega, (zle 0)⟩
 ·have g1 : decide ((i : Int) < ((iL l).length : Int)) = false := by rw [hle]; simp; omega
  by_cases h0 : l = []
  ·subst h0
   have g4 : (((iL []).length : Int) == 0) = true := rfl
   repeat' (first | refine yz ?_ | refine yx ?_ | (refine yy ?_ ?_ <;> intro _) | exact zD | exact zL)
  ·have g4 : (((iL l).length : Int) == 0) = false := by
    have := List.length_pos_iff.2 h0
    rw [hle]; simp; exact h0
   have hp := List.length_pos_iff.2 h0
   have hx0 := List.getElem?_eq_getElem (show l.length - 1 < l.length by omega)
   generalize hxe : l[l.length - 1] = x at hx0
   have hx : (iL l)[(((iL l).length : Int) - 1).toNat]? = some (.int x) := by
    rw [hle, show ((l.length : Int) - 1) = ((l.length - 1 : Nat) : Int) by omega]
    exact iL_get hx0
   have hne : x ≠ 0 := h.2 x (by rw [List.getLast?_eq_getElem?]; exact hx0)
   have g5 : (x != 0) = true := by simpa using hne
   repeat' (first | refine yz ?_ | refine yi (.int x) hx ?_ | refine yx ?_ | (refine yy ?_ ?_ <;> intro _) | exact zD | exact zL)
   exact congrArg D.bool g5
theorem clean_ev (n : Nat) (hl : (lim n).length ≤ 64) : Ev E 51 [natD n] (.d (natD n)) := by
 have h := nvalid_ev (lim n) (lim_okL n) hl
 refine ye1 func51 ntmps51 fun _ _ _=>?_
 repeat' (first | refine yz ?_ | refine yp b136 h ?_ | refine yx ?_ | (refine yy ?_ ?_ <;> intro _) | exact zD | exact zL)
structure STr (l : List Int) where
 n : Nat
 hn : n ≤ l.length
 hv : vl (l.take n) = vl l
theorem ntrim_ev (l : List Int) (hd : ∀ x ∈ l, okD x) (hm : l.length ≤ 1000) : Ev E 303 [.sl (iL l)] (.d (natD (vl l))) := by
 refine ye1 func303 ntmps303 fun _ _ _=>?_
 repeat' (first | refine yz ?_ | refine yx ?_ | (refine yy ?_ ?_ <;> intro _) | exact zD | exact zL)
 refine go_loop_ (α := STr l) (fun p => ⟨[(0, .d (.sl (iL (l.take p.n))))], []⟩) (fun p => p.n) ⟨l.length, Nat.le_refl _, by rw [List.take_length]⟩ (by rw [List.take_length]; exact (zle 0)) ?_
 rintro ⟨n, hn, hv⟩
 dsimp only
 cases n with
 | zero =>
  have g1 : decide (((iL (l.take 0)).length : Int) > 0) = false := rfl
  have e : natD (vl l) = .sl (iL (l.take 0)) := by unfold natD; rw [← trim_done hd hn hv (.inl rfl)]
  rw [e]
  repeat' (first | refine yz ?_ | refine yx ?_ | (refine yy ?_ ?_ <;> intro _) | exact zD | exact zL)
 | succ k =>
  have hle : (iL (l.take (k + 1))).length = k + 1 := by rw [iL_len]; simp; omega
  have g1 : decide (((iL (l.take (k + 1))).length : Int) > 0) = true := by rw [hle]; simp
  have hx0 := List.getElem?_eq_getElem (show k < l.length by omega)
  generalize l[k] = x at hx0
  have hx : (iL (l.take (k + 1)))[(((iL (l.take (k + 1))).length : Int) - 1).toNat]? = some (.int x) := by
   rw [hle, show (((k + 1 : Nat) : Int) - 1) = (k : Int) by omega]
   exact iL_get (by rw [List.getElem?_take_of_lt (by omega)]; exact hx0)
  cases h0 : x == 0 with
  | true =>
   have : x = 0 := by simpa using h0
   subst this
   have hs : (iL (l.take (k + 1))).take (((iL (l.take (k + 1))).length : Int) - 1).toNat = iL (l.take k) := by
    rw [hle, show (((k + 1 : Nat) : Int) - 1).toNat = k by omega, iL, ← List.map_take, List.take_take, Nat.min_eq_left (by omega)]
    rfl
   repeat' (first | refine yz ?_ | refine yi (.int 0) hx ?_ | (refine qS rfl ⟨⟨by omega, by omega⟩, ⟨_, rfl, iL_cells _⟩⟩ ?_) | refine yx ?_ | (refine yy ?_ ?_ <;> intro _) | exact zD | exact zL)
   refine go_stop ?_
   refine ⟨⟨k, by omega, by rw [← hv]; exact trim_zero hx0⟩, by dsimp only; omega, ?_⟩
   dsimp only
   rw [← hs]
   exact (zle 0)
  | false =>
   have e : natD (vl l) = .sl (iL (l.take (k + 1))) := by unfold natD; rw [← trim_done hd hn hv (.inr ⟨x, hx0, by simpa using h0⟩)]
   rw [e]
   repeat' (first | refine yz ?_ | refine yi (.int x) hx ?_ | refine yx ?_ | (refine yy ?_ ?_ <;> intro _) | exact zD | exact zL)
def fit64 (n : Nat) : Bool := decide ((lim n).length ≤ 64)
def capN (n : Nat) : Nat := bif fit64 n then n else 0
theorem fits_ev (l : List Int) (hd : ∀ x ∈ l, okD x) (hm : l.length ≤ 1000) : Ev E 220 [.sl (iL l)] (.tup [natD (capN (vl l)), .bool (fit64 (vl l))]) := by
 have h := ntrim_ev l hd hm
 unfold capN
 have hle := iL_len (lim (vl l))
 cases hf : fit64 (vl l) with
 | true =>
  have g1 : decide (((iL (lim (vl l))).length : Int) > 64) = false := by
   have := of_decide_eq_true hf
   rw [hle]; simp; omega
  refine ye1 func220 ntmps220 fun _ _ _=>?_
  repeat' (first | refine yz ?_ | refine yp b303 h ?_ | refine yx ?_ | (refine yy ?_ ?_ <;> intro _) | exact zD | exact zL)
 | false =>
  have g1 : decide (((iL (lim (vl l))).length : Int) > 64) = true := by
   have := of_decide_eq_false hf
   rw [hle]; simp; omega
  refine ye1 func220 ntmps220 fun _ _ _=>?_
  repeat' (first | refine yz ?_ | refine yp b303 h ?_ | refine yx ?_ | (refine yy ?_ ?_ <;> intro _) | exact zD | exact zL)
structure SOf (N : Nat) where
 n : Nat
 out : List Int
 hn : n ≤ 9223372036854775807
 h : out ++ lim n = lim N
theorem lim_small {N : Nat} (h : N ≤ 9223372036854775807) : (lim N).length ≤ 3 := lim_len.2 (by omega)
theorem of_rem (n : Nat) : Int.tmod (n : Int) 1000000000 = ((n % 1000000000 : Nat) : Int) := by rw [Int.tmod_eq_emod_of_nonneg (by omega)]; omega
theorem of_quo (n : Nat) : Int.tdiv (n : Int) 1000000000 = ((n / 1000000000 : Nat) : Int) := by rw [Int.tdiv_eq_ediv_of_nonneg (by omega)]; omega
theorem nof_ev (n : Int) : Ev E 18 [.int n] (.d (natD n.toNat)) := Ev.fit fun hfit => by
 have hr := (hfit (.int n) (by simp)).int
 simp only [inR] at hr
 rcases Int.lt_or_le n 0 with hneg | hpos
 ·rw [show n.toNat = 0 by omega]
  have g1 : decide (n > 0) = false := by simp; omega
  refine ye1 func18 ntmps18 fun _ _ _=>?_
  repeat' (first | refine yz ?_ | refine yx ?_ | (refine yy ?_ ?_ <;> intro _) | exact zD | exact zL)
  refine go_loop_ (α := Unit) (fun p => ⟨[(0, .d (.int n)), (3, .nilS)], []⟩) (fun p => 0) () (zle 0) ?_
  rintro -
  repeat' (first | refine yz ?_ | refine yx ?_ | (refine yy ?_ ?_ <;> intro _) | exact zD | exact zL)
 ·obtain ⟨N, rfl⟩ := Int.eq_ofNat_of_zero_le hpos
  rw [Int.toNat_natCast]
  have h3 := lim_small (N := N) (by omega)
  refine ye1 func18 ntmps18 fun _ _ _=>?_
  repeat' (first | refine yz ?_ | refine yx ?_ | (refine yy ?_ ?_ <;> intro _) | exact zD | exact zL)
  refine go_loop_ (α := SOf N) (fun p => ⟨[(0, .d (.int p.n)), (3, rowX (iL p.out))], rowO 3 1 (iL p.out)⟩) (fun p => p.n) ⟨N, [], by omega, rfl⟩ (zle 0) ?_
  rintro ⟨n, out, hn, h⟩
  dsimp only
  have hol : (iL out).length ≤ 3 := by rw [iL_len]; rw [← h] at h3; simp at h3; omega
  rcases Nat.eq_zero_or_pos n with rfl | hp
  ·have g1 : decide (((0 : Nat) : Int) > 0) = false := rfl
   rw [lim_zero, List.append_nil] at h
   have e : natD N = .sl (iL out) := by unfold natD; rw [h]
   rw [e]
   generalize iL out = o at *
   match o with
   | [] =>
    dsimp only [rowX, rowO]
    repeat' (first | refine yz ?_ | refine yx ?_ | (refine yy ?_ ?_ <;> intro _) | exact zD | exact zL)
   | a :: q =>
    dsimp only [rowX, rowO]
    refine qA ?_
    refine go_frz 0 rfl ?_
    repeat' (first | refine yz ?_ | refine yx ?_ | (refine yy ?_ ?_ <;> intro _) | exact zD | exact zL)
  ·have g1 : decide ((n : Int) > 0) = true := by simpa using hp
   have ht := of_rem n
   have hq := of_quo n
   have h' : (out ++ [((n % 1000000000 : Nat) : Int)]) ++ lim (n / 1000000000) = lim N := by rw [← h, lim_pos hp]; simp
   have hlt : n / 1000000000 < n := Nat.div_lt_self hp (by omega)
   have hdl := Nat.div_le_self n 1000000000
   have hi := iL_app out [((n % 1000000000 : Nat) : Int)]
   generalize iL out = o at *
   match o, hol with
   | [], hol =>
    dsimp only [rowX, rowO]
    repeat' (first | refine yz ?_ | (refine qS rfl ⟨by simp, fun d hd => by (obtain rfl := List.mem_singleton.1 hd; rfl), by (show (0 + 1) * 8 ≤ 140737488355328; omega), by (show 0 + 1 ≤ 9223372036854775807; omega)⟩ ?_) | refine yx ?_ | (refine yy ?_ ?_ <;> intro _) | exact zD | exact zL)
    refine go_stop ?_
    refine ⟨⟨n / 1000000000, out ++ [((n % 1000000000 : Nat) : Int)], by omega, h'⟩, by dsimp only; omega, ?_⟩
    dsimp only
    rw [hi, ht, hq]
    exact (zren [0])
   | a :: q, hol =>
    dsimp only [rowX, rowO]
    repeat' (first | refine yz ?_ | (refine qS rfl ⟨by simp, fun d hd => by (obtain rfl := List.mem_singleton.1 hd; rfl), by (show ((a :: q).length + 1) * 8 ≤ 140737488355328; omega), by (show (a :: q).length + 1 ≤ 9223372036854775807; omega)⟩ ?_) | refine yx ?_ | (refine yy ?_ ?_ <;> intro _) | exact zD | exact zL)
    refine go_stop ?_
    refine ⟨⟨n / 1000000000, out ++ [((n % 1000000000 : Nat) : Int)], by omega, h'⟩, by dsimp only; omega, ?_⟩
    dsimp only
    rw [hi, ht, hq]
    exact (zren [1])
structure SPr (a b : List Int) where
 i : Nat
 out : List Int
 hi : i ≤ a.length
 hl : out.length = a.length + b.length
 ok : ∀ x ∈ out, okD x
 hv : vl out = vl (a.take i) * vl b
 hz : ∀ j, i + b.length ≤ j → j < out.length → out[j]? = some 0
structure SPi (a b : List Int) (i : Nat) (x : Int) where
 k : Nat
 c : Int
 out : List Int
 hk : k ≤ b.length
 hc : okD c
 hl : out.length = a.length + b.length
 ok : ∀ x ∈ out, okD x
 hv : vl out + 1000000000 ^ (i + k) * c.toNat = vl (a.take i) * vl b + 1000000000 ^ i * (x.toNat * vl (b.take k))
 hz : ∀ j, i + b.length ≤ j → j < out.length → out[j]? = some 0
theorem zeros_okD (n : Nat) : ∀ x ∈ List.replicate n (0 : Int), okD x := fun x hx => by rw [(List.mem_replicate.1 hx).2]; exact ⟨by omega, by omega⟩
theorem SPi.last {a b : List Int} {i k : Nat} {x c : Int} {out : List Int} (hk : k = b.length) (hx : a[i]? = some x) (hc : okD c) (hl : out.length = a.length + b.length) (ok : ∀ x ∈ out, okD x)
  (hv : vl out + 1000000000 ^ (i + k) * c.toNat = vl (a.take i) * vl b + 1000000000 ^ i * (x.toNat * vl (b.take k)))
  (hz : ∀ j, i + b.length ≤ j → j < out.length → out[j]? = some 0) :
  (out.set (i + b.length) c).length = a.length + b.length ∧ (∀ x ∈ out.set (i + b.length) c, okD x) ∧ vl (out.set (i + b.length) c) = vl (a.take (i + 1)) * vl b ∧
   ∀ j, i + 1 + b.length ≤ j → j < (out.set (i + b.length) c).length → (out.set (i + b.length) c)[j]? = some 0 := by
 subst hk
 have hia := (List.getElem?_eq_some_iff.1 hx).1
 refine ⟨by simpa using hl, okD_set ok hc, ?_, fun j h1 h2 => ?_⟩
 ·have hs := vl_set (hz (i + b.length) (Nat.le_refl _) (by omega)) c
  rw [vl_take hx, Nat.add_mul, Nat.mul_assoc]
  rw [List.take_length] at hv
  simp only [Int.toNat_zero, Nat.mul_zero, Nat.add_zero] at hs
  omega
 ·rw [List.getElem?_set_ne (by omega)]
  exact hz j (by omega) (by simpa using h2)
theorem SPi.next {a b : List Int} {i k : Nat} {x y o c : Int} {out : List Int} (hk : k < b.length) (ho : out[i + k]? = some o) (hy : b[k]? = some y) (h1 : okD o) (h2 : okD x) (h3 : okD y) (hc : okD c) (hl : out.length = a.length + b.length) (ok : ∀ x ∈ out, okD x)
  (hv : vl out + 1000000000 ^ (i + k) * c.toNat = vl (a.take i) * vl b + 1000000000 ^ i * (x.toNat * vl (b.take k)))
  (hz : ∀ j, i + b.length ≤ j → j < out.length → out[j]? = some 0) :
  ∃ p : SPi a b i x, p.k = k + 1 ∧ p.c = Int.tdiv (c + (o + x * y)) 1000000000 ∧ p.out = out.set (i + k) (Int.tmod (c + (o + x * y)) 1000000000) := by
 obtain ⟨m1, m2, m3, m4, m5, m6⟩ := mul_step ho hy h1 h2 h3 hc hv
 refine ⟨⟨k + 1, _, _, hk, m2, by simpa using hl, okD_set ok m1, m6, fun j a1 a2 => ?_⟩, rfl, rfl, rfl⟩
 rw [List.getElem?_set_ne (by omega)]
 exact hz j a1 (by simpa using a2)
theorem iL_set' {l : List Int} {n : Int} {k : Nat} (h : n = (k : Int)) (x y : Int) : (iL l).set n.toNat (subD (.int x) 0 (.int y)) = iL (l.set k y) := by
 subst h; exact iL_set l k x y
theorem iL_rep (n : Nat) : List.replicate n (D.int 0) = iL (List.replicate n 0) := by simp [iL]
set_option maxHeartbeats 1000000 in
theorem nprod_ev (a b : List Int) (ha : ∀ x ∈ a, okD x) (hb : ∀ x ∈ b, okD x) (la : a.length ≤ 64) (lb : b.length ≤ 64) : Ev E 221 [.sl (iL a), .sl (iL b)] (.d (natD (vl a * vl b))) := by
 have ea := iL_len a
 have eb := iL_len b
 have hsum : (((iL a).length : Int) + ((iL b).length : Int)) = ((a.length + b.length : Nat) : Int) := by rw [ea, eb]; omega
 have er := iL_rep (a.length + b.length)
 refine ye2 func221 ntmps221 fun _ _ _=>?_
 repeat' (first | refine yz ?_ | refine yx ?_ | (refine yy ?_ ?_ <;> intro _) | exact zD | exact zL)
 rw [hsum]
 repeat' (first | refine yz ?_ | (refine qS rfl ⟨rfl, by (show 8 * (a.length + b.length) ≤ 281474976710656; omega), by omega⟩ ?_) | refine yx ?_ | (refine yy ?_ ?_ <;> intro _) | exact zD | exact zL)
 refine go_loop_ (α := SPr a b) (fun p => ⟨[(0, .d (.sl (iL a))), (1, .d (.sl (iL b))), (5, .own 0), (17, .d (.sl (iL a))), (18, .d (.int (iL a).length)), (19, .d (.int p.i))], [.row 3 1 (iL p.out)]⟩) (fun p => a.length - p.i)
  ⟨0, List.replicate (a.length + b.length) 0, by omega, by simp, zeros_okD _, by rw [vl_zeros]; simp [vl], fun j h1 h2 => by rw [List.getElem?_replicate_of_lt (by simpa using h2)]⟩ (by rw [← er]; exact (zle 1)) ?_
 rintro ⟨i, out, hi, hl, ok, hv, hz⟩
 dsimp only
 rcases Nat.lt_or_ge i a.length with hlt | hge
 ·have g1 : decide ((i : Int) < ((iL a).length : Int)) = true := by rw [ea]; simpa using hlt
  have hx0 := List.getElem?_eq_getElem hlt
  generalize a[i] = x at hx0
  have hx := iL_get hx0
  have hxd := ha x (List.mem_of_getElem? hx0)
  repeat' (first | refine yz ?_ | refine yi (.int x) hx ?_ | refine yx ?_ | (refine yy ?_ ?_ <;> intro _) | exact zD | exact zL)
  refine go_loop_ (α := SPi a b i x) (fun p => ⟨[(0, .d (.sl (iL a))), (1, .d (.sl (iL b))), (5, .own 0), (6, .d (.int i)), (7, .d (.int x)), (8, .d (.int p.c)), (17, .d (.sl (iL a))), (18, .d (.int (iL a).length)), (19, .d (.int i)), (24, .d (.sl (iL b))), (25, .d (.int (iL b).length)), (26, .d (.int p.k))], [.row 3 1 (iL p.out)]⟩) (fun p => b.length - p.k)
   ⟨0, 0, out, by omega, ⟨by omega, by omega⟩, hl, ok, by simp [vl, hv], hz⟩ (zle 1) ?_
  rintro ⟨k, c, out, hk, hc, hl, ok, hv, hz⟩
  dsimp only
  rcases Nat.lt_or_ge k b.length with hlk | hgk
  ·have g2 : decide ((k : Int) < ((iL b).length : Int)) = true := by rw [eb]; simpa using hlk
   have hy0 := List.getElem?_eq_getElem hlk
   generalize b[k] = y at hy0
   have hy := iL_get hy0
   have hyd := hb y (List.mem_of_getElem? hy0)
   have ho0 := List.getElem?_eq_getElem (show i + k < out.length by omega)
   generalize out[i + k] = o at ho0
   have hod := ok o (List.mem_of_getElem? ho0)
   have ho : (iL out)[((i : Int) + (k : Int)).toNat]? = some (.int o) := by rw [← Int.natCast_add]; exact iL_get ho0
   have hol : (iL out).length = a.length + b.length := by rw [iL_len]; exact hl
   obtain ⟨m1, m2, m3, m4, m5, m6⟩ := mul_step ho0 hy0 hod hxd hyd hc hv
   obtain ⟨p, p1, p2, p3⟩ := SPi.next hlk ho0 hy0 hod hxd hyd hc hl ok hv hz
   have hst : (iL out).set ((i : Int) + (k : Int)).toNat (subD (.int o) 0 (.int (Int.tmod (c + (o + x * y)) 1000000000))) = iL p.out := by rw [p3]; exact iL_set' (by omega) _ _
   repeat' (first | refine yz ?_ | refine yi (.int y) hy ?_ | refine qW (.int o) rfl rfl rfl rfl rfl rfl ho rfl ?_ | refine qZ (.int o) rfl rfl rfl rfl rfl rfl ho rfl rfl rfl ?_ | refine yx ?_ | (refine yy ?_ ?_ <;> intro _) | exact zD | exact zL)
   refine go_stop ?_
   refine ⟨p, by omega, ?_⟩
   rw [p1, p2, ← hst]
   exact (zle 1)
  ·have g2 : decide ((k : Int) < ((iL b).length : Int)) = false := by rw [eb]; simp; omega
   obtain rfl : k = b.length := by omega
   obtain ⟨q1, q2, q3, q4⟩ := SPi.last rfl hx0 hc hl ok hv hz
   have ho : (iL out)[((i : Int) + ((iL b).length : Int)).toNat]? = some (.int 0) := by rw [eb, ← Int.natCast_add]; exact iL_get (hz _ (Nat.le_refl _) (by omega))
   have hol : (iL out).length = a.length + b.length := by rw [iL_len]; exact hl
   have hst : (iL out).set ((i : Int) + ((iL b).length : Int)).toNat (subD (.int 0) 0 (.int (0 + c))) = iL (out.set (i + b.length) c) := by rw [Int.zero_add]; exact iL_set' (by omega) _ _
   have hcd := hc.2
   have hc0 := hc.1
   repeat' (first | refine yz ?_ | refine qW (.int 0) rfl rfl rfl rfl rfl rfl ho rfl ?_ | refine qZ (.int 0) rfl rfl rfl rfl rfl rfl ho rfl rfl rfl ?_ | refine yx ?_ | (refine yy ?_ ?_ <;> intro _) | exact zD | exact zL)
   refine go_stop ?_
   refine ⟨⟨i + 1, out.set (i + b.length) c, by omega, q1, q2, q3, q4⟩, by dsimp only; omega, ?_⟩
   dsimp only
   rw [← hst]
   exact (zle 1)
 ·have g1 : decide ((i : Int) < ((iL a).length : Int)) = false := by rw [ea]; simp; omega
  obtain rfl : i = a.length := by omega
  rw [List.take_length] at hv
  rw [← hv]
  have h := ntrim_ev out ok (by omega)
  refine qA ?_
  refine go_frz 0 rfl ?_
  repeat' (first | refine yz ?_ | refine yp b303 h ?_ | refine yx ?_ | (refine yy ?_ ?_ <;> intro _) | exact zD | exact zL)
theorem nmul_ev (m n : Nat) (hm : (lim m).length ≤ 64) (hn : (lim n).length ≤ 64) : Ev E 128 [natD m, natD n] (.tup [natD (capN (m * n)), .bool (fit64 (m * n))]) := by
 have h1 := clean_ev m hm
 have h2 := clean_ev n hn
 have h3 := nprod_ev (lim m) (lim n) (lim_okD m) (lim_okD n) hm hn
 rw [vl_lim, vl_lim] at h3
 have h4 : Ev E 220 [natD (m * n)] (.tup [natD (capN (m * n)), .bool (fit64 (m * n))]) := by
  have hl : (lim (m * n)).length ≤ 128 := by
   refine lim_len.2 ?_
   have a1 := lim_len.1 hm
   have a2 := lim_len.1 hn
   have a3 : m * n < 1000000000 ^ 64 * 1000000000 ^ 64 := Nat.mul_lt_mul_of_lt_of_lt a1 a2
   rwa [← Nat.pow_add] at a3
  have := fits_ev (lim (m * n)) (lim_okD _) (by omega)
  rwa [vl_lim] at this
 refine ye2 func128 ntmps128 fun _ _ _=>?_
 repeat' (first | refine yz ?_ | refine yp b51 h1 ?_ | refine yp b51 h2 ?_ | refine yp b221 h3 ?_ | refine yp b220 h4 ?_ | refine yx ?_ | (refine yy ?_ ?_ <;> intro _) | exact zD | exact zL)
end Go.Proofs.YtenpjlghikohmaaGreatDoor
