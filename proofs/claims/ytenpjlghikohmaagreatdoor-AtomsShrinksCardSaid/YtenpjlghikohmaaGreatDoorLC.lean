/- The table of least products: bounds, bits, and how one row of it is found; The table of least products, by the program; The table of least products, by the specification; The bound for a query's rows and the least order that attains it, by the program; The bound for a query's rows and the least order that attains it, by the specification; The bound for walks along a sequence of types, by both texts. Conditions: each part's own, as it says. -/
import Derived.Test.YtenpjlghikohmaaGreatDoorGC
import Derived.Test.YtenpjlghikohmaaGreatDoorLB
set_option linter.unusedVariables false
set_option linter.unusedSimpArgs false
namespace Go.Proofs.YtenpjlghikohmaaGreatDoor
set_option maxRecDepth 4000
open Go Go.Abs Go.Val
theorem dk3 {n set : Nat} (h : set < 2 ^ n) (hf : ∀ i, i < n → set.testBit i = true) : set = 2 ^ n - 1 := by
 refine Nat.eq_of_testBit_eq fun j => ?_
 rw [Nat.testBit_two_pow_sub_one];rcases ez6 j n with hlt | hge
 ·rw [hf j hlt]; simpa using hlt
 ·rw [Nat.testBit_lt_two_pow (fj1 h (Nat.pow_le_pow_right (by omega) hge))];simp; omega
def dk4 (f : Nat → Nat → Nat) (n set i : Nat) : Option Nat := (List.range i).foldl (di3 (fun i => f set i * tb f n (set + 2 ^ i)) set) none
theorem dk5 {f : Nat → Nat → Nat} {n set i : Nat} (h : set.testBit i = true) : dk4 f n set (i + 1) = dk4 f n set i := by
 unfold dk4;rw [List.range_succ, List.foldl_append, ff3, List.foldl_nil];simp only [di3, h, cond_true]
theorem dk6 {f : Nat → Nat → Nat} {n set i : Nat} (h : set.testBit i = false) : dk4 f n set (i + 1) = some (minO (dk4 f n set i) (f set i * tb f n (set + 2 ^ i))) := by
 unfold dk4;rw [List.range_succ, List.foldl_append, ff3, List.foldl_nil];simp only [di3, h, cond_false]
theorem dk7 (f : Nat → Nat → Nat) {n set : Nat} (h : set < 2 ^ n) : tb f n set = (dk4 f n set n).getD 1 := tb_eq f h
theorem dk8 {f : Nat → Nat → Nat} {n set : Nat} : ∀ i, dk4 f n set i = none → ∀ j, j < i → set.testBit j = true
 | 0, _, j, hj => by omega
 | i + 1, h, j, hj => by
  cases hb : set.testBit i with
  | false => rw [dk6 hb] at h; cases h
  | true =>
   rw [dk5 hb] at h;rcases fl7.1 hj with h1 | rfl
   ·exact dk8 i h j h1
   ·exact hb
structure dk9 (f : Nat → Nat → Nat) (n m : Nat) (bs : List D) : Prop where
 len : bs.length = 2 ^ n
 at_ : ∀ k, m ≤ k → k < 2 ^ n → bs[k]? = some (dj3 (tb f n k))
 sl : ∀ (k : Nat) d, bs[k]? = some d → ∃ l, d = .sl l
theorem dl0 {bs : List D} (h : ∀ (k : Nat) d, bs[k]? = some d → ∃ l, d = .sl l) (m : Nat) (l : List D) : ∀ (k : Nat) d, (bs.set m (.sl l))[k]? = some d → ∃ l, d = .sl l := by
 intro k d hd;rw [fd2] at hd;split at hd
 ·split at hd
  ·cases hd; exact ⟨l, rfl⟩
  ·cases hd
 ·exact h k d hd
def tabD (f : Nat → Nat → Nat) (n : Nat) : List D := (List.range (2 ^ n)).map fun k => dj3 (tb f n k)
theorem dk9.all {f : Nat → Nat → Nat} {n : Nat} {bs : List D} (h : dk9 f n 0 bs) : bs = tabD f n := by
 refine ff4 fun k => ?_
 rcases ez6 k (2 ^ n) with hlt | hge
 ·rw [h.at_ k (by omega) hlt, tabD, ez8, ff0 hlt];rfl
 ·rw [fc8 (by rw [h.len]; exact hge), fc8 (by rw [tabD, fb8, List.length_range]; exact hge)]
theorem dk9.set {f : Nat → Nat → Nat} {n m : Nat} {bs : List D} (h : dk9 f n (m + 1) bs) (hm : m < 2 ^ n) : dk9 f n m (bs.set m (dj3 (tb f n m))) := by
 refine ⟨by rw [List.length_set]; exact h.len, fun k h1 h2 => ?_, dl0 h.sl _ _⟩;rw [fd2]
 by_cases e : m = k
 ·subst e;rw [if_pos rfl, if_pos (by rw [h.len]; exact hm)]
 ·rw [if_neg e];exact h.at_ k (by omega) h2
theorem dk9.keep {f : Nat → Nat → Nat} {n m : Nat} {bs : List D} (h : dk9 f n (m + 1) bs) (l : List D) : dk9 f n (m + 1) (bs.set m (.sl l)) := by
 refine ⟨by rw [List.length_set]; exact h.len, fun k h1 h2 => ?_, dl0 h.sl _ _⟩;rw [fk2 (by omega)];exact h.at_ k h1 h2
structure dl1 (f : Nat → Nat → Nat) (n m i : Nat) (bs : List D) : Prop where
 tab : dk9 f n (m + 1) bs
 cur : ∀ v, dk4 f n m i = some v → bs[m]? = some (dj3 v)
theorem dl1.done {f : Nat → Nat → Nat} {n m : Nat} {bs : List D} (h : dl1 f n m n bs) (hm : m + 1 < 2 ^ n) : dk9 f n m bs := by
 refine ⟨h.tab.len, fun k h1 h2 => ?_, h.tab.sl⟩;rcases ez6 m k with hlt | hge
 ·exact h.tab.at_ k hlt h2
 ·obtain rfl : k = m := by omega
  rw [dk7 f h2]
  cases hc : dk4 f n k n with
  | none =>
   have := dk3 h2 (dk8 n hc);omega
  | some v => exact h.cur v hc
attribute [local irreducible] Ev EvO EvS aw2 an2 PGo RGo SGo go
theorem dl1.start {f : Nat → Nat → Nat} {n k : Nat} {bs : List D} (h : dk9 f n (k + 1) bs) : dl1 f n k 0 bs := ⟨h, fun v hv => by simp [dk4] at hv⟩
theorem dl1.on {f : Nat → Nat → Nat} {n k i : Nat} {bs : List D} (h : dl1 f n k i bs) (hb : k.testBit i = true) : dl1 f n k (i + 1) bs := ⟨h.tab, fun v hv => h.cur v (by rw [← dk5 hb]; exact hv)⟩
theorem dl1.put {f : Nat → Nat → Nat} {n k i x : Nat} {bs : List D} (h : dl1 f n k i bs) (hk : k < 2 ^ n) (hx : dk4 f n k (i + 1) = some x) : dl1 f n k (i + 1) (bs.set k (dj3 x)) := by
 refine ⟨h.tab.keep _, fun v hv => ?_⟩;rw [hx] at hv
 cases hv
 rw [fd2, if_pos rfl, if_pos (by rw [h.tab.len]; exact hk)]
abbrev oCJ (c : CJ) : aa5 := .var 28 (.w (.d (di8 c)))
structure dl2 (f : Nat → Nat → Nat) (n m i : Nat) (bs : List D) : Prop where
 tab : dk9 f n (m + 1) bs
 cur : bs[m]? = some (dj3 ((dk4 f n m i).getD 1))
theorem dl2.done {f : Nat → Nat → Nat} {n m : Nat} {bs : List D} (h : dl2 f n m n bs) : dk9 f n m bs := by
 refine ⟨h.tab.len, fun k h1 h2 => ?_, h.tab.sl⟩;rcases ez6 m k with hlt | hge
 ·exact h.tab.at_ k hlt h2
 ·obtain rfl : k = m := by omega
  rw [dk7 f h2];exact h.cur
theorem dl2.start {f : Nat → Nat → Nat} {n k : Nat} {bs : List D} (h : dk9 f n (k + 1) bs) (hk : k < 2 ^ n) : dl2 f n k 0 (bs.set k (dj3 1)) :=
 ⟨h.keep _, by rw [fd2, if_pos rfl, if_pos (by rw [h.len]; exact hk)]; rfl⟩
theorem dl2.on {f : Nat → Nat → Nat} {n k i : Nat} {bs : List D} (h : dl2 f n k i bs) (hb : k.testBit i = true) : dl2 f n k (i + 1) bs := ⟨h.tab, by rw [dk5 hb]; exact h.cur⟩
theorem dl2.put {f : Nat → Nat → Nat} {n k i x : Nat} {bs : List D} (h : dl2 f n k i bs) (hk : k < 2 ^ n) (hx : dk4 f n k (i + 1) = some x) : dl2 f n k (i + 1) (bs.set k (dj3 x)) :=
 ⟨h.tab.keep _, by rw [fd2, if_pos rfl, if_pos (by rw [h.tab.len]; exact hk), hx]; rfl⟩
def cndF (f : Nat → Nat → Nat) (n set p i : Nat) : Bool := !set.testBit i && (p * f set i * tb f n (set + 2 ^ i) == tb f n 0)
structure SOi (f : Nat → Nat → Nat) (n set p : Nat) where
 i : Nat
 hi : i ≤ n
 no : ∀ j, j < i → cndF f n set p j = false
theorem SOi.next {f : Nat → Nat → Nat} {n set p i : Nat} (h : ∀ j, j < i → cndF f n set p j = false) (hc : cndF f n set p i = false) : ∀ j, j < i + 1 → cndF f n set p j = false := by
 intro j hj;rcases fl7.1 hj with h1 | rfl
 ·exact h j h1
 ·exact hc
end Go.Proofs.YtenpjlghikohmaaGreatDoor
