/- The table of least products: bounds, bits, and how one row of it is found; The table of least products, by the program; The table of least products, by the specification; The bound for a query's rows and the least order that attains it, by the program; The bound for a query's rows and the least order that attains it, by the specification; The bound for walks along a sequence of types, by both texts. Conditions: each part's own, as it says. -/
import Derived.Test.YtenpjlghikohmaaGreatDoorGC
import Derived.Test.YtenpjlghikohmaaGreatDoorLB
set_option linter.unusedVariables false
set_option linter.unusedSimpArgs false
namespace Go.Proofs.YtenpjlghikohmaaGreatDoor
set_option maxRecDepth 4000
open Go Go.Abs Go.Val
theorem all_ones {n set : Nat} (h : set < 2 ^ n) (hf : ∀ i, i < n → set.testBit i = true) : set = 2 ^ n - 1 := by
 refine Nat.eq_of_testBit_eq fun j => ?_
 rw [Nat.testBit_two_pow_sub_one]
 rcases Nat.lt_or_ge j n with hlt | hge
 ·rw [hf j hlt]; simpa using hlt
 ·rw [Nat.testBit_lt_two_pow (Nat.lt_of_lt_of_le h (Nat.pow_le_pow_right (by omega) hge))]
  simp; omega
def curO (f : Nat → Nat → Nat) (n set i : Nat) : Option Nat := (List.range i).foldl (stepT (fun i => f set i * tb f n (set + 2 ^ i)) set) none
theorem curO_on {f : Nat → Nat → Nat} {n set i : Nat} (h : set.testBit i = true) : curO f n set (i + 1) = curO f n set i := by
 unfold curO
 rw [List.range_succ, List.foldl_append, List.foldl_cons, List.foldl_nil]
 simp only [stepT, h, cond_true]
theorem curO_off {f : Nat → Nat → Nat} {n set i : Nat} (h : set.testBit i = false) : curO f n set (i + 1) = some (minO (curO f n set i) (f set i * tb f n (set + 2 ^ i))) := by
 unfold curO
 rw [List.range_succ, List.foldl_append, List.foldl_cons, List.foldl_nil]
 simp only [stepT, h, cond_false]
theorem curO_all (f : Nat → Nat → Nat) {n set : Nat} (h : set < 2 ^ n) : tb f n set = (curO f n set n).getD 1 := tb_eq f h
theorem curO_none {f : Nat → Nat → Nat} {n set : Nat} : ∀ i, curO f n set i = none → ∀ j, j < i → set.testBit j = true
 | 0, _, j, hj => by omega
 | i + 1, h, j, hj => by
  cases hb : set.testBit i with
  | false => rw [curO_off hb] at h; cases h
  | true =>
   rw [curO_on hb] at h
   rcases Nat.lt_succ_iff_lt_or_eq.1 hj with h1 | rfl
   ·exact curO_none i h j h1
   ·exact hb
structure TabOK (f : Nat → Nat → Nat) (n m : Nat) (bs : List D) : Prop where
 len : bs.length = 2 ^ n
 at_ : ∀ k, m ≤ k → k < 2 ^ n → bs[k]? = some (natD (tb f n k))
 sl : ∀ (k : Nat) d, bs[k]? = some d → ∃ l, d = .sl l
theorem set_sl {bs : List D} (h : ∀ (k : Nat) d, bs[k]? = some d → ∃ l, d = .sl l) (m : Nat) (l : List D) : ∀ (k : Nat) d, (bs.set m (.sl l))[k]? = some d → ∃ l, d = .sl l := by
 intro k d hd
 rw [List.getElem?_set] at hd
 split at hd
 ·split at hd
  ·cases hd; exact ⟨l, rfl⟩
  ·cases hd
 ·exact h k d hd
def tabD (f : Nat → Nat → Nat) (n : Nat) : List D := (List.range (2 ^ n)).map fun k => natD (tb f n k)
theorem TabOK.all {f : Nat → Nat → Nat} {n : Nat} {bs : List D} (h : TabOK f n 0 bs) : bs = tabD f n := by
 refine List.ext_getElem? fun k => ?_
 rcases Nat.lt_or_ge k (2 ^ n) with hlt | hge
 ·rw [h.at_ k (by omega) hlt, tabD, List.getElem?_map, List.getElem?_range hlt]
  rfl
 ·rw [List.getElem?_eq_none (by rw [h.len]; exact hge), List.getElem?_eq_none (by rw [tabD, List.length_map, List.length_range]; exact hge)]
theorem TabOK.set {f : Nat → Nat → Nat} {n m : Nat} {bs : List D} (h : TabOK f n (m + 1) bs) (hm : m < 2 ^ n) : TabOK f n m (bs.set m (natD (tb f n m))) := by
 refine ⟨by rw [List.length_set]; exact h.len, fun k h1 h2 => ?_, set_sl h.sl _ _⟩
 rw [List.getElem?_set]
 by_cases e : m = k
 ·subst e
  rw [if_pos rfl, if_pos (by rw [h.len]; exact hm)]
 ·rw [if_neg e]
  exact h.at_ k (by omega) h2
theorem TabOK.keep {f : Nat → Nat → Nat} {n m : Nat} {bs : List D} (h : TabOK f n (m + 1) bs) (l : List D) : TabOK f n (m + 1) (bs.set m (.sl l)) := by
 refine ⟨by rw [List.length_set]; exact h.len, fun k h1 h2 => ?_, set_sl h.sl _ _⟩
 rw [List.getElem?_set_ne (by omega)]
 exact h.at_ k h1 h2
structure CurOK (f : Nat → Nat → Nat) (n m i : Nat) (bs : List D) : Prop where
 tab : TabOK f n (m + 1) bs
 cur : ∀ v, curO f n m i = some v → bs[m]? = some (natD v)
theorem CurOK.done {f : Nat → Nat → Nat} {n m : Nat} {bs : List D} (h : CurOK f n m n bs) (hm : m + 1 < 2 ^ n) : TabOK f n m bs := by
 refine ⟨h.tab.len, fun k h1 h2 => ?_, h.tab.sl⟩
 rcases Nat.lt_or_ge m k with hlt | hge
 ·exact h.tab.at_ k hlt h2
 ·obtain rfl : k = m := by omega
  rw [curO_all f h2]
  cases hc : curO f n k n with
  | none =>
   have := all_ones h2 (curO_none n hc)
   omega
  | some v => exact h.cur v hc
attribute [local irreducible] Ev EvO EvS ExtEv HasBody PGo RGo SGo go
theorem CurOK.start {f : Nat → Nat → Nat} {n k : Nat} {bs : List D} (h : TabOK f n (k + 1) bs) : CurOK f n k 0 bs := ⟨h, fun v hv => by simp [curO] at hv⟩
theorem CurOK.on {f : Nat → Nat → Nat} {n k i : Nat} {bs : List D} (h : CurOK f n k i bs) (hb : k.testBit i = true) : CurOK f n k (i + 1) bs := ⟨h.tab, fun v hv => h.cur v (by rw [← curO_on hb]; exact hv)⟩
theorem CurOK.put {f : Nat → Nat → Nat} {n k i x : Nat} {bs : List D} (h : CurOK f n k i bs) (hk : k < 2 ^ n) (hx : curO f n k (i + 1) = some x) : CurOK f n k (i + 1) (bs.set k (natD x)) := by
 refine ⟨h.tab.keep _, fun v hv => ?_⟩
 rw [hx] at hv
 cases hv
 rw [List.getElem?_set, if_pos rfl, if_pos (by rw [h.tab.len]; exact hk)]
abbrev oCJ (c : CJ) : AObj := .var 28 (.w (.d (encCJ c)))
structure CurR (f : Nat → Nat → Nat) (n m i : Nat) (bs : List D) : Prop where
 tab : TabOK f n (m + 1) bs
 cur : bs[m]? = some (natD ((curO f n m i).getD 1))
theorem CurR.done {f : Nat → Nat → Nat} {n m : Nat} {bs : List D} (h : CurR f n m n bs) : TabOK f n m bs := by
 refine ⟨h.tab.len, fun k h1 h2 => ?_, h.tab.sl⟩
 rcases Nat.lt_or_ge m k with hlt | hge
 ·exact h.tab.at_ k hlt h2
 ·obtain rfl : k = m := by omega
  rw [curO_all f h2]
  exact h.cur
theorem CurR.start {f : Nat → Nat → Nat} {n k : Nat} {bs : List D} (h : TabOK f n (k + 1) bs) (hk : k < 2 ^ n) : CurR f n k 0 (bs.set k (natD 1)) :=
 ⟨h.keep _, by rw [List.getElem?_set, if_pos rfl, if_pos (by rw [h.len]; exact hk)]; rfl⟩
theorem CurR.on {f : Nat → Nat → Nat} {n k i : Nat} {bs : List D} (h : CurR f n k i bs) (hb : k.testBit i = true) : CurR f n k (i + 1) bs := ⟨h.tab, by rw [curO_on hb]; exact h.cur⟩
theorem CurR.put {f : Nat → Nat → Nat} {n k i x : Nat} {bs : List D} (h : CurR f n k i bs) (hk : k < 2 ^ n) (hx : curO f n k (i + 1) = some x) : CurR f n k (i + 1) (bs.set k (natD x)) :=
 ⟨h.tab.keep _, by rw [List.getElem?_set, if_pos rfl, if_pos (by rw [h.tab.len]; exact hk), hx]; rfl⟩
def cndF (f : Nat → Nat → Nat) (n set p i : Nat) : Bool := !set.testBit i && (p * f set i * tb f n (set + 2 ^ i) == tb f n 0)
structure SOi (f : Nat → Nat → Nat) (n set p : Nat) where
 i : Nat
 hi : i ≤ n
 no : ∀ j, j < i → cndF f n set p j = false
theorem SOi.next {f : Nat → Nat → Nat} {n set p i : Nat} (h : ∀ j, j < i → cndF f n set p j = false) (hc : cndF f n set p i = false) : ∀ j, j < i + 1 → cndF f n set p j = false := by
 intro j hj
 rcases Nat.lt_succ_iff_lt_or_eq.1 hj with h1 | rfl
 ·exact h j h1
 ·exact hc
end Go.Proofs.YtenpjlghikohmaaGreatDoor
