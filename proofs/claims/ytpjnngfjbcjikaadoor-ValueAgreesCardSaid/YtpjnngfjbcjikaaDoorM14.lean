/- The specification's wide numbers: their value, and what times, plus, minus, order and sum come to. Conditions: the bounds of each lemma. -/
import Derived.Test.YtpjnngfjbcjikaaDoorM13
namespace Go.Proofs.YtpjnngfjbcjikaaDoor
open Go Go.Abs Go.Val
attribute [local irreducible] go SGo HasBody Ev

/-- A number in base 1000, the least digit first. -/
def wv : List Int → Int
  | [] => 0
  | d :: r => d + 1000 * wv r
def wok (l : List Int) : Prop := ∀ d ∈ l, 0 ≤ d ∧ d ≤ 999
def encI (l : List Int) : List D := l.map fun n => .int n
theorem encI_get {l : List Int} {i : Nat} {x : Int} (h : l[i]? = some x) : (encI l)[i]? = some (.int x) := by
  unfold encI
  rw [List.getElem?_map, h]
  rfl
theorem encI_len (l : List Int) : (encI l).length = l.length := by simp [encI]
def pw : Nat → Int
  | 0 => 1
  | k + 1 => 1000 * pw k
theorem pw_pos : ∀ k, 1 ≤ pw k
  | 0 => Int.le_refl _
  | k + 1 => by have := pw_pos k; simp only [pw]; omega
theorem pw_add (m : Nat) : ∀ k, pw (m + k) = pw m * pw k
  | 0 => by simp [pw]
  | k + 1 => by
    rw [← Nat.add_assoc]
    simp only [pw]
    rw [pw_add m k, Int.mul_left_comm]
theorem pw_bound {k m : Nat} {c : Int} (hc : 1 ≤ c) (h : c * pw k ≤ pw m) : k ≤ m := by
  rcases Nat.lt_or_ge m k with hlt | hge
  · exfalso
    obtain ⟨j, rfl⟩ : ∃ j, k = (m + 1) + j := ⟨k - (m + 1), by omega⟩
    have h1 := pw_pos m
    have h2 := pw_pos j
    have h3 : pw (m + 1) ≤ pw (m + 1) * pw j := by
      have := Int.mul_le_mul_of_nonneg_left h2 (show 0 ≤ pw (m + 1) by have := pw_pos (m + 1); omega)
      rwa [Int.mul_one] at this
    rw [pw_add] at h
    have h4 : pw (m + 1) * pw j ≤ c * (pw (m + 1) * pw j) := by
      have := Int.mul_le_mul_of_nonneg_right hc (show 0 ≤ pw (m + 1) * pw j by have := pw_pos (m + 1); omega)
      rwa [Int.one_mul] at this
    simp only [pw] at h3 h4 h
    omega
  · exact hge
theorem wv_set : ∀ (l : List Int) (k : Nat) (x y : Int), l[k]? = some x → wv (l.set k y) = wv l + pw k * (y - x)
  | [], k, x, y, h => by simp at h
  | d :: r, 0, x, y, h => by simp at h; subst h; simp only [List.set_cons_zero, wv, pw]; omega
  | d :: r, k + 1, x, y, h => by
    have ih := wv_set r k x y (by simpa using h)
    simp only [List.set_cons_succ, wv, ih, pw]
    rw [Int.mul_add, ← Int.mul_assoc]
    omega
theorem wv_nonneg : ∀ (l : List Int), wok l → 0 ≤ wv l
  | [], _ => Int.le_refl _
  | d :: r, h => by
    have h1 := (h d (by simp)).1
    have h2 := wv_nonneg r fun x hx => h x (by simp [hx])
    simp only [wv]
    omega
theorem wok_set {l : List Int} (h : wok l) (k : Nat) (y : Int) (hy : 0 ≤ y ∧ y ≤ 999) : wok (l.set k y) := fun d hd => by
  rcases List.mem_or_eq_of_mem_set hd with h1 | h1
  · exact h d h1
  · rw [h1]; exact hy
def sgn (n : Int) : Int := if n < 0 then -1 else if n > 0 then 1 else 0
structure TO (a0 b : Int) where
  i : Nat
  a : Int
  out : List Int
  ha : 0 ≤ a
  hb : a * pw i ≤ 1000000000000000
  ok : wok out
  hl : out.length = 14
  hv : wv out + pw i * (a * b) = a0 * b
structure TI (a0 b d a' : Int) (i : Nat) where
  k : Nat
  c : Int
  carry : Int
  out : List Int
  hk : k ≤ 11
  hc : 0 ≤ c
  hcb : ∃ j, k = i + j ∧ c * pw j ≤ 1000000000000000
  hca : 0 ≤ carry ∧ carry ≤ 999
  ok : wok out
  hl : out.length = 14
  hv : wv out + pw k * (d * c + carry) + pw (i + 1) * (a' * b) = a0 * b
theorem get14 {out : List Int} (hl : out.length = 14) {k : Nat} (hk : k < 14) : ∃ x, out[k]? = some x := ⟨out[k], List.getElem?_eq_getElem (by omega)⟩
theorem encI_set (l : List Int) (k : Nat) (y : Int) : (encI l).set k (.int y) = encI (l.set k y) := by simp [encI, List.map_set]
theorem ti_step {out : List Int} {k i : Nat} {x d c carry a' b T : Int} (hx : out[k]? = some x) (h0 : 0 ≤ carry + x + d * (c % 1000)) (hc : 0 ≤ c)
    (hv : wv out + pw k * (d * c + carry) + pw (i + 1) * (a' * b) = T) :
    wv (out.set k ((carry + x + d * (c % 1000)) % 1000)) + pw (k + 1) * (d * (c / 1000) + (carry + x + d * (c % 1000)) / 1000) + pw (i + 1) * (a' * b) = T := by
  rw [wv_set out k x _ hx, ← hv]
  have e1 : c = c % 1000 + 1000 * (c / 1000) := by omega
  have e2 : carry + x + d * (c % 1000) = (carry + x + d * (c % 1000)) % 1000 + 1000 * ((carry + x + d * (c % 1000)) / 1000) := by omega
  generalize hq : (carry + x + d * (c % 1000)) / 1000 = q at *
  generalize hr : (carry + x + d * (c % 1000)) % 1000 = r at *
  have e3 : d * c = d * (c % 1000) + 1000 * (d * (c / 1000)) := by
    rw [← Int.mul_left_comm, ← Int.mul_add, ← e1]
  have e4 : pw (k + 1) * (d * (c / 1000) + q) = pw k * (1000 * (d * (c / 1000)) + 1000 * q) := by
    simp only [pw]
    rw [Int.mul_comm 1000 (pw k), Int.mul_assoc, Int.mul_add 1000]
  have e5 : pw k * (r - x) + pw k * (1000 * (d * (c / 1000)) + 1000 * q) = pw k * (d * c + carry) := by
    rw [← Int.mul_add]
    congr 1
    omega
  rw [e4]
  omega
theorem pw5 : pw 5 = 1000000000000000 := by decide
/-- The digits of a number, so many. -/
def wdig : Nat → Int → List Int
  | 0, _ => []
  | k + 1, n => n % 1000 :: wdig k (n / 1000)
theorem wdig_wv : ∀ (l : List Int), wok l → wdig l.length (wv l) = l
  | [], _ => rfl
  | d :: r, h => by
    have hd := h d (by simp)
    simp only [List.length_cons, wdig, wv]
    rw [show (d + 1000 * wv r) % 1000 = d from by omega, show (d + 1000 * wv r) / 1000 = wv r from by omega, wdig_wv r fun x hx => h x (by simp [hx])]
theorem wdig_of {l : List Int} {n : Int} (h : wok l) (hl : l.length = 14) (hv : wv l = n) : l = wdig 14 n := by
  rw [← hv, ← hl, wdig_wv l h]
theorem wdig_len : ∀ (k : Nat) (n : Int), (wdig k n).length = k
  | 0, _ => rfl
  | k + 1, n => by simp [wdig, wdig_len k]
theorem wdig_ok : ∀ (k : Nat) (n : Int), wok (wdig k n)
  | 0, _ => by intro d hd; simp [wdig] at hd
  | k + 1, n => by
    intro d hd
    simp only [wdig, List.mem_cons] at hd
    rcases hd with h | h
    · subst h; omega
    · exact wdig_ok k _ d h
theorem wv_wdig : ∀ (k : Nat) (n : Int), 0 ≤ n → n < pw k → wv (wdig k n) = n
  | 0, n, h0, h1 => by simp only [pw] at h1; simp only [wdig, wv]; omega
  | k + 1, n, h0, h1 => by
    simp only [pw] at h1
    simp only [wdig, wv]
    rw [wv_wdig k (n / 1000) (by omega) (by omega)]
    omega
end Go.Proofs.YtpjnngfjbcjikaaDoor
