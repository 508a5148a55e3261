/- The specification's sums of wide numbers. Conditions: fourteen digits each. -/
import Derived.Test.YtpjnngfjbcjikaaDoorM15
import Derived.Test.YtpjnngfjbcjikaaDoorEng14
namespace Go.Proofs.YtpjnngfjbcjikaaDoor
open Go Go.Abs Go.Val
attribute [local irreducible] go SGo HasBody Ev

/-- The state of a sum (s = 1) or a difference (s = -1) of wide numbers. -/
structure SPM (x y : List Int) (s : Int) where
  k : Nat
  carry : Int
  out : List Int
  hk : k ≤ 14
  hca : carry = 0 ∨ carry = s
  ok : wok out
  hl : out.length = 14
  hz : ∀ j, k ≤ j → j < 14 → out[j]? = some 0
  hv : wv out + pw k * (carry + wv (x.drop k) + s * wv (y.drop k)) = wv x + s * wv y
theorem spm_next {x y : List Int} {s : Int} (p : SPM x y s) (hk : p.k < 14) {a b r q : Int} (ha : x[p.k]? = some a) (hb : y[p.k]? = some b) (he : p.carry + a + s * b = r + 1000 * q) (hr : 0 ≤ r ∧ r ≤ 999) (hq : q = 0 ∨ q = s) :
    ∃ p' : SPM x y s, p'.k = p.k + 1 ∧ p'.carry = q ∧ p'.out = p.out.set p.k r := by
  refine ⟨⟨p.k + 1, q, p.out.set p.k r, by omega, hq, wok_set p.ok _ _ hr, by simpa using p.hl, fun j h1 h2 => ?_, ?_⟩, rfl, rfl, rfl⟩
  · rw [List.getElem?_set_ne (by omega)]
    exact p.hz j (by omega) h2
  · rw [wv_set p.out p.k 0 r (p.hz p.k (Nat.le_refl _) hk), ← p.hv, drop_at ha, drop_at hb]
    simp only [wv, pw]
    have e1 : s * (b + 1000 * wv (List.drop (p.k + 1) y)) = s * b + 1000 * (s * wv (List.drop (p.k + 1) y)) := by rw [Int.mul_add, Int.mul_left_comm]
    have e2 : p.carry + (a + 1000 * wv (List.drop (p.k + 1) x)) + s * (b + 1000 * wv (List.drop (p.k + 1) y)) = r + 1000 * (q + wv (List.drop (p.k + 1) x) + s * wv (List.drop (p.k + 1) y)) := by
      rw [e1]
      omega
    rw [e2, Int.mul_add (pw p.k) r, ← Int.mul_assoc (pw p.k) 1000, Int.mul_comm (pw p.k) 1000, Int.sub_zero, Int.add_assoc]
theorem wv_bnd : ∀ (l : List Int), wok l → wv l < pw l.length
  | [], _ => by decide
  | d :: r, h => by
    have h1 := h d (by simp)
    have h2 := wv_bnd r fun x hx => h x (by simp [hx])
    simp only [wv, List.length_cons, pw]
    omega
theorem spm_end {x y : List Int} {s : Int} (p : SPM x y s) (hx : x.length = 14) (hy : y.length = 14) (hk : p.k = 14) (hs : s = 1 ∨ s = -1) (h0 : 0 ≤ wv x + s * wv y) (h1 : wv x + s * wv y < pw 14) : p.out = wdig 14 (wv x + s * wv y) := by
  have hb := wv_bnd p.out p.ok
  rw [p.hl] at hb
  have hv := p.hv
  rw [hk, List.drop_eq_nil_of_le (by omega), List.drop_eq_nil_of_le (by omega)] at hv
  simp only [wv, Int.mul_zero, Int.add_zero] at hv
  have hp : pw 14 = 1000000000000000000000000000000000000000000 := by decide
  rw [hp] at h1 hb hv
  have hn := wv_nonneg p.out p.ok
  refine wdig_of p.ok p.hl ?_
  rcases p.hca with h | h <;> rcases hs with h' | h' <;> rw [h] at hv <;> (try rw [h'] at hv h0 h1 ⊢) <;> omega
def spm0 (x y : List Int) (s : Int) : SPM x y s := ⟨0, 0, List.replicate 14 0, by omega, .inl rfl, fun d hd => by rw [(List.mem_replicate.1 hd).2]; omega, by simp, fun j _ h => by rw [List.getElem?_replicate, if_pos h], by
  have : wv (List.replicate 14 0) = 0 := by decide
  rw [this]
  simp [pw]⟩
theorem get_dig {x : List Int} (hx : wok x) (hl : x.length = 14) {k : Nat} (hk : k < 14) : ∃ a, x[k]? = some a ∧ (encI x)[((k : Int)).toNat]? = some (.int a) ∧ 0 ≤ a ∧ a ≤ 999 := by
  obtain ⟨a, ha⟩ := get14 hl hk
  exact ⟨a, ha, encI_get (by rw [Int.toNat_natCast]; exact ha), hx a (List.mem_of_getElem? ha)⟩
theorem wv_split : ∀ (l : List Int) (k : Nat), k ≤ l.length → wv l = wv (l.take k) + pw k * wv (l.drop k)
  | l, 0, _ => by simp [wv, pw]
  | [], k + 1, h => by simp at h
  | d :: r, k + 1, h => by
    simp only [List.take_succ_cons, List.drop_succ_cons, wv, pw]
    rw [wv_split r k (by simpa using h), Int.mul_add, Int.mul_assoc]
    omega
theorem wv_lt {x y : List Int} (hx : wok x) (lx : x.length = 14) (ly : y.length = 14) (hy : wok y) {k : Nat} (hk : k < 14) {a b : Int} (ha : x[k]? = some a) (hb : y[k]? = some b) (he : x.drop (k + 1) = y.drop (k + 1)) (hab : a < b) : wv x < wv y := by
  rw [wv_split x k (by omega), wv_split y k (by omega), drop_at ha, drop_at hb, he]
  simp only [wv]
  have h1 := wv_bnd (x.take k) fun d hd => hx d (List.mem_of_mem_take hd)
  have h2 := wv_nonneg (y.take k) fun d hd => hy d (List.mem_of_mem_take hd)
  rw [List.length_take, lx, Nat.min_eq_left (by omega)] at h1
  have h3 : pw k * (a + 1000 * wv (List.drop (k + 1) y)) + pw k ≤ pw k * (b + 1000 * wv (List.drop (k + 1) y)) := by
    have := Int.mul_le_mul_of_nonneg_left (show a + 1000 * wv (List.drop (k + 1) y) + 1 ≤ b + 1000 * wv (List.drop (k + 1) y) by omega) (show 0 ≤ pw k by have := pw_pos k; omega)
    rw [Int.mul_add _ _ 1, Int.mul_one] at this
    exact this
  omega
structure SO (x y : List Int) where
  n : Nat
  hn : n ≤ 14
  he : x.drop n = y.drop n
end Go.Proofs.YtpjnngfjbcjikaaDoor
