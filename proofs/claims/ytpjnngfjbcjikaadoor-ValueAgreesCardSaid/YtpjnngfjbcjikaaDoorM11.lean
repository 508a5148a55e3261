/- What the specification's weighing of values comes to. Conditions: the budget is between -1 and 2^40. -/
import Derived.Test.YtpjnngfjbcjikaaDoorM10
namespace Go.Proofs.YtpjnngfjbcjikaaDoor
open Go Go.Abs Go.Val
attribute [local irreducible] go SGo HasBody Ev

def weighL (f : V → Int → Int) : List V → Int → Int
  | [], left => left
  | x :: r, left => bif decide (left ≥ 0) then weighL f r (f x left) else left
def weighF : Nat → V → Int → Int
  | 0, _, _ => -1
  | m + 1, v, left => weighL (weighF m) v.l (left - 1 - (v.s.size : Int).tdiv 50)
/-- What is left is never more than it was. -/
theorem weighL_le (f : V → Int → Int) (h : ∀ x left, 0 ≤ left → f x left ≤ left) : ∀ (l : List V) (left : Int), weighL f l left ≤ left
  | [], left => Int.le_refl _
  | x :: r, left => by
    simp only [weighL]
    cases hd : decide (left ≥ 0) with
    | false => exact Int.le_refl _
    | true =>
      have h0 : left ≥ 0 := of_decide_eq_true hd
      exact Int.le_trans (weighL_le f h r _) (h x left h0)
theorem weighF_le : ∀ (m : Nat) (v : V) (left : Int), 0 ≤ left → weighF m v left ≤ left
  | 0, v, left, h => by simp only [weighF]; omega
  | m + 1, v, left, h => by
    simp only [weighF]
    have h1 := weighL_le (weighF m) (fun x l h => weighF_le m x l h) v.l (left - 1 - (v.s.size : Int).tdiv 50)
    have h2 := (tdiv_bnd (a := (v.s.size : Int)) (b := 50) (by omega)).1 (by omega)
    omega
theorem weighL_ge (f : V → Int → Int) : ∀ (l : List V), (∀ x ∈ l, ∀ left, 0 ≤ left → -300000000000000000 ≤ f x left) → ∀ (left : Int), -300000000000000000 ≤ left → -300000000000000000 ≤ weighL f l left
  | [], _, left, hl => hl
  | x :: r, h, left, hl => by
    simp only [weighL]
    cases hd : decide (left ≥ 0) with
    | false => exact hl
    | true =>
      have h0 : left ≥ 0 := of_decide_eq_true hd
      exact weighL_ge f r (fun y hy => h y (by simp [hy])) _ (h x (by simp) left h0)
theorem size_div {n : Nat} (h : n ≤ 9223372036854775807) : 0 ≤ (n : Int).tdiv 50 ∧ (n : Int).tdiv 50 ≤ 200000000000000000 := by
  rw [Int.tdiv_eq_ediv_of_nonneg (by omega)]
  omega
theorem weighF_ge : ∀ (m : Nat) (v : V) (left : Int), Fit (enc v) → 0 ≤ left → -300000000000000000 ≤ weighF m v left
  | 0, v, left, _, h => by simp only [weighF]; omega
  | m + 1, v, left, hf, h => by
    simp only [weighF]
    obtain ⟨-, -, -, hs, -, hk⟩ := fit_enc hf
    have h2 := size_div hs
    exact weighL_ge (weighF m) v.l (fun x hx left h => weighF_ge m x left (hk x hx) h) _ (by omega)
structure SW (f : V → Int → Int) (l : List V) (left0 : Int) where
  i : Nat
  left : Int
  hi : i ≤ l.length
  hl : -300000000000000000 ≤ left
  hu : left ≤ 1099511627776
  ok : weighL f l left0 = weighL f (l.drop i) left
theorem weigh_ev (m : Nat) : ∀ (v : V) (left : Int), m ≤ 1000 → 0 ≤ left → left ≤ 1099511627776 → Ev E 33 [enc v, .int left, .int (m : Int)] (.d (.int (weighF m v left))) := by
  induction m with
  | zero =>
    intro v left _ h0 hu
    refine Ev.fit fun hfit => ?_
    obtain ⟨-, -, -, hs, -, hk⟩ := fit_enc (hfit (enc v) (by simp))
    have hd := size_div hs
    refine enter3 Tryd.func33 Tryd.ntmps33 rfl rfl fun w0 F0 => ?_
    repeat' (first | (refine qS rfl ?_ ?_; (first | exact True.intro | rfl | assumption | omega | (simp only [inR]; omega) | ((show _ ≤ (9223372036854775807 : Nat)); (try simp only [ByteArray.size_append]); omega) | exact tmod_ok (by omega) (by omega) | exact tdiv_ok (by omega) (by omega) | exact ⟨rfl, by decide, by decide⟩)) | refine qA ?_ | refine qB rfl ?_ | refine qC (by kernel_rfl) ?_ | refine qD ?_ | refine qE ?_ | refine qF ?_ | refine qG ?_ | refine qH rfl ?_ | (refine qT rfl ?_ ?_; (first | rfl | assumption)) | (refine qU rfl ?_ ?_; (first | rfl | assumption)) | refine qL rfl rfl ?_ | refine qM rfl rfl rfl ?_ | refine qO rfl rfl rfl ?_ | refine qX (b' := true) rfl rfl rfl rfl (by assumption) ?_ | refine qX (b' := false) rfl rfl rfl rfl (by assumption) ?_ | (refine qY rfl rfl rfl rfl ?_ ?_ <;> intro _) | exact (rfl : (_ : D) = _) | exact (rfl : (_ : List D) = _))
  | succ m ih =>
    intro v left hm h0 hu
    refine Ev.fit fun hfit => ?_
    obtain ⟨-, -, -, hs, hmax, hk⟩ := fit_enc (hfit (enc v) (by simp))
    have hd := size_div hs
    have hlen : (kids v).length = v.l.length := kids_len v
    have hm1 : decide (((m + 1 : Nat) : Int) < 1) = false := by simp; omega
    have hm2 : ((m + 1 : Nat) : Int) - 1 = (m : Int) := by omega
    simp only [weighF]
    refine enter3 Tryd.func33 Tryd.ntmps33 rfl rfl fun w0 F0 => ?_
    repeat' (first | (refine qS rfl ?_ ?_; (first | exact True.intro | rfl | assumption | omega | (simp only [inR]; omega) | ((show _ ≤ (9223372036854775807 : Nat)); (try simp only [ByteArray.size_append]); omega) | exact tmod_ok (by omega) (by omega) | exact tdiv_ok (by omega) (by omega) | exact ⟨rfl, by decide, by decide⟩)) | refine qA ?_ | refine qB rfl ?_ | refine qC (by kernel_rfl) ?_ | refine qD ?_ | refine qE ?_ | refine qF ?_ | refine qG ?_ | refine qH rfl ?_ | (refine qT rfl ?_ ?_; (first | rfl | assumption)) | (refine qU rfl ?_ ?_; (first | rfl | assumption)) | refine qL rfl rfl ?_ | refine qM rfl rfl rfl ?_ | refine qO rfl rfl rfl ?_ | refine qX (b' := true) rfl rfl rfl rfl (by assumption) ?_ | refine qX (b' := false) rfl rfl rfl rfl (by assumption) ?_ | (refine qY rfl rfl rfl rfl ?_ ?_ <;> intro _) | exact (rfl : (_ : D) = _) | exact (rfl : (_ : List D) = _))
    refine go_loop_ (α := SW (weighF m) v.l (left - 1 - (v.s.size : Int).tdiv 50)) (fun p => ⟨[(3, .ptr 0 0), (1, .d (.int p.left)), (2, .d (.int ((m + 1 : Nat) : Int))), (7, .d (.int p.i))], [.var 24 (.w (.d (enc v)))]⟩) (fun p => v.l.length - p.i) ⟨0, _, by omega, by omega, by omega, rfl⟩ ((Le.of' 1 rfl (by repeat (first | exact trivial | refine ⟨⟨rfl, rfl⟩, ?_⟩)) (by repeat (first | exact trivial | refine ⟨rfl, ?_⟩)))) ?_
    rintro ⟨i, le, hi, hl, hu, ok⟩
    dsimp only
    rcases Nat.lt_or_ge i v.l.length with hlt | hge
    · have hd1 : decide ((i : Int) < ((kids v).length : Int)) = true := by rw [hlen]; simpa using hlt
      have hx0 := List.getElem?_eq_getElem hlt
      generalize v.l[i] = x at hx0
      have hx : (kids v)[(i : Int).toNat]? = some (enc x) := kids_get (by rw [Int.toNat_natCast]; exact hx0)
      rw [ok, drop_at hx0]
      simp only [weighL]
      cases hge0 : decide (le ≥ 0) with
      | false =>
        repeat' (first | (refine qS rfl ?_ ?_; (first | exact True.intro | rfl | assumption | omega | (simp only [inR]; omega) | ((show _ ≤ (9223372036854775807 : Nat)); (try simp only [ByteArray.size_append]); omega) | exact tmod_ok (by omega) (by omega) | exact tdiv_ok (by omega) (by omega) | exact ⟨rfl, by decide, by decide⟩)) | refine qA ?_ | refine qB rfl ?_ | refine qC (by kernel_rfl) ?_ | refine qD ?_ | refine qE ?_ | refine qF ?_ | refine qG ?_ | refine qH rfl ?_ | (refine qT rfl ?_ ?_; (first | rfl | assumption)) | (refine qU rfl ?_ ?_; (first | rfl | assumption)) | refine qL rfl rfl ?_ | refine qM rfl rfl rfl ?_ | refine qO rfl rfl rfl ?_ | refine qX (b' := true) rfl rfl rfl rfl (by assumption) ?_ | refine qX (b' := false) rfl rfl rfl rfl (by assumption) ?_ | (refine qY rfl rfl rfl rfl ?_ ?_ <;> intro _) | exact (rfl : (_ : D) = _) | exact (rfl : (_ : List D) = _))
      | true =>
        have hle0 : 0 ≤ le := of_decide_eq_true hge0
        have hw := ih x le (by omega) hle0 hu
        have hg := weighF_ge m x le (hk x (List.mem_of_getElem? hx0)) hle0
        have hg2 := weighF_le m x le hle0
        rw [← hm2] at hw
        repeat' (first | (refine qS rfl ?_ ?_; (first | exact True.intro | rfl | assumption | omega | (simp only [inR]; omega) | ((show _ ≤ (9223372036854775807 : Nat)); (try simp only [ByteArray.size_append]); omega) | exact tmod_ok (by omega) (by omega) | exact tdiv_ok (by omega) (by omega) | exact ⟨rfl, by decide, by decide⟩)) | refine qA ?_ | refine qB rfl ?_ | refine qC (by kernel_rfl) ?_ | refine qD ?_ | refine qE ?_ | refine qF ?_ | refine qG ?_ | refine qH rfl ?_ | refine qI (enc x) rfl (guardX_ok rfl) rfl rfl rfl rfl rfl rfl (by first | omega | decide) hx ?_ | refine qP rfl rfl rfl rfl rfl rfl b33 (hw) ?_ | (refine qT rfl ?_ ?_; (first | rfl | assumption)) | (refine qU rfl ?_ ?_; (first | rfl | assumption)) | refine qL rfl rfl ?_ | refine qM rfl rfl rfl ?_ | refine qO rfl rfl rfl ?_ | refine qX (b' := true) rfl rfl rfl rfl (by assumption) ?_ | refine qX (b' := false) rfl rfl rfl rfl (by assumption) ?_ | (refine qY rfl rfl rfl rfl ?_ ?_ <;> intro _) | exact (rfl : (_ : D) = _) | exact (rfl : (_ : List D) = _))
        refine go_stop ?_
        refine ⟨⟨i + 1, weighF m x le, by omega, hg, by omega, by rw [ok, drop_at hx0]; simp only [weighL]; rw [hge0]; rfl⟩, by dsimp only; omega, (Le.of' 1 rfl (by repeat (first | exact trivial | refine ⟨⟨rfl, rfl⟩, ?_⟩)) (by repeat (first | exact trivial | refine ⟨rfl, ?_⟩)))⟩
    · have hd1 : decide ((i : Int) < ((kids v).length : Int)) = false := by rw [hlen]; simp; omega
      have : v.l.drop i = [] := List.drop_eq_nil_of_le hge
      rw [ok, this]
      repeat' (first | (refine qS rfl ?_ ?_; (first | exact True.intro | rfl | assumption | omega | (simp only [inR]; omega) | ((show _ ≤ (9223372036854775807 : Nat)); (try simp only [ByteArray.size_append]); omega) | exact tmod_ok (by omega) (by omega) | exact tdiv_ok (by omega) (by omega) | exact ⟨rfl, by decide, by decide⟩)) | refine qA ?_ | refine qB rfl ?_ | refine qC (by kernel_rfl) ?_ | refine qD ?_ | refine qE ?_ | refine qF ?_ | refine qG ?_ | refine qH rfl ?_ | (refine qT rfl ?_ ?_; (first | rfl | assumption)) | (refine qU rfl ?_ ?_; (first | rfl | assumption)) | refine qL rfl rfl ?_ | refine qM rfl rfl rfl ?_ | refine qO rfl rfl rfl ?_ | refine qX (b' := true) rfl rfl rfl rfl (by assumption) ?_ | refine qX (b' := false) rfl rfl rfl rfl (by assumption) ?_ | (refine qY rfl rfl rfl rfl ?_ ?_ <;> intro _) | exact (rfl : (_ : D) = _) | exact (rfl : (_ : List D) = _))
end Go.Proofs.YtpjnngfjbcjikaaDoor
